/- Walks: a loop is made, by the reference. No condition but the machine's bounds. -/
import Derived.Test.YtpmfkpehmckgmaaMachA
import Derived.Test.YtpmfkpehmckgmaaRegLast
namespace Go.Proofs.Ytpmfkpehmckgmaa
open Go.RowKit
set_option maxRecDepth 20000

theorem infoI : (Try.prog.info? 122).map (fun i => (i.zero, i.size, i.bytes)) = some (some (.agg #[.int .i64 0, .int .i64 0, .int .i64 0, .int .i64 0, .int .i64 0, .slice none 0 0]), 6, 64) := by kernel_rfl
/-- 'append(out, x)' at a step of a region that draws its order, with what became of all other blocks, and where the new value lies. -/
theorem step_appGa {P : Program} {o : Oper} {cond : Bool} {a : Act} {K : Act → World → Prop} {Q : Exit → Act → World → Prop} {E : Prop} (W : World) (hcond : cond = true) (s x : Operand) (t : TypeId)
    (ho : o.op = .call { callee := .builtin .append, args := #[s, x], argTypes := #[t, t] })
    (base : Nat) (e : TypeId) (i : TypeInfo) (z : Value) (size bytes : Nat) (ht : P.underlying t = some (.slice e)) (hi : P.info? e = some i) (hz : i.zero = some z)
    (hsize : i.size = size) (hby : i.bytes = bytes) (hzs : z.cells.size = size) (hsz : 0 < size)
    (v : Value) (n : Nat) (xs : List Value) (hs : a.eval s = v) (hown : W.ownsRow base e size v n xs)
    (te : TypeId) (m c : Nat) (news : List Value) (hx : a.eval x = .slice (some ⟨W.heap.size, 0, none⟩) m c) (hl : news.length = m * size) (h1 : ∀ u ∈ news, u.oneCell' = true)
    (h63 : n + m ≤ maxLen) (hbytes : (n + m) * bytes ≤ 140737488355328) (hbase : base ≤ W.heap.size)
    (h : ∀ v' w', w'.ownsRow base e size v' (n + m) (xs ++ news) → Fr W w' (fun b => v.ownBlock = some b) → (v'.ownBlock = v.ownBlock ∨ v'.ownBlock = some (W.heap.size + 1)) → K (a.put o.dst v') w') :
    if cond = true then Oper.wp P o a (W.alloc (.cells news.toArray te)) K Q else E := by
  rw [if_pos hcond]
  have hn := heap_alloc_new W (.cells news.toArray te)
  obtain ⟨v', w', hr, h2, h3, _, h5⟩ := run_append_own_at (P := P) (W.alloc (.cells news.toArray te)) base t o.type e i z size bytes ht hi hz hsize hby hzs hsz v n xs (hown.alloc _) ⟨W.heap.size, 0, none⟩ m c news hl (by
    intro j u hu
    rw [Addr.add_lit, cell_of_row _ _ _ _ _ _ hn]
    simpa using hu) h1 h63 hbytes (by simp; omega)
  unfold Oper.wp execOp
  simp only [ho, resolve, invoke, builtin, Sem.run_bind, Sem.run_pure, Result.andThen_ok, List.map_toArray, List.map_cons, List.map_nil, hs, hx, hr]
  refine h v' w' h2 ⟨h3.os, h3.tape, h3.output, Nat.le_trans (by simp) h3.size, fun b hb hne => ?_⟩ (by simpa using h5)
  exact (h3.block b (by simp; omega) (fun e => hne e.symm)).trans (Below.heap_alloc W _ b hb)
section
variable {tg : Nat → Nat} {a : MAdr} {s : Mst} {D : Nat} {w : World}
def MakeP (w : World) (tg : Nat → Nat) (g : Nat) (s : Mst) (e : Ending) (w' : World) : Prop := e = .returned (.int .i64 s.n) ∧ Moved w tg g { s with n := s.n + 1 } w'
set_option maxHeartbeats 4000000 in
theorem l07Make_any (bo o : Nat) (k d fb fa tb ta c r : Int) (v : Value) (m : Nat) (H : Mem tg a s w) (hn : s.n < 300) (ho : OpCe bo o k d fb fa tb ta c r w) (hbo : tg bo = 0) (hv : LOwn w v m) (hm : m ≤ 1048576) :
    Calls Try.prog 107 #[.pointer (some ⟨a.g, 0, none⟩), .pointer (some ⟨bo, o, none⟩), v] w (MakeP w tg a.g s) := by
  obtain ⟨i0, hi, iz, is, ib⟩ := info_parts infoI
  have hL : ∃ A c, a.L = .slice A s.n c := by obtain ⟨xs, hx, _⟩ := H.l; exact own_form hx
  obtain ⟨AL, cL, hAL⟩ := hL
  have m5 : w.cell? ⟨a.g, 5, none⟩ = some (.slice AL s.n cL) := (H.m.cell 5).trans (by rw [← hAL]; rfl)
  have f5 : w.frozen? ⟨a.g, 5, none⟩ = false := H.m.frozen 5
  have o0 := ho.c0
  have o1 := ho.c1
  have o2 := ho.c2
  have o3 := ho.c3
  have o6 := ho.c6
  have HH := Lib.hid H
  have HO := Lib.hid ho
  have HV := Lib.hid hv
  obtain ⟨Av, cv, hvf⟩ := hv.form
  subst hvf
  clear H ho hv
  go_enter Try.func107, Try.ntmps107
  go_wp2_with fail
  refine wp_region_lastL (S := fun w' => w'.cell? ⟨a.g, 5, none⟩ = some (.slice AL s.n cL) ∧ w'.cell? ⟨bo, o, none⟩ = some (.int .i64 k) ∧ w'.cell? ⟨bo, o + 1, none⟩ = some (.int .i64 d) ∧ w'.cell? ⟨bo, o + 2, none⟩ = some (.int .i64 fb) ∧ w'.cell? ⟨bo, o + 2 + 1, none⟩ = some (.int .i64 fa) ∧ w'.cell? ⟨bo, o + 6, none⟩ = some (.int .i64 c)) _ (by simp) (by kernel_rfl) (by kernel_rfl) ⟨m5, o0, o1, o2, o3, o6⟩ (fun hHeld => ?_)
  simp only [List.dropLast, List.getLast_cons_cons, List.getLast_singleton, List.length_cons, List.length_nil]
  refine wpAnyH_take (i := 0) (v := ?_) rfl (by kernel_rfl) (by kernel_rfl) (by kernel_rfl) (fun _ _ _ h => h) (Or.inl ⟨by rfl, ?_⟩) hHeld ?_
  rotate_left
  · (intro w0 hSw; (try dsimp only at hSw); go_simp <;> with_reducible rfl)
  simp only [List.getElem_toArray, List.getElem_cons_zero, Act.put, List.setIfInBounds_toArray, List.set_cons_zero, List.set_cons_succ]
  refine wpAnyH_take (i := 1) (v := ?_) rfl (by kernel_rfl) (by kernel_rfl) (by kernel_rfl) (fun _ _ _ h => h) (Or.inl ⟨by rfl, ?_⟩) hHeld ?_
  rotate_left
  · (intro w0 hSw; (try dsimp only at hSw); go_simp <;> with_reducible rfl)
  simp only [List.getElem_toArray, List.getElem_cons_succ, List.getElem_cons_zero, Act.put, List.setIfInBounds_toArray, List.set_cons_zero, List.set_cons_succ]
  refine wpAnyH_take (i := 2) (v := ?_) rfl (by kernel_rfl) (by kernel_rfl) (by kernel_rfl) (fun _ _ _ h => h) (Or.inl ⟨by rfl, ?_⟩) hHeld ?_
  rotate_left
  · (intro w0 hSw; (try dsimp only at hSw); go_simp <;> with_reducible rfl)
  simp only [List.getElem_toArray, List.getElem_cons_succ, List.getElem_cons_zero, Act.put, List.setIfInBounds_toArray, List.set_cons_zero, List.set_cons_succ]
  refine wpAnyH_take (i := 3) (v := ?_) rfl (by kernel_rfl) (by kernel_rfl) (by kernel_rfl) (fun _ _ _ h => h) (Or.inl ⟨by rfl, ?_⟩) hHeld ?_
  rotate_left
  · (intro w0 hSw; (try dsimp only at hSw); go_simp <;> with_reducible rfl)
  simp only [List.getElem_toArray, List.getElem_cons_succ, List.getElem_cons_zero, Act.put, List.setIfInBounds_toArray, List.set_cons_zero, List.set_cons_succ]
  refine wpAnyH_take (i := 4) (v := ?_) rfl (by kernel_rfl) (by kernel_rfl) (by kernel_rfl) (fun _ _ _ h => h) (Or.inl ⟨by rfl, ?_⟩) hHeld ?_
  rotate_left
  · (intro w0 hSw; (try dsimp only at hSw); go_simp <;> with_reducible rfl)
  simp only [List.getElem_toArray, List.getElem_cons_succ, List.getElem_cons_zero, Act.put, List.setIfInBounds_toArray, List.set_cons_zero, List.set_cons_succ]
  refine wpAnyH_take (i := 5) (v := ?_) rfl (by kernel_rfl) (by kernel_rfl) (by kernel_rfl) (fun _ _ _ h => h) (Or.inl ⟨by rfl, ?_⟩) hHeld ?_
  rotate_left
  · (intro w0 hSw; (try dsimp only at hSw); go_simp <;> with_reducible rfl)
  simp only [List.getElem_toArray, List.getElem_cons_succ, List.getElem_cons_zero, Act.put, List.setIfInBounds_toArray, List.set_cons_zero, List.set_cons_succ]
  refine wpAnyH_take (i := 6) (v := ?_) rfl (by kernel_rfl) (by kernel_rfl) (by kernel_rfl) (fun _ _ _ h => h) (Or.inl ⟨by rfl, ?_⟩) hHeld ?_
  rotate_left
  · (intro w0 hSw; (try dsimp only at hSw); go_simp <;> with_reducible rfl)
  simp only [List.getElem_toArray, List.getElem_cons_succ, List.getElem_cons_zero, Act.put, List.setIfInBounds_toArray, List.set_cons_zero, List.set_cons_succ]
  refine wpAnyH_take (i := 7) (v := ?_) rfl (by kernel_rfl) (by kernel_rfl) (by kernel_rfl) (fun _ _ _ h => h) (Or.inl ⟨by rfl, ?_⟩) hHeld ?_
  rotate_left
  · (intro w0 hSw; (try dsimp only at hSw); go_simp <;> with_reducible rfl)
  simp only [List.getElem_toArray, List.getElem_cons_succ, List.getElem_cons_zero, Act.put, List.setIfInBounds_toArray, List.set_cons_zero, List.set_cons_succ]
  refine wpAnyH_take (i := 8) (v := ?_) rfl (by kernel_rfl) (by kernel_rfl) (by kernel_rfl) (fun _ _ _ h => h) (Or.inl ⟨by rfl, ?_⟩) hHeld ?_
  rotate_left
  · (intro w0 hSw; (try dsimp only at hSw); go_simp <;> with_reducible rfl)
  simp only [List.getElem_toArray, List.getElem_cons_succ, List.getElem_cons_zero, Act.put, List.setIfInBounds_toArray, List.set_cons_zero, List.set_cons_succ]
  refine wpAnyH_take (i := 9) (v := ?_) rfl (by kernel_rfl) (by kernel_rfl) (by kernel_rfl) (fun _ _ _ h => h) (Or.inl ⟨by rfl, ?_⟩) hHeld ?_
  rotate_left
  · (intro w0 hSw; (try dsimp only at hSw); go_simp <;> with_reducible rfl)
  simp only [List.getElem_toArray, List.getElem_cons_succ, List.getElem_cons_zero, Act.put, List.setIfInBounds_toArray, List.set_cons_zero, List.set_cons_succ]
  refine wpAnyH_take (i := 10) (v := ?_) rfl (by kernel_rfl) (by kernel_rfl) (by kernel_rfl) (fun _ _ _ h => h) (Or.inl ⟨by rfl, ?_⟩) hHeld ?_
  rotate_left
  · (intro w0 hSw; (try dsimp only at hSw); go_simp <;> with_reducible rfl)
  simp only [List.getElem_toArray, List.getElem_cons_succ, List.getElem_cons_zero, Act.put, List.setIfInBounds_toArray, List.set_cons_zero, List.set_cons_succ]
  refine wpAnyH_take (i := 11) (v := ?_) rfl (by kernel_rfl) (by kernel_rfl) (by kernel_rfl) (fun _ _ _ h => h) (Or.inl ⟨by rfl, ?_⟩) hHeld ?_
  rotate_left
  · (intro w0 hSw; (try dsimp only at hSw); go_simp <;> with_reducible rfl)
  simp only [List.getElem_toArray, List.getElem_cons_succ, List.getElem_cons_zero, Act.put, List.setIfInBounds_toArray, List.set_cons_zero, List.set_cons_succ]
  refine wpAnyH_take (i := 12) (v := ?_) rfl (by kernel_rfl) (by kernel_rfl) (by kernel_rfl) (fun _ _ _ h => h) (Or.inl ⟨by rfl, ?_⟩) hHeld ?_
  rotate_left
  · (intro w0 hSw; (try dsimp only at hSw); go_simp <;> with_reducible rfl)
  simp only [List.getElem_toArray, List.getElem_cons_succ, List.getElem_cons_zero, Act.put, List.setIfInBounds_toArray, List.set_cons_zero, List.set_cons_succ]
  refine wpAnyH_take (i := 13) (v := ?_) rfl (by kernel_rfl) (by kernel_rfl) (by kernel_rfl) (fun _ _ _ h => h) (Or.inl ⟨by rfl, ?_⟩) hHeld ?_
  rotate_left
  · (intro w0 hSw; (try dsimp only at hSw); go_simp <;> with_reducible rfl)
  simp only [List.getElem_toArray, List.getElem_cons_succ, List.getElem_cons_zero, Act.put, List.setIfInBounds_toArray, List.set_cons_zero, List.set_cons_succ]
  refine wpAnyH_take (i := 14) (v := ?_) rfl (by kernel_rfl) (by kernel_rfl) (by kernel_rfl) (fun _ _ _ h => h) (Or.inl ⟨by rfl, ?_⟩) hHeld ?_
  rotate_left
  · (intro w0 hSw; (try dsimp only at hSw); go_simp <;> with_reducible rfl)
  simp only [List.getElem_toArray, List.getElem_cons_succ, List.getElem_cons_zero, Act.put, List.setIfInBounds_toArray, List.set_cons_zero, List.set_cons_succ]
  refine wpAnyH_take (i := 15) (v := ?_) rfl (by kernel_rfl) (by kernel_rfl) (by kernel_rfl) (fun _ _ _ h => h) (Or.inl ⟨by rfl, ?_⟩) hHeld ?_
  rotate_left
  · (intro w0 hSw; (try dsimp only at hSw); go_simp <;> with_reducible rfl)
  simp only [List.getElem_toArray, List.getElem_cons_succ, List.getElem_cons_zero, Act.put, List.setIfInBounds_toArray, List.set_cons_zero, List.set_cons_succ]
  refine wpAnyH_take (i := 16) (v := ?_) rfl (by kernel_rfl) (by kernel_rfl) (by kernel_rfl) (fun _ _ _ h => h) (Or.inl ⟨by rfl, ?_⟩) hHeld ?_
  rotate_left
  · (intro w0 hSw; (try dsimp only at hSw); go_simp <;> with_reducible rfl)
  simp only [List.getElem_toArray, List.getElem_cons_succ, List.getElem_cons_zero, Act.put, List.setIfInBounds_toArray, List.set_cons_zero, List.set_cons_succ]
  refine wpAnyH_take (i := 17) (v := ?_) rfl (by kernel_rfl) (by kernel_rfl) (by kernel_rfl) (fun _ _ _ h => h) (Or.inl ⟨by rfl, ?_⟩) hHeld ?_
  rotate_left
  · (intro w0 hSw; (try dsimp only at hSw); go_simp <;> with_reducible rfl)
  simp only [List.getElem_toArray, List.getElem_cons_succ, List.getElem_cons_zero, Act.put, List.setIfInBounds_toArray, List.set_cons_zero, List.set_cons_succ]
  refine wpAnyH_take (i := 18) (v := ?_) rfl (by kernel_rfl) (by kernel_rfl) (by kernel_rfl) (fun _ _ _ h => h) (Or.inl ⟨by rfl, ?_⟩) hHeld ?_
  rotate_left
  · (intro w0 hSw; (try dsimp only at hSw); go_simp <;> with_reducible rfl)
  simp only [List.getElem_toArray, List.getElem_cons_succ, List.getElem_cons_zero, Act.put, List.setIfInBounds_toArray, List.set_cons_zero, List.set_cons_succ]
  refine wpAnyH_take (i := 19) (v := ?_) rfl (by kernel_rfl) (by kernel_rfl) (by kernel_rfl) (fun _ _ _ h => h) (Or.inl ⟨by rfl, ?_⟩) hHeld ?_
  rotate_left
  · (intro w0 hSw; (try dsimp only at hSw); go_simp <;> with_reducible rfl)
  simp only [List.getElem_toArray, List.getElem_cons_succ, List.getElem_cons_zero, Act.put, List.setIfInBounds_toArray, List.set_cons_zero, List.set_cons_succ]
  refine wpAnyH_take (i := 20) (v := ?_) rfl (by kernel_rfl) (by kernel_rfl) (by kernel_rfl) (fun _ _ _ h => h) (Or.inl ⟨by rfl, ?_⟩) hHeld ?_
  rotate_left
  · (intro w0 hSw; (try dsimp only at hSw); go_simp <;> with_reducible rfl)
  simp only [List.getElem_toArray, List.getElem_cons_succ, List.getElem_cons_zero, Act.put, List.setIfInBounds_toArray, List.set_cons_zero, List.set_cons_succ]
  refine wpAnyH_take (i := 21) (v := ?_) rfl (by kernel_rfl) (by kernel_rfl) (by kernel_rfl) (fun _ _ _ h => h) (Or.inl ⟨by rfl, ?_⟩) hHeld ?_
  rotate_left
  · (intro w0 hSw; (try dsimp only at hSw); go_simp <;> with_reducible rfl)
  simp only [List.getElem_toArray, List.getElem_cons_succ, List.getElem_cons_zero, Act.put, List.setIfInBounds_toArray, List.set_cons_zero, List.set_cons_succ]
  refine wpAnyH_take (i := 22) (v := ?_) rfl (by kernel_rfl) (by kernel_rfl) (by kernel_rfl) (fun _ _ _ h => h) (Or.inl ⟨by rfl, ?_⟩) hHeld ?_
  rotate_left
  · (intro w0 hSw; (try dsimp only at hSw); go_simp <;> with_reducible rfl)
  simp only [List.getElem_toArray, List.getElem_cons_succ, List.getElem_cons_zero, Act.put, List.setIfInBounds_toArray, List.set_cons_zero, List.set_cons_succ]
  refine wpAnyH_take (i := 23) (v := ?_) rfl (by kernel_rfl) (by kernel_rfl) (by kernel_rfl) (fun _ _ _ h => h) (Or.inl ⟨by rfl, ?_⟩) hHeld ?_
  rotate_left
  · (intro w0 hSw; (try dsimp only at hSw); go_simp <;> with_reducible rfl)
  simp only [List.getElem_toArray, List.getElem_cons_succ, List.getElem_cons_zero, Act.put, List.setIfInBounds_toArray, List.set_cons_zero, List.set_cons_succ]
  refine wpAnyH_take (i := 24) (v := ?_) rfl (by kernel_rfl) (by kernel_rfl) (by kernel_rfl) (fun _ _ _ h => h) (Or.inl ⟨by rfl, ?_⟩) hHeld ?_
  rotate_left
  · (intro w0 hSw; (try dsimp only at hSw); go_simp <;> with_reducible rfl)
  simp only [List.getElem_toArray, List.getElem_cons_succ, List.getElem_cons_zero, Act.put, List.setIfInBounds_toArray, List.set_cons_zero, List.set_cons_succ]
  refine wpAnyH_take (i := 25) (v := ?_) rfl (by kernel_rfl) (by kernel_rfl) (by kernel_rfl) (fun _ _ _ h => h) (Or.inl ⟨by rfl, ?_⟩) hHeld ?_
  rotate_left
  · (intro w0 hSw; (try dsimp only at hSw); go_simp <;> with_reducible rfl)
  simp only [List.getElem_toArray, List.getElem_cons_succ, List.getElem_cons_zero, Act.put, List.setIfInBounds_toArray, List.set_cons_zero, List.set_cons_succ]
  refine wpAnyH_take (i := 26) (v := ?_) rfl (by kernel_rfl) (by kernel_rfl) (by kernel_rfl) (fun _ _ _ h => h) (Or.inl ⟨by rfl, ?_⟩) hHeld ?_
  rotate_left
  · (intro w0 hSw; (try dsimp only at hSw); go_simp <;> with_reducible rfl)
  simp only [List.getElem_toArray, List.getElem_cons_succ, List.getElem_cons_zero, Act.put, List.setIfInBounds_toArray, List.set_cons_zero, List.set_cons_succ]
  refine wpAnyH_take (i := 27) (v := ?_) rfl (by kernel_rfl) (by kernel_rfl) (by kernel_rfl) (fun _ _ _ h => h) (Or.inl ⟨by rfl, ?_⟩) hHeld ?_
  rotate_left
  · (intro w0 hSw; (try dsimp only at hSw); go_simp <;> with_reducible rfl)
  simp only [List.getElem_toArray, List.getElem_cons_succ, List.getElem_cons_zero, Act.put, List.setIfInBounds_toArray, List.set_cons_zero, List.set_cons_succ]
  refine wpAnyH_ready (rs := [28]) (by kernel_rfl) (by simp) ?_
  refine AllReadyH.cons rfl (fun K hK => ?_) AllReadyH.nil
  simp only [List.getElem_toArray, List.getElem_cons_succ, List.getElem_cons_zero]
  go_simp
  refine (l00Own_any _ m w.drew (HV.out.blk fun _ _ => rfl) hm).mono ?_
  rintro e w1 ⟨vp, rfl, hlp, hnp, hb1⟩
  obtain ⟨Ap, cp, rfl⟩ := hlp.form
  have HB1 : Hid (Below w.heap.size w w1) := Lib.hid (((Below.refl w.heap.size w).drew).trans hb1)
  have hg1 := HH.out.m
  have km5 := ((bcell HB1.out).1 a.g 5 (World.block_lt_of_cell? w _ m5)).trans m5
  have ko0 := ((bcell HB1.out).1 bo o (World.block_lt_of_cell? w _ o0)).trans o0
  have ko1 := ((bcell HB1.out).1 bo (o + 1) (World.block_lt_of_cell? w _ o0)).trans o1
  have ko2 := ((bcell HB1.out).1 bo (o + 2) (World.block_lt_of_cell? w _ o0)).trans o2
  have ko3 := ((bcell HB1.out).1 bo (o + 2 + 1) (World.block_lt_of_cell? w _ o0)).trans o3
  have ko6 := ((bcell HB1.out).1 bo (o + 6) (World.block_lt_of_cell? w _ o0)).trans o6
  clear hb1 m5 o0 o1 o2 o3 o6 hg1
  refine hK.out _ _ ⟨km5, ko0, ko1, ko2, ko3, ko6⟩ (fun hHeld1 => ?_)
  clear hK K hHeld
  refine wpAnyH_take (i := 29) (v := ?_) rfl (by kernel_rfl) (by kernel_rfl) (by kernel_rfl) (fun _ _ _ h => h) (Or.inl ⟨by rfl, ?_⟩) hHeld1 ?_
  rotate_left
  · (intro w0 hSw; (try dsimp only at hSw); go_simp <;> with_reducible rfl)
  simp only [List.getElem_toArray, List.getElem_cons_succ, List.getElem_cons_zero, Act.put, List.setIfInBounds_toArray, List.set_cons_zero, List.set_cons_succ]
  refine wpAnyH_ready (rs := [30]) (by kernel_rfl) (by simp) ?_
  refine AllReadyH.cons rfl (fun K hK => ?_) AllReadyH.nil
  simp only [List.getElem_toArray, List.getElem_cons_succ, List.getElem_cons_zero]
  go_simp
  refine hK.out _ _ (by go_keep) (fun hHeld2 => ?_)
  clear hK K hHeld1
  refine wpAnyH_ready (rs := [31]) (by kernel_rfl) (by simp) ?_
  refine AllReadyH.cons rfl (fun K hK => ?_) AllReadyH.nil
  simp only [List.getElem_toArray, List.getElem_cons_succ, List.getElem_cons_zero]
  have H0 := HH.out.below HB1.out
  have hfr7 : Free tg (.slice Ap m cp) 7 := fun b hb => .inl (Decidable.byContradiction fun hne => by have h1 := HH.out.lt b hne; have h2 : w.heap.size ≤ b := hnp b hb; omega)
  obtain ⟨tg0, htg0⟩ : ∃ t, t = retag tg (.slice Ap m cp) 7 := ⟨_, rfl⟩
  have H1 : Mem tg0 a s w1 := htg0 ▸ H0.mark7 hfr7 hlp.lt
  have htp : TagV tg0 (.slice Ap m cp) 7 := htg0 ▸ retag_new _ _
  have hbo0 : tg0 bo = 0 := by
    rw [htg0]
    unfold retag
    rw [if_neg (fun e => by have h1 : bo < w.heap.size := World.block_lt_of_cell? w _ HO.out.c0; have h2 : w.heap.size ≤ bo := hnp bo e; omega), hbo]
  have ht0 : ∀ b, tg0 b ≠ 0 → tg b ≠ 0 ∨ w.heap.size ≤ b := fun b hb => by
    rw [htg0] at hb
    unfold retag at hb
    split at hb
    · exact .inr (hnp b ‹_›)
    · exact .inl hb
  obtain ⟨xs, hxs, hps⟩ := H1.l
  rw [hAL] at hxs
  refine step_appGa w1 (by rfl) (.tmp 11) (.tmp 37) _ (by rfl) 0 122 i0 _ 6 64 Try.underlying67 hi iz is ib rfl (by omega) (.slice AL s.n cL) s.n xs (by rfl) hxs _ 1 1 [.int .i64 k, .int .i64 c, .int .i64 fb, .int .i64 fa, .int .i64 d, .slice Ap m cp] (by rfl) rfl (by simp [Value.oneCell']) (by unfold maxLen; omega) (by omega) (Nat.zero_le _) ?_
  intro v2 w2 hown2 hfr2 hat2
  obtain ⟨A2, c2, rfl⟩ := own_form hown2
  have hob : ∀ b, (Value.slice AL s.n cL).ownBlock = some b → tg0 b = 5 := fun b hb => H1.tL b (by rw [hAL]; exact hb)
  have hobT : ∀ b, (Value.slice AL s.n cL).ownBlock = some b → tg b = 5 := fun b hb => H0.tL b (by rw [hAL]; exact hb)
  have hgn : ¬ (Value.slice AL s.n cL).ownBlock = some a.g := fun e => by have := hob _ e; rw [H1.tm] at this; omega
  have hon : ¬ (Value.slice AL s.n cL).ownBlock = some bo := fun e => by have := hob _ e; rw [hbo0] at this; omega
  have hlg := World.block_lt_of_cell? w1 _ km5
  have hlo := World.block_lt_of_cell? w1 _ ko0
  have k2m5 := (hfr2.cells hlg hgn 5).trans km5
  have k2o0 := (hfr2.cells hlo hon o).trans ko0
  have k2o1 := (hfr2.cells hlo hon (o + 1)).trans ko1
  have k2o2 := (hfr2.cells hlo hon (o + 2)).trans ko2
  have k2o3 := (hfr2.cells hlo hon (o + 2 + 1)).trans ko3
  have k2o6 := (hfr2.cells hlo hon (o + 6)).trans ko6
  have k2f5 : w2.frozen? ⟨a.g, 5, none⟩ = false := (World.frozen?_of_block (w := w1) (a := ⟨a.g, 5, none⟩) (hfr2.block a.g hlg hgn)).trans (H1.m.frozen 5)
  refine hK.out _ _ ⟨k2m5, k2o0, k2o1, k2o2, k2o3, k2o6⟩ (fun hHeld3 => ?_)
  clear hK K hHeld2
  have r0 := H1.rest (w' := w2) 5 fun b hb h5 => hfr2.block b (H1.lt b hb) fun e => h5 (hob b e)
  have hfree : Free tg0 (.slice A2 (s.n + 1) c2) 5 := fun b hb => by
    rcases hat2 with h | h
    · exact .inr (hob b (h.symm.trans hb))
    · refine .inl (Decidable.byContradiction fun hne => ?_)
      have h1 := H1.lt b hne
      rw [hb] at h
      injection h with h
      omega
  have HM := Lib.hid (H1.setL r0 hfr2.size (IOwn.more hown2 hxs.1 hps (five_ints _ _ _ _ _ _) (by rfl) hm hlp htp fun b hb => hfr2.block b (H1.lt b (by omega)) fun e => by have := hob b e; omega) hfree)
  have HF := Lib.hid (((Fr.of_below HB1.out (OwnB tg)).trans (hfr2.mono fun b hb => by unfold OwnB; rw [hobT b hb]; omega)).set (p := ⟨a.g, 5, none⟩) (by unfold OwnB; rw [H0.tm]; omega) (.slice A2 (s.n + 1) c2))
  have HT := Lib.hid (show ∀ b, retag tg0 (.slice A2 (s.n + 1) c2) 5 b ≠ 0 → tg b ≠ 0 ∨ w.heap.size ≤ b from fun b hb => by
    unfold retag at hb
    split at hb
    · rcases hat2 with h | h
      · exact .inl (by rw [hobT b (h.symm.trans ‹_›)]; omega)
      · refine .inr ?_
        rename_i h2
        rw [h2] at h
        injection h with h
        have := HB1.out.size
        omega
    · exact ht0 b hb)
  clear hob hobT H0 hfr7 htp hbo0 ht0 hps hnp hlp htg0 hgn hon hlg hlo km5 ko0 ko1 ko2 ko3 ko6 r0 hfree hfr2 hown2 hat2 H1 hxs
  refine wpAnyH_take (i := 32) (v := ?_) rfl (by kernel_rfl) (by kernel_rfl) (by kernel_rfl) (fun _ _ _ h => h) (Or.inl ⟨by rfl, ?_⟩) hHeld3 ?_
  rotate_left
  · (intro w0 hSw; (try dsimp only at hSw); go_simp <;> with_reducible rfl)
  simp only [List.getElem_toArray, List.getElem_cons_succ, List.getElem_cons_zero, Act.put, List.setIfInBounds_toArray, List.set_cons_zero, List.set_cons_succ]
  refine wpAnyH_take (i := 33) (v := ?_) rfl (by kernel_rfl) (by kernel_rfl) (by kernel_rfl) (fun _ _ _ h => h) (Or.inl ⟨by rfl, ?_⟩) hHeld3 ?_
  rotate_left
  · (intro w0 hSw; (try dsimp only at hSw); go_simp <;> with_reducible rfl)
  simp only [List.getElem_toArray, List.getElem_cons_succ, List.getElem_cons_zero, Act.put, List.setIfInBounds_toArray, List.set_cons_zero, List.set_cons_succ]
  refine wpAnyH_done (by kernel_rfl) ?_ _
  refine LastPost.of ?_
  go_simp
  have k3 := World.cell?_setCell_same w2 ⟨a.g, 5, none⟩ (.slice A2 (s.n + 1) c2) k2m5
  clear hHeld3 k2m5 k2o0 k2o1 k2o2 k2o3 k2o6 k2f5
  go_wp2_with fail
  go_ret
  exact ⟨by go_num, _, { a with L := .slice A2 (s.n + 1) c2 }, rfl, HM.out, HF.out, HT.out⟩
end
end Go.Proofs.Ytpmfkpehmckgmaa
