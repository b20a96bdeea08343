/- Walks: loops are moved from a needle to another, by the reference. No condition but the machine's bounds. -/
import Derived.Test.YtpmfkpehmckgmaaMachD
namespace Go.Proofs.Ytpmfkpehmckgmaa
open Go.RowKit
set_option maxRecDepth 20000

/-- 'append(out, x...)' at a step of a region that draws its order: x reads as known cells. -/
theorem step_appR {P : Program} {o : Oper} {cond : Bool} {a : Act} {K : Act → World → Prop} {Q : Exit → Act → World → Prop} {E : Prop} (W : World) (hcond : cond = true) (s x : Operand) (t : TypeId)
    (ho : o.op = .call { callee := .builtin .append, args := #[s, x], argTypes := #[t, t] })
    (base : Nat) (e : TypeId) (i : TypeInfo) (z : Value) (size bytes : Nat) (ht : P.underlying t = some (.slice e)) (hi : P.info? e = some i) (hz : i.zero = some z)
    (hsize : i.size = size) (hby : i.bytes = bytes) (hzs : z.cells.size = size) (hsz : 0 < size)
    (v : Value) (n : Nat) (xs : List Value) (hs : a.eval s = v) (hown : W.ownsRow base e size v n xs)
    (A2 : Option Addr) (m c : Nat) (f : Nat → Value) (hx : a.eval x = .slice A2 m c) (hrd : Rd W A2 (m * size) f) (h1 : ∀ j, (f j).oneCell' = true)
    (h63 : n + m ≤ maxLen) (hbytes : (n + m) * bytes ≤ 140737488355328) (hbase : base ≤ W.heap.size)
    (h : ∀ v' w', w'.ownsRow base e size v' (n + m) (xs ++ (List.range (m * size)).map f) → Fr W w' (fun b => v.ownBlock = some b) → K (a.put o.dst v') w') :
    if cond = true then Oper.wp P o a W K Q else E := by
  rw [if_pos hcond]
  rcases A2 with _ | ad
  · have hm : m = 0 := by
      rcases Nat.eq_zero_or_pos m with h0 | h0
      · exact h0
      · obtain ⟨g, o', e, _⟩ := hrd (Nat.mul_pos h0 hsz)
        cases e
    subst hm
    have hr := append_nil_run (P := P) W base t o.type e i size ht hi v n xs hown c
    unfold Oper.wp execOp
    simp only [ho, resolve, invoke, builtin, Sem.run_bind, Sem.run_pure, Result.andThen_ok, List.map_toArray, List.map_cons, List.map_nil, hs, hx, hr]
    exact h _ _ (by simpa using hown) (Fr.refl _ _)
  · refine wp_append_own W s x t ho base e i z size bytes ht hi hz hsize hby hzs hsz v n xs hs hown ad m c ((List.range (m * size)).map f) hx (by simp) (fun j u hu => ?_) (fun u hu => ?_) h63 hbytes hbase ?_
    · obtain ⟨hj, rfl⟩ : j < m * size ∧ f j = u := by
        by_cases hj : j < m * size
        · simp [hj] at hu; exact ⟨hj, hu⟩
        · rw [List.getElem?_eq_none (by simpa using hj)] at hu; cases hu
      obtain ⟨g, o', e, _, hr⟩ := hrd (by omega)
      injection e with e
      subst e
      rw [Addr.add_lit]
      exact hr j hj
    · obtain ⟨j, _, rfl⟩ := List.mem_map.1 hu
      exact h1 j
    · intro v' w' h2 h3 _
      exact h v' w' h2 ⟨h3.os, h3.tape, h3.output, h3.size, fun b hb hne => h3.block b hb (fun e => hne e.symm)⟩
/-- A needle's loops replaced. -/
def setN (s : Mst) (b x : Int) (m : Nat) : Mst := if b = 1 then { s with f := fun q => if q = x.toNat then m else s.f q } else { s with k := fun q => if q = x.toNat then m else s.k q }
theorem setN_W (s : Mst) (b x : Int) (m : Nat) : (setN s b x m).W = s.W := by unfold setN; split <;> rfl
theorem setN_rk (s : Mst) (b x : Int) (m : Nat) : (setN s b x m).rk = s.rk := by unfold setN; split <;> rfl
theorem setN_n (s : Mst) (b x : Int) (m : Nat) : (setN s b x m).n = s.n := by unfold setN; split <;> rfl
section
variable {tg : Nat → Nat} {a : MAdr} {s : Mst} {D : Nat} {w : World}
theorem Mem.put (h : Mem tg a s w) {b x : Int} {v : Value} {m : Nat} (hx : 0 ≤ x) (hx1 : x < s.W) (hv : LOwn w v m) (hf : ∀ q, v.ownBlock = some q → tg q = 0) {w' : World} (hw' : ∃ w1, Below w.heap.size w w1 ∧ w' = w1.setCell ⟨bedG a b, x.toNat, none⟩ v) :
    ∃ tg' a', a'.g = a.g ∧ Mem tg' a' (setN s b x m) w' ∧ Fr w w' (OwnB tg) ∧ ∀ q, tg' q ≠ 0 → tg q ≠ 0 ∨ v.ownBlock = some q := by
  obtain ⟨w1, hb, rfl⟩ := hw'
  have h1 := h.below hb
  have hv1 : LOwn w1 v m := hv.blk fun q hq => hb.block q (hv.lt q hq)
  have ht : ∀ (c q : Nat), retag tg v c q ≠ 0 → tg q ≠ 0 ∨ v.ownBlock = some q := fun c q hq => by
    unfold retag at hq
    split at hq
    · exact .inr ‹_›
    · exact .inl hq
  have hfr : Fr w (w1.setCell ⟨bedG a b, x.toNat, none⟩ v) (OwnB tg) := (Fr.of_below hb _).set (by
    unfold OwnB bedG
    show tg (if b = 1 then a.gf else a.gk) ≠ 0
    split
    · rw [h.tf]; omega
    · rw [h.tk]; omega) v
  by_cases hb1 : b = 1
  · subst hb1
    exact ⟨_, { a with F := fun q => if q = x.toNat then v else a.F q }, rfl, h1.setF (h1.rest (8 + 2 * x.toNat) fun _ _ _ => rfl) (Nat.le_refl _) (by omega) hv1 fun q hq => .inl (hf q hq), hfr, ht _⟩
  · have e1 : bedG a b = a.gk := if_neg hb1
    have e2 : setN s b x m = { s with k := fun q => if q = x.toNat then m else s.k q } := if_neg hb1
    rw [e1] at hfr ⊢
    rw [e2]
    exact ⟨_, { a with K := fun q => if q = x.toNat then v else a.K q }, rfl, h1.setK (h1.rest (9 + 2 * x.toNat) fun _ _ _ => rfl) (Nat.le_refl _) (by omega) hv1 fun q hq => .inl (hf q hq), hfr, ht _⟩
end
theorem Fr.next {w w1 w2 : World} {F F2 : Nat → Prop} (h : Fr w w1 F) (h2 : Fr w1 w2 F2) (hF : ∀ b, F2 b → F b ∨ w.heap.size ≤ b) : Fr w w2 F :=
  ⟨h2.os.trans h.os, h2.tape.trans h.tape, h2.output.trans h.output, Nat.le_trans h.size h2.size, fun b hb hn => (h2.block b (Nat.lt_of_lt_of_le hb h.size) fun h' => (hF b h').elim hn (fun _ => by omega)).trans (h.block b hb hn)⟩
theorem own_rise {w : World} {B B' : Nat} {e : TypeId} {size n : Nat} {v : Value} {xs : List Value} (ho : w.ownsRow B e size v n xs) (h : ∀ b, v.ownBlock = some b → B' ≤ b) : w.ownsRow B' e size v n xs := by
  obtain ⟨hl, hn | ⟨g, cap, cur, rfl, hb, hr⟩⟩ := ho
  · exact ⟨hl, .inl hn⟩
  · exact ⟨hl, .inr ⟨g, cap, cur, rfl, h g rfl, hr⟩⟩
/-- The machine is on its way from the world wb. -/
structure At (wb : World) (tgb : Nat → Nat) (g : Nat) (s : Mst) (w : World) (tg : Nat → Nat) (a : MAdr) : Prop where
  g : a.g = g
  m : Mem tg a s w
  f : Fr wb w (OwnB tgb)
  t : ∀ q, tg q ≠ 0 → tgb q ≠ 0 ∨ wb.heap.size ≤ q
section
variable {wb : World} {tgb tg : Nat → Nat} {a : MAdr} {s : Mst} {w w' : World} {g : Nat}
theorem At.start (h : Mem tg a s w) : At w tg a.g s w tg a := ⟨rfl, h, Fr.refl _ _, fun _ hq => .inl hq⟩
theorem At.moved (h : At wb tgb g s w tg a) : Moved wb tgb g s w := ⟨tg, a, h.g, h.m, h.f, h.t⟩
theorem At.below (h : At wb tgb g s w tg a) (hb : Below w.heap.size w w') : At wb tgb g s w' tg a := ⟨h.g, h.m.below hb, h.f.then_below (hb.mono h.f.size), h.t⟩
theorem At.fr (h : At wb tgb g s w tg a) (hf : Fr w w' (OwnB tg)) : Fr wb w' (OwnB tgb) := h.f.next hf h.t
theorem At.next {s' : Mst} (h : At wb tgb g s w tg a) (hm : Moved w tg g s' w') : ∃ tg' a', At wb tgb g s' w' tg' a' ∧ Fr w w' (OwnB tg) ∧ ∀ q, tg' q ≠ 0 → tg q ≠ 0 ∨ w.heap.size ≤ q := by
  obtain ⟨tg', a', hg, hm', hf, ht⟩ := hm
  refine ⟨tg', a', ⟨hg, hm', h.fr hf, fun q hq => ?_⟩, hf, ht⟩
  rcases ht q hq with h1 | h1
  · exact h.t q h1
  · exact .inr (Nat.le_trans h.f.size h1)
theorem At.free (h : At wb tgb g s w tg a) {b : Nat} (hb : tgb b = 0) (hlt : b < wb.heap.size) : tg b = 0 := Decidable.byContradiction fun hn => by
  rcases h.t b hn with h1 | h1
  · exact h1 hb
  · omega
/-- The operation is as it was. -/
theorem At.op (h : At wb tgb g s w tg a) {bo o : Nat} {k d fb fa tb ta c r : Int} (ho : OpCe bo o k d fb fa tb ta c r wb) (hb : tgb bo = 0) : OpCe bo o k d fb fa tb ta c r w ∧ tg bo = 0 :=
  ⟨(opCe_loc bo o k d fb fa tb ta c r).fr ho h.f fun b hF hn => by subst hF; exact hn hb, h.free hb (World.block_lt_of_cell? wb _ ho.c0)⟩
theorem At.mark7 {v : Value} (h : At wb tgb g s w tg a) (hf : ∀ q, v.ownBlock = some q → w.heap.size ≤ q ∨ tg q = 0) (hv : ∀ q, v.ownBlock = some q → q < w.heap.size) (hnew : ∀ q, v.ownBlock = some q → wb.heap.size ≤ q) : At wb tgb g s w (retag tg v 7) a :=
  ⟨h.g, h.m.mark7 (fun q hq => (hf q hq).elim (fun h1 => absurd (hv q hq) (by omega)) .inl) hv, h.f, fun q hq => by
    unfold retag at hq
    split at hq
    · exact .inr (hnew q ‹_›)
    · exact h.t q hq⟩
theorem At.put (h : At wb tgb g s w tg a) {b x : Int} {v : Value} {m : Nat} (hx : 0 ≤ x) (hx1 : x < s.W) (hv : LOwn w v m) (hf : ∀ q, v.ownBlock = some q → tg q = 0 ∧ wb.heap.size ≤ q) (hw' : ∃ w1, Below w.heap.size w w1 ∧ w' = w1.setCell ⟨bedG a b, x.toNat, none⟩ v) :
    ∃ tg' a', At wb tgb g (setN s b x m) w' tg' a' := by
  obtain ⟨tg', a', hg, hm, hfr, ht⟩ := h.m.put hx hx1 hv (fun q hq => (hf q hq).1) hw'
  refine ⟨tg', a', hg.trans h.g, hm, h.fr hfr, fun q hq => ?_⟩
  rcases ht q hq with h1 | h1
  · exact h.t q h1
  · exact .inr (hf q h1).2
end
section
variable {tg : Nat → Nat} {a : MAdr} {s : Mst} {D : Nat} {w : World}
/-- What a step's code leaves. -/
def CodeP (w : World) (tg : Nat → Nat) (g : Nat) (code : Int) (s' : Mst) (e : Ending) (w' : World) : Prop := e = .returned (.int .i64 code) ∧ Fr w w' (OwnB tg) ∧ (code = 0 → Moved w tg g s' w')
def moveCode (s : Mst) (fb fa tb ta : Int) : Int := if placeI fb fa s.rk = placeI tb ta s.rk then (if lstN s fb fa = 0 then 7 else if 4 < lstN s fb fa + lstN s tb ta then 5 else 0) else 8
def moveSt (s : Mst) (fb fa tb ta : Int) : Mst := setN (setN s tb ta (lstN s fb fa + lstN s tb ta)) fb fa 0
theorem Mem.lst (H : Mem tg a s w) {b x : Int} (hx : 0 ≤ x) (hx1 : x < s.W) : LOwn w (lstV a b x) (lstN s b x) := by
  unfold lstV lstN
  split
  · exact H.lf _ (by omega)
  · exact H.lk _ (by omega)
theorem Mem.lstT (H : Mem tg a s w) {b x : Int} (hx : 0 ≤ x) (hx1 : x < s.W) : ∀ q, (lstV a b x).ownBlock = some q → tg q ≠ 0 := fun q hq => by
  unfold lstV at hq
  split at hq
  · rw [H.tF _ (by omega) q hq]; omega
  · rw [H.tK _ (by omega) q hq]; omega
theorem lstN_le (hs : MOk s D) {b x : Int} (hx : 0 ≤ x) (hx1 : x < s.W) : lstN s b x ≤ 4 := by
  unfold lstN
  split
  · exact hs.fb _ (by omega)
  · exact hs.kb _ (by omega)
set_option maxHeartbeats 2000000 in
theorem l07Move_any (bo o : Nat) (k d fb fa tb ta c r : Int) (H : Mem tg a s w) (hs : MOk s D) (ho : OpCe bo o k d fb fa tb ta c r w) (hbo : tg bo = 0) (ha0 : 0 ≤ fa) (ha1 : fa < s.W) (hta0 : 0 ≤ ta) (hta1 : ta < s.W) :
    Calls Try.prog 86 #[.pointer (some ⟨a.g, 0, none⟩), .pointer (some ⟨bo, o, none⟩)] w (CodeP w tg a.g (moveCode s fb fa tb ta) (moveSt s fb fa tb ta)) := by
  obtain ⟨i0, hi, iz, is, ib⟩ := info_parts infoN
  have hw2 := hs.w2
  have hr1 := hs.r1
  have hr2 := hs.r2
  obtain ⟨nf, hnf⟩ : ∃ n, n = lstN s fb fa := ⟨_, rfl⟩
  obtain ⟨nt, hnt⟩ : ∃ n, n = lstN s tb ta := ⟨_, rfl⟩
  have hf4 : nf ≤ 4 := by rw [hnf]; exact lstN_le hs ha0 ha1
  have ht4 : nt ≤ 4 := by rw [hnt]; exact lstN_le hs hta0 hta1
  have hlf : LOwn w (lstV a fb fa) nf := by rw [hnf]; exact H.lst ha0 ha1
  have hlt : LOwn w (lstV a tb ta) nt := by rw [hnt]; exact H.lst hta0 hta1
  obtain ⟨Af, cf, hvf⟩ := hlf.form
  obtain ⟨Au, cu, hvt⟩ := hlt.form
  have HVF := Lib.hid hvf
  have HVT := Lib.hid hvt
  rw [hvf] at hlf
  rw [hvt] at hlt
  have HLF := Lib.hid hlf
  have HLT := Lib.hid hlt
  have HH := Lib.hid H
  have HO := Lib.hid ho
  have o2 := ho.c2
  have o3 := ho.c3
  have o4 := ho.c4
  have o5 := ho.c5
  have m1 : w.cell? ⟨a.g, 1, none⟩ = some (.int .i64 s.rk) := H.m.cell 1
  have hgo := World.block_lt_of_cell? w _ o2
  have hgm := World.block_lt_of_cell? w _ m1
  have HGO := Lib.hid hgo
  have HGM := Lib.hid hgm
  have HM1 := Lib.hid m1
  have HNF := Lib.hid hnf
  have HNT := Lib.hid hnt
  clear hvf hvt hlf hlt H ho hnf hnt
  go_enter Try.func86, Try.ntmps86
  go_wp2_with fail
  refine (l07On_any fb fa w HH.out ha0 ha1).mono ?_
  rintro e w1 ⟨rfl, hb1⟩
  rw [HVF.out]
  have HB1 := Lib.hid hb1
  have k4 := ((bcell HB1.out).1 bo (o + 4) HGO.out).trans o4
  have k5 := ((bcell HB1.out).1 bo (o + 4 + 1) HGO.out).trans o5
  clear hb1 o4 o5 m1 o2 o3 hgo hgm
  go_wp2_with fail
  refine (l07On_any tb ta w1 (HH.out.below HB1.out) hta0 hta1).mono ?_
  rintro e w2 ⟨rfl, hb2⟩
  rw [HVT.out]
  have HB2 : Hid (Below w.heap.size w w2) := Lib.hid (HB1.out.trans (hb2.mono HB1.out.size))
  have o2 := ((bcell HB2.out).1 bo (o + 2) HGO.out).trans HO.out.c2
  have o3 := ((bcell HB2.out).1 bo (o + 2 + 1) HGO.out).trans HO.out.c3
  have o4 := ((bcell HB2.out).1 bo (o + 4) HGO.out).trans HO.out.c4
  have o5 := ((bcell HB2.out).1 bo (o + 4 + 1) HGO.out).trans HO.out.c5
  have m1 := ((bcell HB2.out).1 a.g 1 HGM.out).trans HM1.out
  clear hb2 k4 k5
  go_wp2_with fail
  obtain ⟨x1, hx1⟩ : ∃ x, x = placeI fb fa s.rk := ⟨_, rfl⟩
  obtain ⟨x2, hx2⟩ : ∃ x, x = placeI tb ta s.rk := ⟨_, rfl⟩
  have HX1 := Lib.hid hx1
  have HX2 := Lib.hid hx2
  clear hx1 hx2
  have O4 := Lib.hid o4
  have O5 := Lib.hid o5
  have O2 := Lib.hid o2
  have O3 := Lib.hid o3
  have M1 := Lib.hid m1
  have HG2 := Lib.hid (Nat.lt_of_lt_of_le HGO.out HB2.out.size)
  have HM2 := Lib.hid (Nat.lt_of_lt_of_le HGM.out HB2.out.size)
  go_region_held3 (fun w' => w'.cell? ⟨bo, o + 2, none⟩ = some (.int .i64 fb) ∧ w'.cell? ⟨bo, o + 2 + 1, none⟩ = some (.int .i64 fa) ∧ w'.cell? ⟨bo, o + 4, none⟩ = some (.int .i64 tb) ∧ w'.cell? ⟨bo, o + 4 + 1, none⟩ = some (.int .i64 ta) ∧ w'.cell? ⟨a.g, 1, none⟩ = some (.int .i64 s.rk)) (go_keep)
    (first
      | (go_at_call_of 83 fa; refine (l07Place_any fb fa s.rk w2.drew ha0 (by omega) hr1 hr2).mono ?_; rintro e w3 ⟨he, hb3⟩; obtain rfl : e = .returned (.int .i64 x1) := he.trans (by rw [HX1.out]); have HB3 : Hid (Below w2.heap.size w2 w3) := Lib.hid (((Below.refl w2.heap.size w2).drew).trans hb3); have kx2 := ((bcell HB3.out).1 bo (o + 2) HG2.out).trans O2.out; have kx3 := ((bcell HB3.out).1 bo (o + 2 + 1) HG2.out).trans O3.out; have kx4 := ((bcell HB3.out).1 bo (o + 4) HG2.out).trans O4.out; have kx5 := ((bcell HB3.out).1 bo (o + 4 + 1) HG2.out).trans O5.out; have km1 := ((bcell HB3.out).1 a.g 1 HM2.out).trans M1.out; clear hb3 he)
      | (go_at_call_of 83 ta; refine (l07Place_any tb ta s.rk w3 hta0 (by omega) hr1 hr2).mono ?_; rintro e w4 ⟨he, hb4⟩; obtain rfl : e = .returned (.int .i64 x2) := he.trans (by rw [HX2.out]); have HB4 : Hid (Below w2.heap.size w2 w4) := Lib.hid (HB3.out.trans (hb4.mono HB3.out.size)); have ky2 := ((bcell HB4.out).1 bo (o + 2) HG2.out).trans O2.out; have ky3 := ((bcell HB4.out).1 bo (o + 2 + 1) HG2.out).trans O3.out; have ky4 := ((bcell HB4.out).1 bo (o + 4) HG2.out).trans O4.out; have ky5 := ((bcell HB4.out).1 bo (o + 4 + 1) HG2.out).trans O5.out; have ky1 := ((bcell HB4.out).1 a.g 1 HM2.out).trans M1.out; clear hb4 he kx2 kx3 kx4 kx5 km1))
  rename_i hHeld
  clear hHeld o2 o3 o4 o5 m1 ky1
  have HBW : Hid (Below w.heap.size w w4) := Lib.hid (HB2.out.trans (HB4.out.mono HB2.out.size))
  have HCODE := Lib.hid (show moveCode s fb fa tb ta = if x1 = x2 then (if nf = 0 then 7 else if 4 < nf + nt then 5 else 0) else 8 by rw [HX1.out, HX2.out, HNF.out, HNT.out]; rfl)
  clear HX1 HX2
  by_cases hxx : x1 = x2
  · subst hxx
    by_cases h0 : nf = 0
    · subst h0
      go_wp2_with fail
      go_ret
      exact ⟨by rw [HCODE.out]; simp, Fr.of_below HBW.out _, fun h => by rw [HCODE.out] at h; simp at h⟩
    · have h0' : ((nf : Int) == 0) = false := by simp; omega
      by_cases h4 : 4 < nf + nt
      · have HC := Lib.hid (show moveCode s fb fa tb ta = 5 by rw [HCODE.out]; simp [h0, h4])
        go_wp2_with fail
        go_ret
        exact ⟨by rw [HC.out]; rfl, Fr.of_below HBW.out _, fun h => by rw [HC.out] at h; omega⟩
      · have HC := Lib.hid (show moveCode s fb fa tb ta = 0 by rw [HCODE.out]; simp [h0, h4])
        have HB4W := HBW
        by_cases htb : tb = 2
        · subst htb
          go_wp2_with fail
          go_region_held3 (fun w' => w'.cell? ⟨bo, o + 4, none⟩ = some (.int .i64 2) ∧ w'.cell? ⟨bo, o + 4 + 1, none⟩ = some (.int .i64 ta)) (go_keep)
            (first
              | (go_at_call 100; refine (l00Own_any _ nf w4.drew (HLF.out.blk fun q hq => HB4W.out.block q (HLF.out.lt q hq)) (by omega)).mono ?_; rintro e w5 ⟨vo, rfl, hlo, hnew, hb5⟩; obtain ⟨Ao, co, rfl⟩ := hlo.form; have HB5 : Hid (Below w.heap.size w w5) := Lib.hid (HBW.out.trans (((Below.refl w4.heap.size w4).drew.trans hb5).mono HBW.out.size)); have kx4 := ((bcell HB5.out).1 bo (o + 4) HGO.out).trans HO.out.c4; have kx5 := ((bcell HB5.out).1 bo (o + 4 + 1) HGO.out).trans HO.out.c5; obtain ⟨xs, hxs⟩ := hlo; have HXS := Lib.hid (own_rise hxs (B' := w.heap.size) fun q hq => Nat.le_trans HBW.out.size (hnew q hq)); obtain ⟨A9, c9, ys, he9, hrd⟩ := (HLT.out.blk fun q hq => HB5.out.block q (HLT.out.lt q hq)).rd; injection he9 with e1 e2 e3; subst e1 e3; have HRD := Lib.hid hrd; clear hxs hnew hb5 hrd e2)
              | (refine step_appR w5 (by rfl) (.tmp 59) (.tmp 60) _ (by rfl) w.heap.size 2 i0 _ 1 8 Try.underlying41 hi iz is ib rfl (by omega) (.slice Ao nf co) nf (ints xs) (by rfl) HXS.out Au nt cu (fun j => .int .i64 (ys.getD j 0)) (by rfl) (by rw [Nat.mul_one]; exact HRD.out) (fun j => rfl) (by unfold maxLen; omega) (by omega) HB5.out.size ?_; intro v6 w6 hown6 hfr6; obtain ⟨A6, c6, rfl⟩ := own_form hown6; have HB6 : Hid (Below w.heap.size w w6) := Lib.hid (HB5.out.trans (hfr6.own HXS.out HB5.out.size)); rw [Nat.mul_one, ints_range, ← ints_app] at hown6; have HL6 : Hid (LOwn w6 (.slice A6 (nf + nt) c6) (nf + nt)) := Lib.hid ⟨_, own_base hown6 (Nat.zero_le _)⟩; have HN6 := Lib.hid (own_low hown6); have kz4 := ((bcell HB6.out).1 bo (o + 4) HGO.out).trans HO.out.c4; have kz5 := ((bcell HB6.out).1 bo (o + 4 + 1) HGO.out).trans HO.out.c5; clear hown6 hfr6 kx4 kx5)
              | (go_at_call 89; refine (l07Set_any 2 ta _ w6 (HH.out.below HB6.out) hta0 hta1 ⟨_, _, _, rfl⟩).mono ?_; rintro e w8 ⟨rfl, hset⟩; obtain ⟨tg1, a1, hat1⟩ := ((At.start HH.out).below HB6.out).put (m := nf + nt) hta0 hta1 HL6.out (fun q hq => ⟨Decidable.byContradiction fun hn => by have := HH.out.lt q hn; have := HN6.out q hq; omega, HN6.out q hq⟩) hset; have HAT := Lib.hid hat1; have kv4 := (HAT.out.op HO.out hbo).1.c4; have kv5 := (HAT.out.op HO.out hbo).1.c5; clear hset hat1 kz4 kz5))
          rename_i hHeld
          clear hHeld ky2 ky3 ky4 ky5 kv4 kv5
          have k2 := (HAT.out.op HO.out hbo).1.c2
          have k3 := (HAT.out.op HO.out hbo).1.c3
          go_wp2_with fail
          have hb9 : Below w8.heap.size w8 (w8.alloc (.cells #[] 2)) := (Below.refl _ _).alloc (Nat.le_refl _) _
          have hset9 := l07Set_any fb fa (.slice (some ⟨w8.heap.size, 0, none⟩) 0 0) _ (HAT.out.below hb9).m ha0 (by rw [setN_W]; exact ha1) ⟨_, _, _, rfl⟩
          rw [HAT.out.g] at hset9
          refine hset9.mono ?_
          rintro e w9 ⟨rfl, hs9⟩
          obtain ⟨tg2, a2, hat2⟩ := (HAT.out.below hb9).put (m := 0) ha0 (by rw [setN_W]; exact ha1) ⟨[], World.ownsRow_made w8 #[] 0 (Nat.zero_le _) (by unfold maxLen; omega) rfl⟩ (fun q hq => by
            injection hq with hq
            subst hq
            exact ⟨Decidable.byContradiction fun hn => Nat.lt_irrefl _ (HAT.out.m.lt _ hn), HAT.out.f.size⟩) hs9
          have HA2 := Lib.hid hat2
          clear hat2 hs9 hset9 hb9 k2 k3
          go_wp2_with fail
          go_ret
          exact ⟨by rw [HC.out]; rfl, HA2.out.f, fun _ => ⟨tg2, a2, by have h := HA2.out; unfold moveSt; rw [← HNF.out, ← HNT.out]; exact ⟨h.g, h.m, h.f, h.t⟩⟩⟩
        · have htb' : (tb == 2) = false := by simpa using htb
          go_wp2_with fail
          go_region_held3 (fun w' => w'.cell? ⟨bo, o + 4, none⟩ = some (.int .i64 tb) ∧ w'.cell? ⟨bo, o + 4 + 1, none⟩ = some (.int .i64 ta)) (go_keep)
            (first
              | (go_at_call 100; refine (l00Own_any _ nt w4.drew (HLT.out.blk fun q hq => HB4W.out.block q (HLT.out.lt q hq)) (by omega)).mono ?_; rintro e w5 ⟨vo, rfl, hlo, hnew, hb5⟩; obtain ⟨Ao, co, rfl⟩ := hlo.form; have HB5 : Hid (Below w.heap.size w w5) := Lib.hid (HBW.out.trans (((Below.refl w4.heap.size w4).drew.trans hb5).mono HBW.out.size)); have kx4 := ((bcell HB5.out).1 bo (o + 4) HGO.out).trans HO.out.c4; have kx5 := ((bcell HB5.out).1 bo (o + 4 + 1) HGO.out).trans HO.out.c5; obtain ⟨xs, hxs⟩ := hlo; have HXS := Lib.hid (own_rise hxs (B' := w.heap.size) fun q hq => Nat.le_trans HBW.out.size (hnew q hq)); obtain ⟨A9, c9, ys, he9, hrd⟩ := (HLF.out.blk fun q hq => HB5.out.block q (HLF.out.lt q hq)).rd; injection he9 with e1 e2 e3; subst e1 e3; have HRD := Lib.hid hrd; clear hxs hnew hb5 hrd e2)
              | (refine step_appR w5 (by rfl) (.tmp 69) (.tmp 70) _ (by rfl) w.heap.size 2 i0 _ 1 8 Try.underlying41 hi iz is ib rfl (by omega) (.slice Ao nt co) nt (ints xs) (by rfl) HXS.out Af nf cf (fun j => .int .i64 (ys.getD j 0)) (by rfl) (by rw [Nat.mul_one]; exact HRD.out) (fun j => rfl) (by unfold maxLen; omega) (by omega) HB5.out.size ?_; intro v6 w6 hown6 hfr6; obtain ⟨A6, c6, rfl⟩ := own_form hown6; have HB6 : Hid (Below w.heap.size w w6) := Lib.hid (HB5.out.trans (hfr6.own HXS.out HB5.out.size)); rw [Nat.mul_one, ints_range, ← ints_app] at hown6; have HL6 : Hid (LOwn w6 (.slice A6 (nt + nf) c6) (nt + nf)) := Lib.hid ⟨_, own_base hown6 (Nat.zero_le _)⟩; have HN6 := Lib.hid (own_low hown6); have kz4 := ((bcell HB6.out).1 bo (o + 4) HGO.out).trans HO.out.c4; have kz5 := ((bcell HB6.out).1 bo (o + 4 + 1) HGO.out).trans HO.out.c5; clear hown6 hfr6 kx4 kx5)
              | (go_at_call 89; refine (l07Set_any tb ta _ w6 (HH.out.below HB6.out) hta0 hta1 ⟨_, _, _, rfl⟩).mono ?_; rintro e w8 ⟨rfl, hset⟩; obtain ⟨tg1, a1, hat1⟩ := ((At.start HH.out).below HB6.out).put (m := nt + nf) hta0 hta1 HL6.out (fun q hq => ⟨Decidable.byContradiction fun hn => by have := HH.out.lt q hn; have := HN6.out q hq; omega, HN6.out q hq⟩) hset; have HAT := Lib.hid hat1; have kv4 := (HAT.out.op HO.out hbo).1.c4; have kv5 := (HAT.out.op HO.out hbo).1.c5; clear hset hat1 kz4 kz5))
          rename_i hHeld
          clear hHeld ky2 ky3 ky4 ky5 kv4 kv5
          have k2 := (HAT.out.op HO.out hbo).1.c2
          have k3 := (HAT.out.op HO.out hbo).1.c3
          go_wp2_with fail
          have hb9 : Below w8.heap.size w8 (w8.alloc (.cells #[] 2)) := (Below.refl _ _).alloc (Nat.le_refl _) _
          have hset9 := l07Set_any fb fa (.slice (some ⟨w8.heap.size, 0, none⟩) 0 0) _ (HAT.out.below hb9).m ha0 (by rw [setN_W]; exact ha1) ⟨_, _, _, rfl⟩
          rw [HAT.out.g] at hset9
          refine hset9.mono ?_
          rintro e w9 ⟨rfl, hs9⟩
          obtain ⟨tg2, a2, hat2⟩ := (HAT.out.below hb9).put (m := 0) ha0 (by rw [setN_W]; exact ha1) ⟨[], World.ownsRow_made w8 #[] 0 (Nat.zero_le _) (by unfold maxLen; omega) rfl⟩ (fun q hq => by
            injection hq with hq
            subst hq
            exact ⟨Decidable.byContradiction fun hn => Nat.lt_irrefl _ (HAT.out.m.lt _ hn), HAT.out.f.size⟩) hs9
          have HA2 := Lib.hid hat2
          clear hat2 hs9 hset9 hb9 k2 k3
          go_wp2_with fail
          go_ret
          exact ⟨by rw [HC.out]; rfl, HA2.out.f, fun _ => ⟨tg2, a2, by have h := HA2.out; unfold moveSt; rw [← HNF.out, ← HNT.out, Nat.add_comm nf nt]; exact ⟨h.g, h.m, h.f, h.t⟩⟩⟩
  · have hxx' : (x1 == x2) = false := by simpa using hxx
    go_wp2_with fail
    go_ret
    exact ⟨by rw [HCODE.out, if_neg hxx]; rfl, Fr.of_below HBW.out _, fun h => by rw [HCODE.out, if_neg hxx] at h; omega⟩
end
end Go.Proofs.Ytpmfkpehmckgmaa
