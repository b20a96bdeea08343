/- Walks: a drop is executed, by the program. No condition but the machine's bounds and the operation's. (Printed by wip/exgen.py.) -/
import Derived.Test.YtpmfkpehmckgmaaMachXp
namespace Go.Proofs.Ytpmfkpehmckgmaa
open Go.RowKit
set_option maxRecDepth 20000

/-- 'append(out, x...)' at a step of a region that draws its order: x reads as known cells; where the new value lies. -/
theorem step_appRa {P : Program} {o : Oper} {cond : Bool} {a : Act} {K : Act → World → Prop} {Q : Exit → Act → World → Prop} {E : Prop} (W : World) (hcond : cond = true) (s x : Operand) (t : TypeId)
    (ho : o.op = .call { callee := .builtin .append, args := #[s, x], argTypes := #[t, t] })
    (base : Nat) (e : TypeId) (i : TypeInfo) (z : Value) (size bytes : Nat) (ht : P.underlying t = some (.slice e)) (hi : P.info? e = some i) (hz : i.zero = some z)
    (hsize : i.size = size) (hby : i.bytes = bytes) (hzs : z.cells.size = size) (hsz : 0 < size)
    (v : Value) (n : Nat) (xs : List Value) (hs : a.eval s = v) (hown : W.ownsRow base e size v n xs)
    (g2 o2 m c : Nat) (f : Nat → Value) (hx : a.eval x = .slice (some ⟨g2, o2, none⟩) m c) (hrd : RowR W g2 o2 (m * size) f) (h1 : ∀ j, (f j).oneCell' = true)
    (h63 : n + m ≤ maxLen) (hbytes : (n + m) * bytes ≤ 140737488355328) (hbase : base ≤ W.heap.size)
    (h : ∀ v' w', w'.ownsRow base e size v' (n + m) (xs ++ (List.range (m * size)).map f) → Fr W w' (fun b => v.ownBlock = some b) → (v'.ownBlock = v.ownBlock ∨ v'.ownBlock = some W.heap.size) → K (a.put o.dst v') w') :
    if cond = true then Oper.wp P o a W K Q else E := by
  rw [if_pos hcond]
  obtain ⟨v', w', hr, h2, h3, _, h5⟩ := run_append_own_at (P := P) W base t o.type e i z size bytes ht hi hz hsize hby hzs hsz v n xs hown ⟨g2, o2, none⟩ m c ((List.range (m * size)).map f) (by simp) (by
    intro j u hu
    obtain ⟨hj, rfl⟩ : j < m * size ∧ f j = u := by
      by_cases hj : j < m * size
      · simp [hj] at hu; exact ⟨hj, hu⟩
      · rw [List.getElem?_eq_none (by simpa using hj)] at hu; cases hu
    rw [Addr.add_lit]
    exact hrd j hj) (fun u hu => by obtain ⟨j, _, rfl⟩ := List.mem_map.1 hu; exact h1 j) h63 hbytes hbase
  unfold Oper.wp execOp
  simp only [ho, resolve, invoke, builtin, Sem.run_bind, Sem.run_pure, Result.andThen_ok, List.map_toArray, List.map_cons, List.map_nil, hs, hx, hr]
  exact h v' w' h2 ⟨h3.os, h3.tape, h3.output, h3.size, fun b hb hne => h3.block b hb (fun e => hne e.symm)⟩ h5
theorem At.setDR {tg : Nat → Nat} {a : MAdr} {s : Mst} {w w0 wb : World} {tgb : Nat → Nat} {g : Nat} (h : At wb tgb g s w0 tg a) (r0 : MRest tg a s 6 w) (hfr : Fr w0 w (OwnB tg)) {v : Value} {m : Nat} (hv : DOwn w v m) (hf : Free tg v 6) (hnew : ∀ q, v.ownBlock = some q → tgb q ≠ 0 ∨ wb.heap.size ≤ q) :
    At wb tgb g { s with d := m } (w.setCell ⟨a.g, 6, none⟩ v) (retag tg v 6) { a with D := v } :=
  ⟨h.g, h.m.setD r0 hfr.size hv hf, h.fr (hfr.set (p := ⟨a.g, 6, none⟩) (by unfold OwnB; rw [h.m.tm]; omega) v), fun q hq => by
    unfold retag at hq
    split at hq
    · exact hnew q ‹_›
    · exact h.t q hq⟩
/-- The dropped loops' own block was written. -/
theorem At.reD {tg : Nat → Nat} {a : MAdr} {s : Mst} {w w0 wb : World} {tgb : Nat → Nat} {g : Nat} (h : At wb tgb g s w0 tg a) (hf : Fr w0 w (fun b => a.D.ownBlock = some b)) (hd : DOwn w a.D s.d) : At wb tgb g s w tg a := by
  have r := h.m.rest (w' := w) 6 fun b hb h6 => hf.block b (h.m.lt b hb) fun e => h6 (h.m.tD b e)
  exact ⟨h.g, ⟨r.m (by omega), (r.f (by omega)).1, (r.f (by omega)).2, (r.k (by omega)).1, (r.k (by omega)).2, (r.cr (by omega)).1, (r.cr (by omega)).2, fun i hi => r.lf i hi (by omega), fun i hi => r.lk i hi (by omega), r.l (by omega), hd, h.m.tm, h.m.tf, h.m.tk, h.m.tc, h.m.tL, h.m.tD, h.m.tF, h.m.tK, fun b hb => Nat.lt_of_lt_of_le (h.m.lt b hb) hf.size⟩,
    h.fr (hf.mono fun b hb => by unfold OwnB; rw [h.m.tD b hb]; omega), h.t⟩
section
variable {tg : Nat → Nat} {a : MAdr} {s : Mst} {D : Nat} {w : World}
set_option maxHeartbeats 4000000 in
theorem execute_6 {d fb fa tb ta c r : Int} {j : Nat} (H : Mem tg a s w) (hs : MOk s D) (hD : D ≤ 1000000) (hp : OpOk s.W 6 d fb fa tb ta c r j) (hb : OpBeds 6 fb tb) (hf : BedOk 6 fb) : Calls Try.prog 64 #[.pointer (some ⟨a.g, 0, none⟩), .agg #[.int .i64 6, .int .i64 d, .int .i64 fb, .int .i64 fa, .int .i64 tb, .int .i64 ta, .int .i64 c, .int .i64 r]] w (ExP w tg a.g (doCode s 6 d fb fa tb ta j) (doSt s 6 d fb fa tb ta r j)) := by
  have hg : Below w.heap.size w (w.alloc (.cells #[.int .i64 6, .int .i64 d, .int .i64 fb, .int .i64 fa, .int .i64 tb, .int .i64 ta, .int .i64 c, .int .i64 r] 58)) := (Below.refl _ _).alloc (Nat.le_refl _) _
  have HG := Lib.hid hg
  have HA0 := Lib.hid (At.start (H.below hg))
  have hbox := box_ce w 6 d fb fa tb ta c r
  have HBX := Lib.hid hbox
  have HTW : Hid (tg w.heap.size = 0) := Lib.hid (Decidable.byContradiction fun hn => Nat.lt_irrefl _ (H.lt _ hn))
  have hoc := opCode_any (H.below hg) hs hp hb hf
  obtain ⟨code, hcode⟩ : ∃ z, z = doCode s 6 d fb fa tb ta j := ⟨_, rfl⟩
  rw [← hcode] at hoc ⊢
  obtain ⟨s9, hs9⟩ : ∃ z, z = doSt s 6 d fb fa tb ta r j := ⟨_, rfl⟩
  rw [← hs9]
  have HC := Lib.hid hcode
  have HS9 := Lib.hid hs9
  have HOC := Lib.hid hoc
  have HS := Lib.hid hs
  have HP := Lib.hid hp
  have HB := Lib.hid hb
  have HF := Lib.hid hf
  have hlA : ∃ AL cL, a.L = .slice AL s.n cL := HA0.out.L
  have HLA := Lib.hid hlA
  clear H hs hp hb hf hg hoc hcode hs9 hbox hlA
  go_enter Try.func64, Try.ntmps64
  go_wp2_with fail
  refine HOC.out.mono ?_
  rintro e w1 ⟨rfl, hb1⟩
  by_cases hc0 : code = 0
  · subst hc0
    have HA1 := Lib.hid (HA0.out.below hb1)
    have HO1 := Lib.hid (HA1.out.op HBX.out HTW.out).1
    clear hb1 HOC
    obtain ⟨i0, hi, iz, is, ib⟩ := info_parts infoN
    have hfb := HF.out (by omega)
    have ha0 := HP.out.f0
    have ha1 := HP.out.f1
    have hdb := HS.out.db
    have o0 := HO1.out.c0
    have o2 := HO1.out.c2
    have o3 := HO1.out.c3
    have HST : Hid (s9 = setN { s with d := s.d + lstN s fb fa } fb fa 0) := Lib.hid (by rw [HS9.out]; rfl)
    obtain ⟨nf, hnf⟩ : ∃ n, n = lstN s fb fa := ⟨_, rfl⟩
    have hf4 : nf ≤ 4 := by rw [hnf]; exact lstN_le HS.out ha0 ha1
    have hnz : nf ≠ 0 := by
      have h := HC.out
      unfold doCode at h
      rw [if_neg (by omega), if_neg (by omega), if_neg (by omega), if_pos rfl, ← hnf] at h
      intro h0
      rw [if_pos h0] at h
      omega
    have hlf := HA1.out.m.lst (b := fb) ha0 ha1
    rw [← hnf] at hlf
    obtain ⟨Af, cf, hvf⟩ := hlf.form
    have HVF := Lib.hid hvf
    have HNF := Lib.hid hnf
    rw [hvf] at hlf
    obtain ⟨FF, hrf⟩ := hlf.rdf
    obtain ⟨gl, ol, rfl, hgl, hrr⟩ := hrf (by omega)
    have HRR := Lib.hid hrr
    have HGL := Lib.hid hgl
    obtain ⟨qd, hqd, hlD⟩ := HA1.out.m.d
    obtain ⟨AD, cD, hAD⟩ := hlD.form
    rw [hAD] at hlD
    have HAD := Lib.hid hAD
    have HLD1 := Lib.hid hlD
    have HTD : Hid (∀ q, (Value.slice AD qd cD).ownBlock = some q → tg q = 6) := Lib.hid (by rw [← hAD]; exact HA1.out.m.tD)
    have m6 : w1.cell? ⟨a.g, 6, none⟩ = some (.slice AD qd cD) := (HA1.out.m.m.cell 6).trans (by rw [← hAD]; rfl)
    have LG := Lib.hid (World.block_lt_of_cell? w1 _ m6)
    have M6 := Lib.hid m6
    have HTM := Lib.hid HA1.out.m.tm
    clear hlf hvf hnf hrf hrr hgl hlD hAD
    go_wp2_with fail
    go_region_law (first
      | (go_simp; go_at_call 93; (with_reducible refine (on_any fb fa (HA1.out.below ((Below.refl w1.heap.size w1).drew)).m hfb ha0 ha1).mono ?_); rintro e w2 ⟨rfl, hb2⟩; have HB2 : Hid (Below w1.heap.size w1 w2) := Lib.hid (((Below.refl w1.heap.size w1).drew).trans hb2); have kc := (HA1.out.below HB2.out).m.cellN (b := fb) ha0 ha1; rw [HVF.out] at kc; have kd := ((bcell HB2.out).1 a.g 6 LG.out).trans M6.out; have HLD2 := Lib.hid (HLD1.out.blk fun q hq => HB2.out.block q (HLD1.out.lt q hq)); obtain ⟨xs, hxs⟩ := HLD2.out; have HXS := Lib.hid hxs; clear hb2 hxs)
      | (refine step_appRa w2 (by rfl) (.tmp 62) (.tmp 68) _ (by rfl) 0 2 i0 _ 1 8 Try.underlying41 hi iz is ib rfl (by omega) (.slice AD qd cD) qd (ints xs) (by rfl) HXS.out gl ol nf cf (fun j => .int .i64 (FF j)) (by rfl) (by rw [Nat.mul_one]; exact HRR.out.below HGL.out HB2.out) (fun j => rfl) (by unfold maxLen; omega) (by omega) (Nat.zero_le _) ?_; intro v5 w5 hown5 hfr5 hat5; obtain ⟨A5, c5, rfl⟩ := own_form hown5; have hn6 : ¬ (Value.slice AD qd cD).ownBlock = some a.g := (fun e => by have h1 := HTD.out _ e; have h2 := HTM.out; omega); have hlg : a.g < w2.heap.size := Nat.lt_of_lt_of_le LG.out HB2.out.size; have k6 := (hfr5.cells hlg hn6 6).trans kd; have f6 : w5.frozen? ⟨a.g, 6, none⟩ = false := (World.frozen?_of_block (w := w2) (a := ⟨a.g, 6, none⟩) (hfr5.block a.g hlg hn6)).trans ((HA1.out.below HB2.out).m.m.frozen 6); have HOWN5 := Lib.hid hown5; have HFR5 := Lib.hid hfr5; have HAT5 := Lib.hid hat5; clear hown5 hfr5 hat5 hn6 hlg))
    all_goals
      have HA2 := Lib.hid (HA1.out.below HB2.out)
      have HN5 : Hid (∀ q, (Value.slice A5 (qd + nf) c5).ownBlock = some q → tg q = 6 ∨ (tg q = 0 ∧ w2.heap.size ≤ q)) := Lib.hid fun q hq => by
        rcases HAT5.out with h | h
        · exact .inl (HTD.out q (h.symm.trans hq))
        · rw [hq] at h
          have h' : q = w2.heap.size := Option.some.inj h
          exact .inr ⟨Decidable.byContradiction fun hn => by have := HA2.out.m.lt q hn; omega, by omega⟩
      have HL5 : Hid (LOwn w5 (.slice A5 (qd + nf) c5) (qd + nf)) := Lib.hid ⟨xs ++ (List.range nf).map FF, by have h := HOWN5.out; rw [Nat.mul_one] at h; rw [ints_app]; simpa [ints, Function.comp_def] using h⟩
      have HA6 := Lib.hid (HA2.out.setDR (w := w5) (v := .slice A5 (qd + nf) c5) (m := s.d + nf) (HA2.out.m.rest 6 fun b hb h6 => HFR5.out.block b (HA2.out.m.lt b hb) fun e => h6 (HTD.out b e)) (HFR5.out.mono fun b hb => by unfold OwnB; rw [HTD.out b hb]; omega) ⟨qd + nf, by omega, HL5.out⟩ (fun q hq => by rcases HN5.out q hq with h | h; exact .inr h; exact .inl h.1) (fun q hq => by rcases HN5.out q hq with h | h; exact .inl (by omega); exact .inr (Nat.le_trans HA2.out.f.size h.2)))
      have HL6 : Hid (LOwn (w5.setCell ⟨a.g, 6, none⟩ (.slice A5 (qd + nf) c5)) (.slice A5 (qd + nf) c5) (qd + nf)) := Lib.hid (HL5.out.blk fun q hq => set_keep _ _ _ _ (by
        intro e
        have h2 := HTM.out
        have h3 := HA2.out.m.lt a.g (by omega)
        rw [← show q = a.g from e] at h2 h3
        rcases HN5.out q hq with h | h <;> omega))
      clear kc kd m6 o0 o2 o3
      go_wp2_with fail
      refine (sort_any _ (qd + nf) HL6.out (by omega)).mono ?_
      rintro e w7 ⟨rfl, hl7, hf7⟩
      have HA7 := Lib.hid (HA6.out.reD hf7 ⟨qd + nf, by show qd + nf ≤ s.d + nf; omega, hl7⟩)
      have HO7 := Lib.hid (HA7.out.op HBX.out HTW.out).1
      have z0 := HO7.out.c0
      have z2 := HO7.out.c2
      have z3 := HO7.out.c3
      clear hl7 hf7 k6 f6
      go_wp2_with fail
      have hon := on_any fb fa HA7.out.m hfb ha0 ha1
      rw [show bedG ({ a with D := .slice A5 (qd + nf) c5 } : MAdr) fb = bedG a fb from rfl] at hon
      refine hon.mono ?_
      rintro e w8 ⟨rfl, hb8⟩
      clear hon
      have HA8 := Lib.hid (HA7.out.below hb8)
      have k8 := HA8.out.m.cellN (b := fb) ha0 ha1
      replace k8 : w8.cell? ⟨bedG a fb, fa.toNat, none⟩ = some (lstV a fb fa) := k8
      rw [HVF.out] at k8
      have f8 : w8.frozen? ⟨bedG a fb, fa.toNat, none⟩ = false := HA8.out.m.frzN (b := fb) ha0 ha1
      have HA9 := Lib.hid (HA8.out.putX (b := fb) ha0 ha1 (LOwn.nil w8) (fun q hq => by cases hq) (fun q hq => by cases hq))
      have HO9 := Lib.hid (HA9.out.op HBX.out HTW.out).1
      have x0 : (w8.setCell ⟨bedG a fb, fa.toNat, none⟩ (.slice none 0 0)).cell? ⟨w.heap.size, 0, none⟩ = some (.int .i64 6) := HO9.out.c0
      clear hb8 z0 z2 z3
      go_wp2_with (go_at_call 97; refine (makesLoop_any _ _ (by omega) (by omega)).mono ?_; rintro e w' ⟨rfl, rfl⟩)
      go_ret
      exact ⟨rfl, fun h => absurd rfl h, fun _ => Moved.of_below HG.out (by rw [HST.out, ← HNF.out]; exact HA9.out.moved)⟩
  · have hc1 : (code == 0) = false := by simpa using hc0
    have HC0 := Lib.hid hc0
    have HB1 := Lib.hid (HG.out.trans (hb1.mono HG.out.size))
    clear hb1 hc0
    go_wp2_with fail
    go_ret
    exact ⟨rfl, fun _ => HB1.out, fun h => absurd h HC0.out⟩
end
end Go.Proofs.Ytpmfkpehmckgmaa
