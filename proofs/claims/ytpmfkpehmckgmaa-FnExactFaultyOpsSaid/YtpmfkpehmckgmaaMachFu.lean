/- Walks: FaultyOps by the reference. No condition but the bounds. -/
import Derived.Test.YtpmfkpehmckgmaaMachFt
import Derived.Test.YtpmfkpehmckgmaaMachPk
import Derived.Test.YtpmfkpehmckgmaaBounds
import Derived.BigQuiet
namespace Go.Proofs.Ytpmfkpehmckgmaa
open Go.RowKit
set_option maxRecDepth 20000

/-- What FaultyOps answers: operations and a code. -/
def fyOk (n : Nat) (z : Nat → Int) (f x : Int) : Bool := inB x 0 ((n : Int) - 1) && canB f (z (x.toNat * 8))
def fyL (W : Int) (z : Nat → Int) (n : Nat) (f x : Int) : List Int :=
  if codeOf W z n = 0 ∧ fyOk n z f x = true ∧ (gAt W.toNat z f x.toNat n).2.length ≤ 12000 then (gAt W.toNat z f x.toNat n).2 else []
def fyC (W : Int) (z : Nat → Int) (n : Nat) (f x : Int) : Int :=
  if codeOf W z n = 0 then (if fyOk n z f x = true then (if (gAt W.toNat z f x.toNat n).2.length ≤ 12000 then 0 else 5) else 3) else codeOf W z n
def fyN (W : Int) (z : Nat → Int) (n : Nat) (f x : Int) : Nat := (fyL W z n f x).length / 8
theorem fyN_le (W : Int) (z : Nat → Int) (n : Nat) (f x : Int) : fyN W z n f x ≤ 1500 := by
  unfold fyN fyL
  split
  · rename_i h
    have := h.2.2
    omega
  · simp
abbrev FyP (w : World) (W : Int) (z : Nat → Int) (n : Nat) (f x : Int) : Ending → World → Prop := NewP2 w (fyN W z n f x) (fyN W z n f x * 8) (fun j => .int .i64 ((fyL W z n f x).getD j 0)) (fyC W z n f x)
section
variable {w w' : World} {W : Int} {z : Nat → Int} {n : Nat} {f x : Int} {e : Ending}
theorem FyP.nil (hL : fyL W z n f x = []) {cd : Int} (hc : fyC W z n f x = cd) (he : e = .returned (.tuple #[.slice none 0 0, .int .i64 cd])) (hb : Below w.heap.size w w') : FyP w W z n f x e w' := by
  have hn : fyN W z n f x = 0 := by unfold fyN; rw [hL]; rfl
  unfold FyP
  rw [hn, hc]
  exact ⟨none, 0, he, New.none_ hb _⟩
theorem FyP.code {cd : Int} (hc : codeOf W z n = cd) (h0 : cd ≠ 0) (he : e = .returned (.tuple #[.slice none 0 0, .int .i64 cd])) (hb : Below w.heap.size w w') : FyP w W z n f x e w' :=
  FyP.nil (if_neg fun h => h0 (hc ▸ h.1)) ((if_neg (by rw [hc]; exact h0)).trans hc) he hb
theorem FyP.no (hc : codeOf W z n = 0) (h : fyOk n z f x = false) (he : e = .returned (.tuple #[.slice none 0 0, .int .i64 3])) (hb : Below w.heap.size w w') : FyP w W z n f x e w' :=
  FyP.nil (if_neg fun h1 => by rw [h] at h1; exact absurd h1.2.1 (by decide)) ((if_pos hc).trans (if_neg (by rw [h]; decide))) he hb
theorem FyP.full {L : List Int} (hc : codeOf W z n = 0) (h : fyOk n z f x = true) (hL : L = (gAt W.toNat z f x.toNat n).2) {m : Nat} (hl : L.length = 8 * m) (hm : 1500 < m) (he : e = .returned (.tuple #[.slice none 0 0, .int .i64 5])) (hb : Below w.heap.size w w') : FyP w W z n f x e w' := by
  subst hL
  exact FyP.nil (if_neg fun h1 => by have := h1.2.2; omega) ((if_pos hc).trans ((if_pos h).trans (if_neg (by omega)))) he hb
theorem FyP.ok {L : List Int} {m c : Nat} {A : Option Addr} (hc : codeOf W z n = 0) (h : fyOk n z f x = true) (hL : L = (gAt W.toNat z f x.toNat n).2) (hl : L.length = 8 * m) (hm : m ≤ 1500) (he : e = .returned (.tuple #[.slice A m c, .int .i64 0])) (ho : w'.ownsRow w.heap.size 58 8 (.slice A m c) m (ints L)) (hb : Below w.heap.size w w') : FyP w W z n f x e w' := by
  have hL' : fyL W z n f x = L := by unfold fyL; rw [if_pos ⟨hc, h, by rw [← hL, hl]; omega⟩, hL]
  have hC' : fyC W z n f x = 0 := by unfold fyC; rw [if_pos hc, if_pos h, if_pos (by rw [← hL, hl]; omega)]
  have hn : fyN W z n f x = m := by unfold fyN; rw [hL']; omega
  unfold FyP
  rw [hn, hC', hL']
  obtain ⟨A', c', e', hp⟩ := New.of_own hb ho
  injection e' with e1 e2 e3
  subst e1 e3
  exact ⟨A, c, he, hp.congr fun j hj => by simp [ints, List.getD, List.getElem?_eq_getElem (show j < L.length by omega)]⟩
end
section
variable (W : Int) (A : Option Addr) (n q : Nat) (z : Nat → Int) (f x : Int) (w : World)
set_option maxHeartbeats 4000000 in
theorem specFaultyOps_any (ha : Rd w A (n * 8) (fun j => .int .i64 (z j))) (hn : n ≤ 1048576) : Calls Try.prog 33 #[.int .i64 W, .slice A n q, .agg #[.int .i64 f, .int .i64 x]] w (FyP w W z n f x) := by
  obtain ⟨Wb, hWb⟩ : ∃ x', x' = w.alloc (.cells #[.int .i64 f, .int .i64 x] 52) := ⟨_, rfl⟩
  have HB0 : Hid (Below w.heap.size w Wb) := Lib.hid (hWb ▸ (Below.refl _ _).alloc (Nat.le_refl _) _)
  have HBX : Hid (Blk Wb w.heap.size 52 #[.int .i64 f, .int .i64 x]) := Lib.hid (hWb ▸ Blk.at_ _ _ _ rfl)
  have HWB := Lib.hid hWb
  have hr := specRunMachine_any W A n q z Wb (ha.below HB0.out) hn
  unfold RmP at hr
  have HA := Lib.hid (ha.below HB0.out)
  clear ha hWb
  by_cases hc : codeOf W z n = 0
  · obtain ⟨W, rfl, hW1, hW2, hn15, hops, hok⟩ := codeOf_ok hc
    rw [hc] at hr
    have HC := Lib.hid hc
    have HR := Lib.hid hr
    have HOPS := Lib.hid hops
    clear hc hr hops hok
    have HWB' := HWB
    cases hin : inB x 0 ((n : Int) - 1)
    · have HIN := Lib.hid hin
      have HI : Hid (∀ w', Calls Try.prog 51 #[.int .i64 x, .int .i64 0, .int .i64 ((n : Int) - 1)] w' fun e w'' => e = .returned (.bool false) ∧ w'' = w') := Lib.hid fun w' => (l00In_any x 0 ((n : Int) - 1) w').mono fun _ _ h => ⟨h.1.trans (by rw [HIN.out]), h.2.symm⟩
      have HOKF : Hid (fyOk n z f x = false) := Lib.hid (by unfold fyOk; rw [hin]; rfl)
      have hwn : IntKind.i64.wrap ((n : Int) - 1) = (n : Int) - 1 := by rw [IntKind.wrap_i64]; omega
      clear hin
      go_enter Try.func33, Try.ntmps33
      go_upto_region 1 with (fail)
      rw [← HWB.out]
      go_wp2_with fail
      refine HR.out.mono ?_
      rintro e w1 ⟨v, kk, ⟨x0, y0, A1, B1, C1, D1, E1, a, b, c, d, e1, a', b', c', d', e', rfl⟩, rfl, hb1⟩
      have HB1 := Lib.hid hb1
      clear hb1
      go_upto_region 4 with (fail)
      obtain ⟨w2, hw2⟩ : ∃ W2, W2 = w1.alloc (.cells #[.int .i64 x0, .int .i64 y0, .slice A1 a a', .slice B1 b b', .slice C1 c c', .slice D1 d d', .slice E1 e1 e'] 69) := ⟨_, rfl⟩
      rw [← hw2]
      have HB2 : Hid (Below Wb.heap.size Wb w2) := Lib.hid (hw2 ▸ HB1.out.alloc HB1.out.size _)
      have hbx := HBX.out.below HB2.out HBX.out.lt
      have b1 := (show _ = some (Value.int .i64 x) from hbx.cell 1)
      clear hw2 hbx
      go_quiet ((go_at_call 51; exact Calls.quiet_of_same (HI.out _)))
      go_wp2_with fail
      refine bodyPost_ret (v := .tuple #[.slice none 0 0, .int .i64 3]) (by simp [results, Try.results33, go_sem]) rfl ?_
      exact FyP.no HC.out HOKF.out rfl (Below.drewN' (HB0.out.trans (HB2.out.mono HB0.out.size)) _)
    · have hx := inB_true hin
      obtain ⟨At, rfl⟩ := Int.eq_ofNat_of_zero_le hx.1
      have hAt : At < n := by omega
      have hAtI : (At : Int) < (n : Int) := by omega
      have hAt0 : (0 : Int) ≤ (At : Int) := by omega
      have HAT := Lib.hid hAt
      have HIN := Lib.hid hin
      have HI : Hid (∀ w', Calls Try.prog 51 #[.int .i64 At, .int .i64 0, .int .i64 ((n : Int) - 1)] w' fun e w'' => e = .returned (.bool true) ∧ w'' = w') := Lib.hid fun w' => (l00In_any At 0 ((n : Int) - 1) w').mono fun _ _ h => ⟨h.1.trans (by rw [HIN.out]), h.2.symm⟩
      have hwn : IntKind.i64.wrap ((n : Int) - 1) = (n : Int) - 1 := by rw [IntKind.wrap_i64]; omega
      have hop := opOk_at hW1 (HOPS.out At hAt)
      have hk1 := hop.k1
      have hk9 := hop.k9
      have HK19 := Lib.hid (And.intro hk1 hk9)
      have HOKq : Hid (fyOk n z f (At : Int) = canB f (z (At * 8))) := Lib.hid (by unfold fyOk; rw [hin, Int.toNat_natCast]; rfl)
      clear hin hx hop hk1 hk9
      obtain ⟨k, hk⟩ : ∃ x, x = z (At * 8) := ⟨_, rfl⟩
      rw [← hk] at HK19 HOKq
      have HKq := Lib.hid hk
      clear hk
      cases hcan : canB f k
      · have HCAN := Lib.hid hcan
        clear hcan hAt
        go_enter Try.func33, Try.ntmps33
        go_upto_region 1 with (fail)
        rw [← HWB.out]
        go_wp2_with fail
        refine HR.out.mono ?_
        rintro e w1 ⟨v, kk, ⟨x0, y0, A1, B1, C1, D1, E1, a, b, c, d, e1, a', b', c', d', e', rfl⟩, rfl, hb1⟩
        have HB1 := Lib.hid hb1
        clear hb1
        go_upto_region 4 with (fail)
        obtain ⟨w2, hw2⟩ : ∃ W2, W2 = w1.alloc (.cells #[.int .i64 x0, .int .i64 y0, .slice A1 a a', .slice B1 b b', .slice C1 c c', .slice D1 d d', .slice E1 e1 e'] 69) := ⟨_, rfl⟩
        rw [← hw2]
        have HB2 : Hid (Below Wb.heap.size Wb w2) := Lib.hid (hw2 ▸ HB1.out.alloc HB1.out.size _)
        have hbx := HBX.out.below HB2.out HBX.out.lt
        have b0 := (show _ = some (Value.int .i64 f) from hbx.cell 0)
        have b1 := (show _ = some (Value.int .i64 At) from hbx.cell 1)
        obtain ⟨ga, o, rfl, hga, hra⟩ := (HA.out.below HB2.out) (by have := HAT.out; omega)
        have hcell : w2.cell? ⟨ga, o + At * 8, none⟩ = some (.int .i64 k) := (hra (At * 8) (by have := HAT.out; omega)).trans (by rw [HKq.out])
        have HKC : Hid (∀ qd, Calls Try.prog 52 #[.int .i64 f, .pointer (some ⟨ga, o + At * 8, none⟩)] (w2.drewN qd) fun e w'' => e = .returned (.bool false) ∧ w'' = w2.drewN qd) := Lib.hid fun qd => (l29Kind_any f k ga (o + At * 8) (w2.drewN qd) hcell HK19.out.1 HK19.out.2).mono fun _ _ h => ⟨h.1.trans (by rw [HCAN.out]), h.2.symm⟩
        clear hw2 hbx hra hga hcell
        go_quiet (first | (go_at_call 51; exact Calls.quiet_of_same (HI.out _)) | (go_at_call 52; exact Calls.quiet_of_same (HKC.out _)))
        go_wp2_with fail
        refine bodyPost_ret (v := .tuple #[.slice none 0 0, .int .i64 3]) (by simp [results, Try.results33, go_sem]) rfl ?_
        exact FyP.no HC.out (HOKq.out.trans HCAN.out) rfl (Below.drewN' (HB0.out.trans (HB2.out.mono HB0.out.size)) _)
      · have HCAN := Lib.hid hcan
        obtain ⟨L, hL⟩ : ∃ x, x = (gAt W z f At n).2 := ⟨_, rfl⟩
        have HLq := Lib.hid hL
        clear hcan hAt hL
        go_enter Try.func33, Try.ntmps33
        go_upto_region 1 with (fail)
        rw [← HWB.out]
        go_wp2_with fail
        refine HR.out.mono ?_
        rintro e w1 ⟨v, kk, ⟨x0, y0, A1, B1, C1, D1, E1, a, b, c, d, e1, a', b', c', d', e', rfl⟩, rfl, hb1⟩
        have HB1 := Lib.hid hb1
        clear hb1
        go_upto_region 4 with (fail)
        obtain ⟨w2, hw2⟩ : ∃ W2, W2 = w1.alloc (.cells #[.int .i64 x0, .int .i64 y0, .slice A1 a a', .slice B1 b b', .slice C1 c c', .slice D1 d d', .slice E1 e1 e'] 69) := ⟨_, rfl⟩
        rw [← hw2]
        have HB2 : Hid (Below Wb.heap.size Wb w2) := Lib.hid (hw2 ▸ HB1.out.alloc HB1.out.size _)
        have hbx := HBX.out.below HB2.out HBX.out.lt
        have b0 := (show _ = some (Value.int .i64 f) from hbx.cell 0)
        have b1 := (show _ = some (Value.int .i64 At) from hbx.cell 1)
        obtain ⟨ga, o, hA', hga, hra⟩ := (HA.out.below HB2.out) (by have := HAT.out; omega)
        subst hA'
        have hcell : w2.cell? ⟨ga, o + At * 8, none⟩ = some (.int .i64 k) := (hra (At * 8) (by have := HAT.out; omega)).trans (by rw [HKq.out])
        have HKC : Hid (∀ qd, Calls Try.prog 52 #[.int .i64 f, .pointer (some ⟨ga, o + At * 8, none⟩)] (w2.drewN qd) fun e w'' => e = .returned (.bool true) ∧ w'' = w2.drewN qd) := Lib.hid fun qd => (l29Kind_any f k ga (o + At * 8) (w2.drewN qd) hcell HK19.out.1 HK19.out.2).mono fun _ _ h => ⟨h.1.trans (by rw [HCAN.out]), h.2.symm⟩
        clear hw2 hbx hra hga hcell
        go_quiet (first | (go_at_call 51; exact Calls.quiet_of_same (HI.out _)) | (go_at_call 52; exact Calls.quiet_of_same (HKC.out _)))
        obtain ⟨w3, hw3⟩ : ∃ x, x = w2.drewN nq := ⟨_, rfl⟩
        rw [← hw3]
        have HB3 : Hid (Below Wb.heap.size Wb w3) := Lib.hid (hw3 ▸ Below.drewN' HB2.out nq)
        have hbx := HBX.out.below HB3.out HBX.out.lt
        have c0 := (show _ = some (Value.int .i64 f) from hbx.cell 0)
        have c1 := (show _ = some (Value.int .i64 At) from hbx.cell 1)
        clear hw3 hbx b0 b1
        go_wp2_with fail
        refine (l29Faulty_any W (some ⟨ga, o, none⟩) n q z f At w3 (HA.out.below HB3.out) hW1 hW2 hn15 HOPS.out HAT.out (by rw [← HKq.out]; exact HCAN.out)).mono ?_
        rw [← HLq.out]
        rintro e w4 ⟨v, m, rfl, hl, hm, hown, hb4⟩
        obtain ⟨A2, c2, rfl⟩ := own_form hown
        have HLL := Lib.hid hl
        have HOWN := Lib.hid (own_base hown (Nat.le_trans HB0.out.size HB3.out.size))
        have HB4 := Lib.hid (HB0.out.trans ((HB3.out.trans (hb4.mono HB3.out.size)).mono HB0.out.size))
        have HOKT : Hid (fyOk n z f (At : Int) = true) := Lib.hid (HOKq.out.trans HCAN.out)
        have HLQ' : Hid (L = (gAt (W : Int).toNat z f (At : Int).toNat n).2) := Lib.hid (by rw [Int.toNat_natCast, Int.toNat_natCast]; exact HLq.out)
        clear hl hown hb4 c0 c1
        by_cases hm15 : 1500 < m
        · have hmI : (1500 : Int) < (m : Int) := by omega
          have HM := Lib.hid hm15
          clear hm15
          go_wp2_with fail
          refine bodyPost_ret (v := .tuple #[.slice none 0 0, .int .i64 5]) (by simp [results, Try.results33, go_sem]) rfl ?_
          exact FyP.full HC.out HOKT.out HLQ'.out HLL.out HM.out rfl HB4.out
        · have hmI : ¬ (1500 : Int) < (m : Int) := by omega
          have HM : Hid (m ≤ 1500) := Lib.hid (by omega)
          clear hm15
          go_wp2_with fail
          refine bodyPost_ret (v := .tuple #[.slice A2 m c2, .int .i64 0]) (by simp [results, Try.results33, go_sem]) rfl ?_
          exact FyP.ok HC.out HOKT.out HLQ'.out HLL.out HM.out rfl HOWN.out HB4.out
  · obtain ⟨cd, hcd⟩ : ∃ x, x = codeOf W z n := ⟨_, rfl⟩
    have HC := Lib.hid hcd
    rw [← hcd] at hr hc
    have hc1 : (cd == 0) = false := by simpa using hc
    have HC0 := Lib.hid hc
    have HR := Lib.hid hr
    clear hc hr hcd
    go_enter Try.func33, Try.ntmps33
    go_upto_region 1 with (fail)
    rw [← HWB.out]
    go_wp2_with fail
    refine HR.out.mono ?_
    rintro e w1 ⟨v, kk, ⟨x0, y0, A1, B1, C1, D1, E1, a, b, c, d, e1, a', b', c', d', e', rfl⟩, rfl, hb1⟩
    have HB1 := Lib.hid (HB0.out.trans (hb1.mono HB0.out.size))
    clear hb1
    go_wp2_with fail
    refine bodyPost_ret (v := .tuple #[.slice none 0 0, .int .i64 cd]) (by simp [results, Try.results33, go_sem]) rfl ?_
    exact FyP.code HC.out.symm HC0.out rfl (HB1.out.alloc HB1.out.size _)
end
end Go.Proofs.Ytpmfkpehmckgmaa
