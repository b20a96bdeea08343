/- Walks: the number of strands behind events, by the reference and by the program; whether events are valid. No condition but the length. -/
import Derived.Test.YtacppheedleamaaEventsSpecK
set_option linter.unusedVariables false
set_option linter.unusedSimpArgs false
namespace Go.Proofs.Ytacppheedleamaa
open Go.RowKit
set_option maxRecDepth 20000

theorem evV_neg (k p c b y d n : Int) (h : p < 0) : evV k p c b y d n = false := by unfold evV; rw [if_pos h]
theorem evV_far (k p c b y d n : Int) (h : n < p) : evV k p c b y d n = false := by
  cases hv : evV k p c b y d n
  · rfl
  · exfalso
    unfold evV at hv
    by_cases hp : p < 0
    · rw [if_pos hp] at hv; cases hv
    · rw [if_neg hp] at hv
      by_cases h1 : k = 1
      · rw [if_pos h1] at hv; simp at hv; omega
      · rw [if_neg h1] at hv
        by_cases h2 : k = 2
        · rw [if_pos h2] at hv; simp [inB] at hv; omega
        · rw [if_neg h2] at hv
          by_cases h3 : k = 3
          · rw [if_pos h3] at hv; simp at hv; omega
          · rw [if_neg h3] at hv
            by_cases h4 : k = 4
            · rw [if_pos h4] at hv; simp [inB] at hv; omega
            · rw [if_neg h4] at hv
              by_cases h5 : k = 5
              · rw [if_pos h5] at hv
                by_cases hb : b = 1
                · simp [inB, hb] at hv; omega
                · simp [inB, hb] at hv; omega
              · rw [if_neg h5] at hv; cases hv
theorem l10Event_any (k p c b y d n : Int) (g o : Nat) (w : World) (H : Hid (EvAt w g o k p c b y d)) (hn : 0 ≤ n ∧ n ≤ 1000000) :
    Calls Try.prog 59 #[.pointer (some ⟨g, o, none⟩), .int .i64 n] w (EvAns (evV k p c b y d n) (evAfter k c n) w) := by
  by_cases hp : p < 0
  · rw [evV_neg _ _ _ _ _ _ _ hp]
    exact (l10Neg_any k p c b y d n g o w H (.inl hp)).mono fun e w' ⟨v, q, he, _, hw⟩ => ⟨v, q, he, (fun h => by cases h), hw⟩
  by_cases hf : n < p
  · rw [evV_far _ _ _ _ _ _ _ hf]
    exact (l10Neg_any k p c b y d n g o w H (.inr hf)).mono fun e w' ⟨v, q, he, _, hw⟩ => ⟨v, q, he, (fun h => by cases h), hw⟩
  by_cases h1 : k = 1
  · subst h1; exact l10Event1_any p c b y d n g o w H hn hp hf
  by_cases h2 : k = 2
  · subst h2; exact l10Event2_any p c b y d n g o w H hn hp hf
  by_cases h3 : k = 3
  · subst h3; exact l10Event3_any p c b y d n g o w H hn hp hf
  by_cases h4 : k = 4
  · subst h4; exact l10Event4_any p c b y d n g o w H hn hp hf
  by_cases h5 : k = 5
  · subst h5; exact l10Event5_any p c b y d n g o w H hn hp hf
  exact l10Event0_any k p c b y d n g o w H hn hp hf ⟨h1, h2, h3, h4, h5⟩

/-- The event that is number k of a slice of events. -/
theorem RdEv {w : World} {A : Option Addr} {n : Nat} {z : Nat → Int} (h : Rd w A (n * 6) (fun j => .int .i64 (z j))) {k : Nat} (hk : k < n) :
    ∃ g o, A = some ⟨g, o, none⟩ ∧ g < w.heap.size ∧ EvAt w g (o + k * 6) (z (k * 6)) (z (k * 6 + 1)) (z (k * 6 + 2)) (z (k * 6 + 3)) (z (k * 6 + 4)) (z (k * 6 + 5)) := by
  obtain ⟨g, o, e, hg, hr⟩ := h (by omega)
  refine ⟨g, o, e, hg, ?_, ?_, ?_, ?_, ?_, ?_⟩
  · exact hr (k * 6) (by omega)
  all_goals rw [Nat.add_assoc]; exact hr _ (by omega)
def cntO (z : Nat → Int) (n : Nat) : Option Int := if n ≤ 2000 then cnt z 0 n else none
theorem cnt_bounds {z : Nat → Int} {k : Nat} {m : Int} (h : cnt z 0 k = some m) : 0 ≤ m ∧ m ≤ 12 := by
  induction k generalizing m with
  | zero => simp [cnt] at h; omega
  | succ k ih =>
    simp only [cnt] at h
    cases h1 : cnt z 0 k with
    | none => rw [h1] at h; cases h
    | some m1 =>
      rw [h1] at h
      simp only at h
      by_cases h2 : evV (z (k * 6)) (z (k * 6 + 1)) (z (k * 6 + 2)) (z (k * 6 + 3)) (z (k * 6 + 4)) (z (k * 6 + 5)) m1 = true ∧ evAfter (z (k * 6)) (z (k * 6 + 2)) m1 ≤ 12
      · rw [if_pos h2] at h
        injection h with h
        subst h
        exact ⟨(evAfter_bounds h2.1).1, h2.2⟩
      · rw [if_neg h2] at h; cases h
theorem cnt_step {z : Nat → Int} {k : Nat} {m : Int} (h : cnt z 0 k = some m) (hv : evV (z (k * 6)) (z (k * 6 + 1)) (z (k * 6 + 2)) (z (k * 6 + 3)) (z (k * 6 + 4)) (z (k * 6 + 5)) m = true) (ha : evAfter (z (k * 6)) (z (k * 6 + 2)) m ≤ 12) : cnt z 0 (k + 1) = some (evAfter (z (k * 6)) (z (k * 6 + 2)) m) := by
  simp only [cnt, h]
  rw [if_pos ⟨hv, ha⟩]
theorem cnt_stop {z : Nat → Int} {k : Nat} {m : Int} (h : cnt z 0 k = some m) (hv : ¬ (evV (z (k * 6)) (z (k * 6 + 1)) (z (k * 6 + 2)) (z (k * 6 + 3)) (z (k * 6 + 4)) (z (k * 6 + 5)) m = true ∧ evAfter (z (k * 6)) (z (k * 6 + 2)) m ≤ 12)) : cnt z 0 (k + 1) = none := by
  simp only [cnt, h]
  rw [if_neg hv]

def CntP (r : Option Int) (ok : Bool) (w : World) (e : Ending) (w' : World) : Prop := ∃ v, e = .returned (.tuple #[.int .i64 v, .bool ok]) ∧ ok = r.isSome ∧ (∀ m, r = some m → v = m) ∧ ∃ q, w' = w.drewN q
set_option maxHeartbeats 2000000 in
theorem l10CountV_any (A : Option Addr) (n c : Nat) (z : Nat → Int) (w : World) (ha : Rd w A (n * 6) (fun j => .int .i64 (z j))) (hn : n ≤ 1048576) :
    Calls Try.prog 33 #[.slice A n c] w fun e w' => ∃ v, e = .returned (.tuple #[.int .i64 v, .bool (cntO z n).isSome]) ∧ (∀ m, cntO z n = some m → v = m) ∧ ∃ q, w' = w.drewN q := by
  have HA := Lib.hid ha
  clear ha
  go_enter Try.func33, Try.ntmps33
  go_wp2
  go_loopw [4, 5] (fun m i wr => ∃ k : Nat, k ≤ n ∧ i = .int .i64 k ∧ (∃ x, Hid (cnt z 0 k = some x) ∧ m = .int .i64 x) ∧ ∃ q, wr = w.drewN q) (fun _ i _ => n - (intOf i).toNat)
  case atStart => exact ⟨0, Nat.zero_le _, rfl, ⟨0, Lib.hid rfl, rfl⟩, 0, rfl⟩
  case round =>
    obtain ⟨k, hk, rfl, ⟨x, HX, rfl⟩, q, rfl⟩ := hrel
    have hxb := cnt_bounds HX.out
    by_cases hlt : k < n
    · obtain ⟨g, o, rfl, hg, hev⟩ := RdEv HA.out hlt
      obtain ⟨E, hE⟩ : ∃ E, E = evV (z (k * 6)) (z (k * 6 + 1)) (z (k * 6 + 2)) (z (k * 6 + 3)) (z (k * 6 + 4)) (z (k * 6 + 5)) x := ⟨_, rfl⟩
      obtain ⟨F, hF⟩ : ∃ F, F = evAfter (z (k * 6)) (z (k * 6 + 2)) x := ⟨_, rfl⟩
      have hb := fun h => evAfter_bounds (k := z (k * 6)) (p := z (k * 6 + 1)) (c := z (k * 6 + 2)) (b := z (k * 6 + 3)) (y := z (k * 6 + 4)) (d := z (k * 6 + 5)) (n := x) h
      have hcall : ∀ w', Calls Try.prog 59 #[.pointer (some ⟨g, o + k * 6, none⟩), .int .i64 x] (w.drewN w') (EvAns E F (w.drewN w')) := fun w' => by
        rw [hE, hF]
        exact l10Event_any _ _ _ _ _ _ x g (o + k * 6) (w.drewN w') (Lib.hid ⟨hev.c0, hev.c1, hev.c2, hev.c3, hev.c4, hev.c5⟩) ⟨by omega, by omega⟩
      rw [← hE, ← hF] at hb
      have HC := Lib.hid hcall
      have HE := Lib.hid hE
      have HF := Lib.hid hF
      have HBD := Lib.hid hb
      clear hcall hE hF hev hb
      go_wp2_with fail
      refine (HC.out q).mono ?_
      rintro e w1 ⟨v, q1, rfl, hv, rfl⟩
      have HV := Lib.hid hv
      clear hv
      cases E
      · go_wp2
        go_ret2
        have h0 := cnt_none z 0 (show k + 1 ≤ n by omega) (cnt_stop HX.out (fun h => by rw [← HE.out] at h; exact absurd h.1 (by simp)))
        exact ⟨_, ret_ib rfl (by simp [cntO, h0]), fun m hm => (by simp [cntO, h0] at hm), _, rfl⟩
      · obtain rfl : v = F := HV.out rfl
        have hb := HBD.out rfl
        by_cases h12 : 12 < v
        · go_wp2
          go_ret2
          have h0 := cnt_none z 0 (show k + 1 ≤ n by omega) (cnt_stop HX.out (fun h => by rw [← HF.out] at h; omega))
          exact ⟨_, ret_ib rfl (by simp [cntO, h0]), fun m hm => (by simp [cntO, h0] at hm), _, rfl⟩
        · go_wp2
          go_roundw
          case rel => exact ⟨k + 1, by omega, by go_num, ⟨v, Lib.hid (by rw [HF.out]; exact cnt_step HX.out HE.out.symm (by rw [← HF.out]; omega)), rfl⟩, _, rfl⟩
          case measure => simp [intOf] <;> omega
    · obtain rfl : n = k := by omega
      go_wp2
      go_ret2
      have hx := HX.out
      refine ⟨_, ret_ib rfl ?_, fun m hm => ?_, _, rfl⟩
      · unfold cntO
        by_cases h2 : n ≤ 2000
        · simp [h2, hx]; omega
        · simp [h2]; omega
      · unfold cntO at hm
        by_cases h2 : n ≤ 2000
        · rw [if_pos h2, hx] at hm
          exact Option.some.inj hm
        · rw [if_neg h2] at hm; cases hm
theorem l10Count_any (A : Option Addr) (n c : Nat) (z : Nat → Int) (w : World) (ha : Rd w A (n * 6) (fun j => .int .i64 (z j))) (hn : n ≤ 1048576) :
    Calls Try.prog 33 #[.slice A n c] w fun e w' => ∃ v, e = .returned (.tuple #[.int .i64 v, .bool (cntO z n).isSome]) ∧ ∃ q, w' = w.drewN q := (l10CountV_any A n c z w ha hn).mono fun _ _ ⟨v, h1, _, h2⟩ => ⟨v, h1, h2⟩
theorem cntO_some {z : Nat → Int} {n : Nat} (h : (cntO z n).isSome = true) : n ≤ 2000 ∧ ∀ k, k ≤ n → ∃ m, cnt z 0 k = some m := by
  unfold cntO at h
  by_cases h2 : n ≤ 2000
  · rw [if_pos h2] at h
    refine ⟨h2, fun k hk => ?_⟩
    cases hc : cnt z 0 k with
    | none => rw [cnt_none z 0 hk hc] at h; cases h
    | some m => exact ⟨m, rfl⟩
  · rw [if_neg h2] at h; cases h
theorem specValidEvents_any (A : Option Addr) (n c : Nat) (z : Nat → Int) (w : World) (ha : Rd w A (n * 6) (fun j => .int .i64 (z j))) (hn : n ≤ 1048576) :
    Calls Try.prog 12 #[.slice A n c] w fun e w' => e = .returned (.bool (cntO z n).isSome) ∧ ∃ q, w' = w.drewN q := by
  have HC := Lib.hid (l10Count_any A n c z w ha hn)
  clear ha
  go_enter Try.func12, Try.ntmps12
  go_wp2_with fail
  refine HC.out.mono ?_
  rintro e w1 ⟨v, rfl, q, rfl⟩
  go_wp2
  go_ret
  exact ⟨rfl, _, rfl⟩

end Go.Proofs.Ytacppheedleamaa
