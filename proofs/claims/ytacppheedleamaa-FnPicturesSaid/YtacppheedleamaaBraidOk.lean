/- Walks: whether a braid is valid: the reference's and the program's, whole. No condition but the bounds. -/
import Derived.Test.YtacppheedleamaaBraidValid
namespace Go.Proofs.Ytacppheedleamaa
open Go.RowKit
set_option maxRecDepth 20000

set_option maxHeartbeats 1000000 in
theorem l03Ok_any (g : Nat) (s : Int) (A : Option Addr) (n c : Nat) (z : Nat → Int) (w : World) (h0 : w.cell? ⟨g, 0, none⟩ = some (.int .i64 s)) (h1 : w.cell? ⟨g, 1, none⟩ = some (.slice A n c)) (ha : Rd w A n (fun j => .int .i64 (z j))) (hn : n ≤ 1048576) :
    Calls Try.prog 46 #[.pointer (some ⟨g, 0, none⟩)] w fun e w' => e = .returned (.bool (braidB s n z)) ∧ ∃ q, w' = w.drewN q := by
  have HA := Lib.hid ha
  clear ha
  cases hin : inB s 0 12
  · have hI : ∀ w', Calls Try.prog 55 #[.int .i64 s, .int .i64 0, .int .i64 12] w' fun e w'' => e = .returned (.bool false) ∧ w'' = w' := fun w' => (l00In_any s 0 12 w').mono fun _ _ h => ⟨h.1.trans (by rw [hin]), h.2.symm⟩
    have HIN := Lib.hid hin
    clear hin
    go_enter Try.func46, Try.ntmps46
    go_wp2_with fail
    go_quiet ((go_at_call 55; exact Calls.quiet_of_same (hI _)))
    go_wp2
    go_ret
    exact ⟨by simp [braidB, HIN.out], _, rfl⟩
  · have hI : ∀ w', Calls Try.prog 55 #[.int .i64 s, .int .i64 0, .int .i64 12] w' fun e w'' => e = .returned (.bool true) ∧ w'' = w' := fun w' => (l00In_any s 0 12 w').mono fun _ _ h => ⟨h.1.trans (by rw [hin]), h.2.symm⟩
    have hb := inB_true hin
    have HIN := Lib.hid hin
    clear hin
    by_cases hle : n ≤ 40
    · have hL : ∀ q, Calls Try.prog 79 #[.slice A n c, .int .i64 s] (w.drewN q) fun e w'' => e = .returned (.bool (lettersB s z n)) ∧ w'' = w.drewN q := fun q => (l03Letters_any A n c s z _ (HA.out.drewN q) hn hb.1 (by omega)).mono fun _ _ h => ⟨h.1, h.2.symm⟩
      have hle' : decide ((n : Int) ≤ 40) = true := by simp; omega
      go_enter Try.func46, Try.ntmps46
      go_wp2_with fail
      go_quiet (first | (go_at_call 55; exact Calls.quiet_of_same (hI _)) | (go_at_call 79; exact Calls.quiet_of_same (hL _)))
      go_wp2
      go_ret
      exact ⟨by simp [braidB, HIN.out, hle], _, rfl⟩
    · have hle' : decide ((n : Int) ≤ 40) = false := by simp; omega
      go_enter Try.func46, Try.ntmps46
      go_wp2_with fail
      go_quiet ((go_at_call 55; exact Calls.quiet_of_same (hI _)))
      go_wp2
      go_ret
      exact ⟨by simp [braidB, HIN.out, hle], _, rfl⟩

theorem isStrands_any (n : Int) (w : World) :
    Calls Try.prog 75 #[.int .i64 n] w fun e w' => e = .returned (.bool (inB n 0 12)) ∧ w = w' := by
  go_enter Try.func75, Try.ntmps75
  go_wp2_with ((go_at_call 34; refine (within_any _ _ _ _).mono ?_; rintro e w' ⟨rfl, rfl⟩))
  go_ret
  exact ⟨rfl, rfl⟩
/-- The function that areLetters hands on: no letter. -/
theorem noLetter_any (g : Nat) (s x : Int) (w : World) (h0 : w.cell? ⟨g, 0, none⟩ = some (.int .i64 s)) (hs0 : 0 ≤ s) (hs : s ≤ 1000000) :
    Calls Try.prog 109 #[.int .i64 x, .pointer (some ⟨g, 0, none⟩)] w fun e w' => e = .returned (.bool (!letterB s x)) ∧ w = w' := by
  by_cases hz : x = 0
  · subst hz
    go_enter Try.func109, Try.ntmps109
    go_wp2_with ((go_at_call 34; refine (within_any _ _ _ _).mono ?_; rintro e w' ⟨rfl, rfl⟩))
    go_ret
    exact ⟨by simp [letterB], rfl⟩
  · have hz' : (x == 0) = false := by simpa using hz
    go_enter Try.func109, Try.ntmps109
    go_wp2_with ((go_at_call 34; refine (within_any _ _ _ _).mono ?_; rintro e w' ⟨rfl, rfl⟩))
    all_goals go_ret
    all_goals exact ⟨by simp [letterB, hz], rfl⟩

def IdxP (w : World) (b : Bool) (e : Ending) (w' : World) : Prop := ∃ r : Int, e = .returned (.int .i64 r) ∧ (r = -1 ∧ b = true ∨ 0 ≤ r ∧ b = false) ∧ w = w'
set_option maxHeartbeats 400000 in
theorem idxLetters_any (g : Nat) (A : Option Addr) (n c : Nat) (s : Int) (z : Nat → Int) (w : World) (h0 : w.cell? ⟨g, 0, none⟩ = some (.int .i64 s)) (ha : Rd w A n (fun j => .int .i64 (z j))) (hn : n ≤ 1048576) (hs0 : 0 ≤ s) (hs : s ≤ 1000000) :
    Calls Try.prog 113 #[.slice A n c, .func (.func 109) #[] #[.pointer (some ⟨g, 0, none⟩)]] w (IdxP w (lettersB s z n)) := by
  have HA := Lib.hid ha
  have H0 := Lib.hid h0
  clear ha h0
  go_enter Try.func113, Try.ntmps113
  go_wp2_with fail
  go_loop [8] (fun i => ∃ k : Nat, k ≤ n ∧ i = .int .i64 k ∧ Hid (lettersB s z k = true)) (fun i => n - (intOf i).toNat)
  case atStart => exact ⟨0, Nat.zero_le _, rfl, rfl⟩
  case round =>
    obtain ⟨k, hk, rfl, HK⟩ := hrel
    by_cases hlt : k < n
    · obtain ⟨ga, o, rfl, hg, hr⟩ := HA.out (by omega)
      have hc := hr k hlt
      clear hr
      obtain ⟨x, hx⟩ : ∃ x, x = z k := ⟨_, rfl⟩
      simp only [← hx] at hc
      have hq : ∀ b, letterB s x = b → letterB s (z k) = b := fun b h => by rw [← hx]; exact h
      have HQ := Lib.hid hq
      clear hq hx
      cases hl : letterB s x
      · have HL := Lib.hid hl
        clear hl
        go_wp2_with ((go_at_call 109; refine (noLetter_any g s x _ H0.out hs0 hs).mono ?_; rintro e w' ⟨rfl, rfl⟩; rw [HL.out]))
        go_ret
        exact ⟨_, rfl, .inr ⟨by omega, lettersB_false hlt (HQ.out false HL.out)⟩, rfl⟩
      · have HL := Lib.hid hl
        clear hl
        go_wp2_with ((go_at_call 109; refine (noLetter_any g s x _ H0.out hs0 hs).mono ?_; rintro e w' ⟨rfl, rfl⟩; rw [HL.out]))
        go_round
        case rel => exact ⟨k + 1, by omega, by go_num, by unfold Hid; simp only [lettersB]; rw [HK.out, HQ.out true HL.out]; rfl⟩
        case measure => simp [intOf] <;> omega
    · obtain rfl : n = k := by omega
      go_wp2
      go_ret
      exact ⟨_, rfl, .inl ⟨rfl, HK.out⟩, rfl⟩

theorem containsLetters_any (g : Nat) (A : Option Addr) (n c : Nat) (s : Int) (z : Nat → Int) (w : World) (h0 : w.cell? ⟨g, 0, none⟩ = some (.int .i64 s)) (ha : Rd w A n (fun j => .int .i64 (z j))) (hn : n ≤ 1048576) (hs0 : 0 ≤ s) (hs : s ≤ 1000000) :
    Calls Try.prog 95 #[.slice A n c, .func (.func 109) #[] #[.pointer (some ⟨g, 0, none⟩)]] w fun e w' => e = .returned (.bool (!lettersB s z n)) ∧ w = w' := by
  go_enter Try.func95, Try.ntmps95
  go_wp2_with fail
  refine (idxLetters_any g A n c s z _ h0 ha hn hs0 hs).mono ?_
  rintro e w' ⟨r, rfl, h, rfl⟩
  rcases h with ⟨rfl, hb⟩ | ⟨hr, hb⟩
  · have HB := Lib.hid hb
    clear hb
    go_wp2
    go_ret
    exact ⟨by rw [HB.out]; rfl, rfl⟩
  · have HB := Lib.hid hb
    clear hb
    have hr' : decide (0 ≤ r) = true := by simpa using hr
    go_wp2
    go_ret
    exact ⟨by rw [HB.out]; simp, rfl⟩

theorem areLetters_any (A : Option Addr) (n c : Nat) (s : Int) (z : Nat → Int) (w : World) (ha : Rd w A n (fun j => .int .i64 (z j))) (hn : n ≤ 1048576) (hs0 : 0 ≤ s) (hs : s ≤ 1000000) :
    Calls Try.prog 76 #[.int .i64 s, .slice A n c] w fun e w' => e = .returned (.bool (lettersB s z n)) ∧ Below w.heap.size w w' := by
  go_enter Try.func76, Try.ntmps76
  go_wp2_with fail
  have hb : Below w.heap.size w (w.alloc (.cells #[.int .i64 s] 2)) := (Below.refl _ _).alloc (Nat.le_refl _) _
  refine (containsLetters_any w.heap.size A n c s z _ (cell_alloc_at rfl 0) (ha.below hb) hn hs0 hs).mono ?_
  rintro e w' ⟨rfl, rfl⟩
  have HB := Lib.hid hb
  clear hb
  go_wp2_with fail
  go_ret
  exact ⟨by simp, HB.out⟩

set_option maxHeartbeats 400000 in
theorem validBraid_any (s : Int) (A : Option Addr) (n c : Nat) (z : Nat → Int) (w : World) (ha : Rd w A n (fun j => .int .i64 (z j))) (hn : n ≤ 1048576) :
    Calls Try.prog 44 #[.agg #[.int .i64 s, .slice A n c]] w fun e w' => e = .returned (.bool (braidB s n z)) ∧ Below w.heap.size w w' := by
  have hb : Below w.heap.size w (w.alloc (.cells #[.int .i64 s, .slice A n c] 53)) := (Below.refl _ _).alloc (Nat.le_refl _) _
  have HA := Lib.hid (ha.below hb)
  have HB := Lib.hid hb
  clear ha hb
  cases hin : inB s 0 12
  · have HIN := Lib.hid hin
    clear hin
    go_enter Try.func44, Try.ntmps44
    go_wp2_with ((go_at_call 75; refine (isStrands_any _ _).mono ?_; rintro e w' ⟨rfl, rfl⟩; rw [HIN.out]))
    go_ret
    exact ⟨by simp [braidB, HIN.out], HB.out⟩
  · have hsb := inB_true hin
    have HIN := Lib.hid hin
    clear hin
    by_cases hle : n ≤ 40
    · have hle' : decide ((n : Int) ≤ 40) = true := by simp; omega
      go_enter Try.func44, Try.ntmps44
      go_wp2_with (first
        | (go_at_call 75; refine (isStrands_any _ _).mono ?_; rintro e w' ⟨rfl, rfl⟩; rw [HIN.out])
        | (go_at_call 76; refine (areLetters_any A n c s z _ HA.out hn hsb.1 (by omega)).mono ?_; rintro e w1 ⟨rfl, hb1⟩; have HB1 := Lib.hid (HB.out.trans (hb1.mono HB.out.size)); clear hb1)
        | fail)
      go_ret
      exact ⟨by simp [braidB, HIN.out, hle], HB1.out⟩
    · have hle' : decide ((n : Int) ≤ 40) = false := by simp; omega
      go_enter Try.func44, Try.ntmps44
      go_wp2_with ((go_at_call 75; refine (isStrands_any _ _).mono ?_; rintro e w' ⟨rfl, rfl⟩; rw [HIN.out]))
      go_ret
      exact ⟨by simp [braidB, HIN.out, hle], HB.out⟩
end Go.Proofs.Ytacppheedleamaa
