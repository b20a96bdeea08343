/- Walks: kinds of stitches: the columns that they take and make; lists of kinds and of stacks, by the reference and by the program. No condition but the bounds. (Printed by wip/chartgen.py.) -/
import Derived.Test.YtacppheedleamaaBounds
import Derived.Test.YtacppheedleamaaEvents
namespace Go.Proofs.Ytacppheedleamaa
open Go.RowKit
set_option maxRecDepth 20000

/-- How many columns a kind takes, and makes. -/
def tkN (k : Int) : Nat := if k = 3 then 0 else if k = 4 ∨ k = 5 ∨ k = 8 ∨ k = 9 then 2 else if k = 10 ∨ k = 11 then 4 else if 1 ≤ k ∧ k ≤ 11 then 1 else 0
def mkN (k : Int) : Nat := if k = 8 ∨ k = 9 then 2 else if k = 10 ∨ k = 11 then 4 else if 1 ≤ k ∧ k ≤ 11 then 1 else 0
theorem tkN_le (k : Int) : tkN k ≤ 4 := by
  unfold tkN
  repeat' split
  all_goals omega
theorem mkN_le (k : Int) : mkN k ≤ 4 := by
  unfold mkN
  repeat' split
  all_goals omega
theorem kinds_11 {k : Int} (h : 1 ≤ k ∧ k ≤ 11) : k = 1 ∨ k = 2 ∨ k = 3 ∨ k = 4 ∨ k = 5 ∨ k = 6 ∨ k = 7 ∨ k = 8 ∨ k = 9 ∨ k = 10 ∨ k = 11 := by omega
def allB (p : Int → Bool) (z : Nat → Int) : Nat → Bool
  | 0 => true
  | k + 1 => allB p z k && p (z k)
theorem allB_false {p : Int → Bool} {z : Nat → Int} {n k : Nat} (hk : k < n) (h : p (z k) = false) : allB p z n = false := by
  induction n with
  | zero => omega
  | succ n ih =>
    simp only [allB]
    by_cases hkn : k = n
    · subst hkn; rw [h]; simp
    · rw [ih (by omega)]; rfl
theorem allB_all {p : Int → Bool} {z : Nat → Int} {n : Nat} (h : allB p z n = true) : ∀ j, j < n → p (z j) = true := by
  induction n with
  | zero => intro j hj; omega
  | succ n ih =>
    simp only [allB, Bool.and_eq_true] at h
    intro j hj
    by_cases hjn : j = n
    · subst hjn; exact h.2
    · exact ih h.1 j (by omega)
theorem allB_of {p : Int → Bool} {z : Nat → Int} {n : Nat} (h : ∀ j, j < n → p (z j) = true) : allB p z n = true := by
  induction n with
  | zero => rfl
  | succ n ih => simp only [allB, Bool.and_eq_true]; exact ⟨ih fun j hj => h j (by omega), h n (by omega)⟩
def kindB (k : Int) : Bool := inB k 1 11
def stackB (n : Int) : Bool := inB n 1 4
theorem kindB_of {k : Int} (h : kindB k = true) : 1 ≤ k ∧ k ≤ 11 := by simpa [kindB, inB] using h
theorem stackB_of {k : Int} (h : stackB k = true) : 1 ≤ k ∧ k ≤ 4 := by simpa [stackB, inB] using h
def stitchesB (z : Nat → Int) (m : Nat) : Bool := decide (m ≤ 16) && allB kindB z m
def stacksB (s : Nat → Int) (n : Nat) : Bool := decide (n ≤ 8) && allB stackB s n
theorem stitchesB_of {z : Nat → Int} {m : Nat} (h : stitchesB z m = true) : m ≤ 16 ∧ ∀ j, j < m → 1 ≤ z j ∧ z j ≤ 11 := by
  simp only [stitchesB, Bool.and_eq_true, decide_eq_true_eq] at h
  exact ⟨h.1, fun j hj => kindB_of (allB_all h.2 j hj)⟩
theorem stacksB_of {s : Nat → Int} {n : Nat} (h : stacksB s n = true) : n ≤ 8 ∧ ∀ j, j < n → 1 ≤ s j ∧ s j ≤ 4 := by
  simp only [stacksB, Bool.and_eq_true, decide_eq_true_eq] at h
  exact ⟨h.1, fun j hj => stackB_of (allB_all h.2 j hj)⟩
/-- The columns that the first stitches take, and make. -/
def segT (z : Nat → Int) : Nat → Nat
  | 0 => 0
  | i + 1 => segT z i + tkN (z i)
def segM (z : Nat → Int) : Nat → Nat
  | 0 => 0
  | i + 1 => segM z i + mkN (z i)
theorem segT_le (z : Nat → Int) (i : Nat) : segT z i ≤ 4 * i := by
  induction i with
  | zero => simp [segT]
  | succ i ih => simp only [segT]; have := tkN_le (z i); omega
theorem segM_le (z : Nat → Int) (i : Nat) : segM z i ≤ 4 * i := by
  induction i with
  | zero => simp [segM]
  | succ i ih => simp only [segM]; have := mkN_le (z i); omega
theorem segT_mono (z : Nat → Int) {i j : Nat} (h : i ≤ j) : segT z i ≤ segT z j := by
  induction j with
  | zero =>
    obtain rfl : i = 0 := by omega
    exact Nat.le_refl _
  | succ j ih =>
    rcases Nat.lt_or_ge j i with h1 | h1
    · obtain rfl : i = j + 1 := by omega
      exact Nat.le_refl _
    · have := ih h1
      simp only [segT]
      omega
theorem segM_mono (z : Nat → Int) {i j : Nat} (h : i ≤ j) : segM z i ≤ segM z j := by
  induction j with
  | zero =>
    obtain rfl : i = 0 := by omega
    exact Nat.le_refl _
  | succ j ih =>
    rcases Nat.lt_or_ge j i with h1 | h1
    · obtain rfl : i = j + 1 := by omega
      exact Nat.le_refl _
    · have := ih h1
      simp only [segM]
      omega

theorem isStitch_any (k : Int) (w : World) : Calls Try.prog 72 #[.int .i64 k] w fun e w' => e = .returned (.bool (kindB k)) ∧ w = w' := by
  go_enter Try.func72, Try.ntmps72
  go_wp2_with ((go_at_call 34; refine (within_any _ _ _ _).mono ?_; rintro e w' ⟨rfl, rfl⟩))
  go_ret
  exact ⟨rfl, rfl⟩
theorem l14Kind_any (k : Int) (w : World) : Calls Try.prog 112 #[.int .i64 k] w fun e w' => e = .returned (.bool (kindB k)) ∧ w = w' := by
  go_enter Try.func112, Try.ntmps112
  go_wp2_with ((go_at_call 55; refine (l00In_any _ _ _ _).mono ?_; rintro e w' ⟨rfl, rfl⟩))
  go_ret
  exact ⟨rfl, rfl⟩

set_option maxHeartbeats 1000000 in
theorem implColumnsTaken_any (k : Int) (w : World) (h : 1 ≤ k ∧ k ≤ 11) : Calls Try.prog 98 #[.int .i64 k] w fun e w' => e = .returned (.int .i64 (tkN k)) ∧ w = w' := by
  rcases kinds_11 h with rfl | rfl | rfl | rfl | rfl | rfl | rfl | rfl | rfl | rfl | rfl
  all_goals
    clear h
    go_enter Try.func98, Try.ntmps98
    go_wp2_with ((go_at_call 72; refine (isStitch_any _ _).mono ?_; rintro e w' ⟨rfl, rfl⟩; rw [show ∀ k : Int, kindB k = inB k 1 11 from fun _ => rfl]; simp only [inB]))
    go_ret
    exact ⟨rfl, rfl⟩

set_option maxHeartbeats 1000000 in
theorem implColumnsMade_any (k : Int) (w : World) (h : 1 ≤ k ∧ k ≤ 11) : Calls Try.prog 41 #[.int .i64 k] w fun e w' => e = .returned (.int .i64 (mkN k)) ∧ w = w' := by
  rcases kinds_11 h with rfl | rfl | rfl | rfl | rfl | rfl | rfl | rfl | rfl | rfl | rfl
  all_goals
    clear h
    go_enter Try.func41, Try.ntmps41
    go_wp2_with ((go_at_call 72; refine (isStitch_any _ _).mono ?_; rintro e w' ⟨rfl, rfl⟩; rw [show ∀ k : Int, kindB k = inB k 1 11 from fun _ => rfl]; simp only [inB]))
    go_ret
    exact ⟨rfl, rfl⟩

set_option maxHeartbeats 1000000 in
theorem specColumnsTaken_any (k : Int) (w : World) (h : 1 ≤ k ∧ k ≤ 11) : Calls Try.prog 90 #[.int .i64 k] w fun e w' => e = .returned (.int .i64 (tkN k)) ∧ Below w.heap.size w w' := by
  rcases kinds_11 h with rfl | rfl | rfl | rfl | rfl | rfl | rfl | rfl | rfl | rfl | rfl
  all_goals
    clear h
    go_enter Try.func90, Try.ntmps90
    go_wp2_with ((go_at_call 112; refine (l14Kind_any _ _).mono ?_; rintro e w' ⟨rfl, rfl⟩; rw [show ∀ k : Int, kindB k = inB k 1 11 from fun _ => rfl]; simp only [inB]))
    go_ret
    exact ⟨rfl, (Below.refl _ _).alloc (Nat.le_refl _) _⟩

set_option maxHeartbeats 1000000 in
theorem specColumnsMade_any (k : Int) (w : World) (h : 1 ≤ k ∧ k ≤ 11) : Calls Try.prog 91 #[.int .i64 k] w fun e w' => e = .returned (.int .i64 (mkN k)) ∧ Below w.heap.size w w' := by
  rcases kinds_11 h with rfl | rfl | rfl | rfl | rfl | rfl | rfl | rfl | rfl | rfl | rfl
  all_goals
    clear h
    go_enter Try.func91, Try.ntmps91
    go_wp2_with ((go_at_call 112; refine (l14Kind_any _ _).mono ?_; rintro e w' ⟨rfl, rfl⟩; rw [show ∀ k : Int, kindB k = inB k 1 11 from fun _ => rfl]; simp only [inB]))
    go_ret
    exact ⟨rfl, (Below.refl _ _).alloc (Nat.le_refl _) _⟩

/-- The function that areStitches hands on. -/
theorem no_kind_any (x : Int) (w : World) : Calls Try.prog 96 #[.int .i64 x] w fun e w' => e = .returned (.bool (!kindB x)) ∧ w = w' := by
  go_enter Try.func96, Try.ntmps96
  go_wp2_with ((go_at_call 72; refine (isStitch_any _ _).mono ?_; rintro e w' ⟨rfl, rfl⟩))
  go_ret
  exact ⟨rfl, rfl⟩
def Idx_kind (w : World) (b : Bool) (e : Ending) (w' : World) : Prop := ∃ r : Int, e = .returned (.int .i64 r) ∧ (r = -1 ∧ b = true ∨ 0 ≤ r ∧ b = false) ∧ w = w'
set_option maxHeartbeats 400000 in
theorem idx_kind_any (A : Option Addr) (n c : Nat) (z : Nat → Int) (w : World) (ha : Rd w A n (fun j => .int .i64 (z j))) (hn : n ≤ 1048576) :
    Calls Try.prog 113 #[.slice A n c, .func (.func 96) #[] #[]] w (Idx_kind w (allB kindB z n)) := by
  have HA := Lib.hid ha
  clear ha
  go_enter Try.func113, Try.ntmps113
  go_wp2_with fail
  go_loop [8] (fun i => ∃ k : Nat, k ≤ n ∧ i = .int .i64 k ∧ Hid (allB kindB z k = true)) (fun i => n - (intOf i).toNat)
  case atStart => exact ⟨0, Nat.zero_le _, rfl, rfl⟩
  case round =>
    obtain ⟨k, hk, rfl, HK⟩ := hrel
    by_cases hlt : k < n
    · obtain ⟨ga, o, rfl, hg, hr⟩ := HA.out (by omega)
      have hc := hr k hlt
      clear hr
      obtain ⟨x, hx⟩ : ∃ x, x = z k := ⟨_, rfl⟩
      simp only [← hx] at hc
      have hq : ∀ b, kindB x = b → kindB (z k) = b := fun b h => by rw [← hx]; exact h
      have HQ := Lib.hid hq
      clear hq hx
      cases hl : kindB x
      · have HL := Lib.hid hl
        clear hl
        go_wp2_with ((go_at_call 96; refine (no_kind_any x _).mono ?_; rintro e w' ⟨rfl, rfl⟩; rw [HL.out]))
        go_ret
        exact ⟨_, rfl, .inr ⟨by omega, allB_false hlt (HQ.out false HL.out)⟩, rfl⟩
      · have HL := Lib.hid hl
        clear hl
        go_wp2_with ((go_at_call 96; refine (no_kind_any x _).mono ?_; rintro e w' ⟨rfl, rfl⟩; rw [HL.out]))
        go_round
        case rel => exact ⟨k + 1, by omega, by go_num, by unfold Hid; simp only [allB]; rw [HK.out, HQ.out true HL.out]; rfl⟩
        case measure => simp [intOf] <;> omega
    · obtain rfl : n = k := by omega
      go_wp2
      go_ret
      exact ⟨_, rfl, .inl ⟨rfl, HK.out⟩, rfl⟩
theorem contains_kind_any (A : Option Addr) (n c : Nat) (z : Nat → Int) (w : World) (ha : Rd w A n (fun j => .int .i64 (z j))) (hn : n ≤ 1048576) :
    Calls Try.prog 95 #[.slice A n c, .func (.func 96) #[] #[]] w fun e w' => e = .returned (.bool (!allB kindB z n)) ∧ w = w' := by
  go_enter Try.func95, Try.ntmps95
  go_wp2_with fail
  refine (idx_kind_any A n c z _ ha hn).mono ?_
  rintro e w' ⟨r, rfl, h, rfl⟩
  rcases h with ⟨rfl, hb⟩ | ⟨hr, hb⟩
  · have HB := Lib.hid hb
    clear hb
    go_wp2
    go_ret
    exact ⟨by rw [HB.out]; rfl, rfl⟩
  · have HB := Lib.hid hb
    clear hb
    have hr' : decide (0 ≤ r) = true := by simpa using hr
    go_wp2
    go_ret
    exact ⟨by rw [HB.out]; simp, rfl⟩
theorem areStitches_any (A : Option Addr) (n c : Nat) (z : Nat → Int) (w : World) (ha : Rd w A n (fun j => .int .i64 (z j))) (hn : n ≤ 1048576) :
    Calls Try.prog 61 #[.slice A n c] w fun e w' => e = .returned (.bool (stitchesB z n)) ∧ w = w' := by
  have HC := Lib.hid (contains_kind_any A n c z w ha hn)
  clear ha
  by_cases h : n ≤ 16
  · go_enter Try.func61, Try.ntmps61
    go_wp2_with fail
    refine HC.out.mono ?_
    rintro e w' ⟨rfl, rfl⟩
    go_wp2
    go_ret
    exact ⟨ret_bool (by simp [stitchesB, h]), rfl⟩
  · go_enter Try.func61, Try.ntmps61
    go_wp2
    go_ret
    exact ⟨ret_bool (by simp [stitchesB, h]), rfl⟩

/-- The function that areStacks hands on. -/
theorem no_stack_any (x : Int) (w : World) : Calls Try.prog 97 #[.int .i64 x] w fun e w' => e = .returned (.bool (!stackB x)) ∧ w = w' := by
  go_enter Try.func97, Try.ntmps97
  go_wp2_with ((go_at_call 34; refine (within_any _ _ _ _).mono ?_; rintro e w' ⟨rfl, rfl⟩))
  go_ret
  exact ⟨rfl, rfl⟩
def Idx_stack (w : World) (b : Bool) (e : Ending) (w' : World) : Prop := ∃ r : Int, e = .returned (.int .i64 r) ∧ (r = -1 ∧ b = true ∨ 0 ≤ r ∧ b = false) ∧ w = w'
set_option maxHeartbeats 400000 in
theorem idx_stack_any (A : Option Addr) (n c : Nat) (z : Nat → Int) (w : World) (ha : Rd w A n (fun j => .int .i64 (z j))) (hn : n ≤ 1048576) :
    Calls Try.prog 113 #[.slice A n c, .func (.func 97) #[] #[]] w (Idx_stack w (allB stackB z n)) := by
  have HA := Lib.hid ha
  clear ha
  go_enter Try.func113, Try.ntmps113
  go_wp2_with fail
  go_loop [8] (fun i => ∃ k : Nat, k ≤ n ∧ i = .int .i64 k ∧ Hid (allB stackB z k = true)) (fun i => n - (intOf i).toNat)
  case atStart => exact ⟨0, Nat.zero_le _, rfl, rfl⟩
  case round =>
    obtain ⟨k, hk, rfl, HK⟩ := hrel
    by_cases hlt : k < n
    · obtain ⟨ga, o, rfl, hg, hr⟩ := HA.out (by omega)
      have hc := hr k hlt
      clear hr
      obtain ⟨x, hx⟩ : ∃ x, x = z k := ⟨_, rfl⟩
      simp only [← hx] at hc
      have hq : ∀ b, stackB x = b → stackB (z k) = b := fun b h => by rw [← hx]; exact h
      have HQ := Lib.hid hq
      clear hq hx
      cases hl : stackB x
      · have HL := Lib.hid hl
        clear hl
        go_wp2_with ((go_at_call 97; refine (no_stack_any x _).mono ?_; rintro e w' ⟨rfl, rfl⟩; rw [HL.out]))
        go_ret
        exact ⟨_, rfl, .inr ⟨by omega, allB_false hlt (HQ.out false HL.out)⟩, rfl⟩
      · have HL := Lib.hid hl
        clear hl
        go_wp2_with ((go_at_call 97; refine (no_stack_any x _).mono ?_; rintro e w' ⟨rfl, rfl⟩; rw [HL.out]))
        go_round
        case rel => exact ⟨k + 1, by omega, by go_num, by unfold Hid; simp only [allB]; rw [HK.out, HQ.out true HL.out]; rfl⟩
        case measure => simp [intOf] <;> omega
    · obtain rfl : n = k := by omega
      go_wp2
      go_ret
      exact ⟨_, rfl, .inl ⟨rfl, HK.out⟩, rfl⟩
theorem contains_stack_any (A : Option Addr) (n c : Nat) (z : Nat → Int) (w : World) (ha : Rd w A n (fun j => .int .i64 (z j))) (hn : n ≤ 1048576) :
    Calls Try.prog 95 #[.slice A n c, .func (.func 97) #[] #[]] w fun e w' => e = .returned (.bool (!allB stackB z n)) ∧ w = w' := by
  go_enter Try.func95, Try.ntmps95
  go_wp2_with fail
  refine (idx_stack_any A n c z _ ha hn).mono ?_
  rintro e w' ⟨r, rfl, h, rfl⟩
  rcases h with ⟨rfl, hb⟩ | ⟨hr, hb⟩
  · have HB := Lib.hid hb
    clear hb
    go_wp2
    go_ret
    exact ⟨by rw [HB.out]; rfl, rfl⟩
  · have HB := Lib.hid hb
    clear hb
    have hr' : decide (0 ≤ r) = true := by simpa using hr
    go_wp2
    go_ret
    exact ⟨by rw [HB.out]; simp, rfl⟩
theorem areStacks_any (A : Option Addr) (n c : Nat) (z : Nat → Int) (w : World) (ha : Rd w A n (fun j => .int .i64 (z j))) (hn : n ≤ 1048576) :
    Calls Try.prog 62 #[.slice A n c] w fun e w' => e = .returned (.bool (stacksB z n)) ∧ w = w' := by
  have HC := Lib.hid (contains_stack_any A n c z w ha hn)
  clear ha
  by_cases h : n ≤ 8
  · go_enter Try.func62, Try.ntmps62
    go_wp2_with fail
    refine HC.out.mono ?_
    rintro e w' ⟨rfl, rfl⟩
    go_wp2
    go_ret
    exact ⟨ret_bool (by simp [stacksB, h]), rfl⟩
  · go_enter Try.func62, Try.ntmps62
    go_wp2
    go_ret
    exact ⟨ret_bool (by simp [stacksB, h]), rfl⟩

set_option maxHeartbeats 400000 in
theorem l14Ok_any (A : Option Addr) (n c : Nat) (z : Nat → Int) (w : World) (ha : Rd w A n (fun j => .int .i64 (z j))) (hn : n ≤ 1048576) :
    Calls Try.prog 85 #[.slice A n c] w fun e w' => e = .returned (.bool (stitchesB z n)) ∧ w = w' := by
  have HA := Lib.hid ha
  clear ha
  go_enter Try.func85, Try.ntmps85
  go_wp2_with fail
  go_loop [3] (fun i => ∃ k : Nat, k ≤ n ∧ i = .int .i64 k ∧ Hid (allB kindB z k = true)) (fun i => n - (intOf i).toNat)
  case atStart => exact ⟨0, Nat.zero_le _, rfl, rfl⟩
  case round =>
    obtain ⟨k, hk, rfl, HK⟩ := hrel
    by_cases hlt : k < n
    · obtain ⟨ga, o, rfl, hg, hr⟩ := HA.out (by omega)
      have hc := hr k hlt
      clear hr
      obtain ⟨x, hx⟩ : ∃ x, x = z k := ⟨_, rfl⟩
      simp only [← hx] at hc
      have hq : ∀ b, kindB x = b → kindB (z k) = b := fun b h => by rw [← hx]; exact h
      have HQ := Lib.hid hq
      clear hq hx
      cases hl : kindB x
      · have HL := Lib.hid hl
        clear hl
        go_wp2_with ((go_at_call 112; refine (l14Kind_any x _).mono ?_; rintro e w' ⟨rfl, rfl⟩; rw [HL.out]))
        go_ret
        exact ⟨ret_bool (by rw [show stitchesB z n = (decide (n ≤ 16) && allB kindB z n) from rfl, allB_false hlt (HQ.out false HL.out)]; simp), rfl⟩
      · have HL := Lib.hid hl
        clear hl
        go_wp2_with ((go_at_call 112; refine (l14Kind_any x _).mono ?_; rintro e w' ⟨rfl, rfl⟩; rw [HL.out]))
        go_round
        case rel => exact ⟨k + 1, by omega, by go_num, by unfold Hid; simp only [allB]; rw [HK.out, HQ.out true HL.out]; rfl⟩
        case measure => simp [intOf] <;> omega
    · obtain rfl : n = k := by omega
      go_wp2
      go_ret
      exact ⟨ret_bool (by rw [show stitchesB z n = (decide (n ≤ 16) && allB kindB z n) from rfl, HK.out]; simp; omega), rfl⟩

set_option maxHeartbeats 400000 in
theorem l14Stacks_any (A : Option Addr) (n c : Nat) (z : Nat → Int) (w : World) (ha : Rd w A n (fun j => .int .i64 (z j))) (hn : n ≤ 1048576) :
    Calls Try.prog 86 #[.slice A n c] w fun e w' => e = .returned (.bool (stacksB z n)) ∧ w = w' := by
  have HA := Lib.hid ha
  clear ha
  go_enter Try.func86, Try.ntmps86
  go_wp2_with fail
  go_loop [3] (fun i => ∃ k : Nat, k ≤ n ∧ i = .int .i64 k ∧ Hid (allB stackB z k = true)) (fun i => n - (intOf i).toNat)
  case atStart => exact ⟨0, Nat.zero_le _, rfl, rfl⟩
  case round =>
    obtain ⟨k, hk, rfl, HK⟩ := hrel
    by_cases hlt : k < n
    · obtain ⟨ga, o, rfl, hg, hr⟩ := HA.out (by omega)
      have hc := hr k hlt
      clear hr
      obtain ⟨x, hx⟩ : ∃ x, x = z k := ⟨_, rfl⟩
      simp only [← hx] at hc
      have hq : ∀ b, stackB x = b → stackB (z k) = b := fun b h => by rw [← hx]; exact h
      have HQ := Lib.hid hq
      clear hq hx
      cases hl : stackB x
      · have HL := Lib.hid hl
        clear hl
        go_wp2_with ((go_at_call 55; refine (l00In_any x _ _ _).mono ?_; rintro e w' ⟨rfl, rfl⟩; rw [show inB x 1 4 = stackB x from rfl, HL.out]))
        go_ret
        exact ⟨ret_bool (by rw [show stacksB z n = (decide (n ≤ 8) && allB stackB z n) from rfl, allB_false hlt (HQ.out false HL.out)]; simp), rfl⟩
      · have HL := Lib.hid hl
        clear hl
        go_wp2_with ((go_at_call 55; refine (l00In_any x _ _ _).mono ?_; rintro e w' ⟨rfl, rfl⟩; rw [show inB x 1 4 = stackB x from rfl, HL.out]))
        go_round
        case rel => exact ⟨k + 1, by omega, by go_num, by unfold Hid; simp only [allB]; rw [HK.out, HQ.out true HL.out]; rfl⟩
        case measure => simp [intOf] <;> omega
    · obtain rfl : n = k := by omega
      go_wp2
      go_ret
      exact ⟨ret_bool (by rw [show stacksB z n = (decide (n ≤ 8) && allB stackB z n) from rfl, HK.out]; simp; omega), rfl⟩

set_option maxHeartbeats 400000 in
theorem takenBy_any (A : Option Addr) (n c : Nat) (z : Nat → Int) (w : World) (ha : Rd w A n (fun j => .int .i64 (z j))) (hz : stitchesB z n = true) :
    Calls Try.prog 64 #[.slice A n c] w fun e w' => e = .returned (.int .i64 (segT z n)) ∧ w = w' := by
  have HA := Lib.hid ha
  obtain ⟨hn, hz'⟩ := stitchesB_of hz
  have HZ := Lib.hid hz'
  clear ha hz hz'
  go_enter Try.func64, Try.ntmps64
  go_wp2_with fail
  go_loop [3, 8] (fun s i => ∃ k : Nat, k ≤ n ∧ i = .int .i64 k ∧ s = .int .i64 (segT z k)) (fun _ i => n - (intOf i).toNat)
  case atStart => exact ⟨0, Nat.zero_le _, rfl, rfl⟩
  case round =>
    obtain ⟨k, hk, rfl, rfl⟩ := hrel
    have hs := segT_le z k
    have ht := tkN_le (z k)
    by_cases hlt : k < n
    · obtain ⟨ga, o, rfl, hg, hr⟩ := HA.out (by omega)
      have hc := hr k hlt
      have hzk := HZ.out k hlt
      clear hr
      go_wp2_with ((go_at_call 98; refine (implColumnsTaken_any _ _ hzk).mono ?_; rintro e w' ⟨rfl, rfl⟩))
      go_round
      case rel => exact ⟨k + 1, by omega, by go_num, by simp only [segT, Value.int.injEq, true_and]; omega⟩
      case measure => simp [intOf] <;> omega
    · obtain rfl : n = k := by omega
      go_wp2
      go_ret
      exact ⟨rfl, rfl⟩
set_option maxHeartbeats 400000 in
theorem specTakenBy_any (A : Option Addr) (n c : Nat) (z : Nat → Int) (w : World) (ha : Rd w A n (fun j => .int .i64 (z j))) (hz : stitchesB z n = true) :
    Calls Try.prog 87 #[.slice A n c] w fun e w' => e = .returned (.int .i64 (segT z n)) ∧ Below w.heap.size w w' := by
  have HA := Lib.hid ha
  obtain ⟨hn, hz'⟩ := stitchesB_of hz
  have HZ := Lib.hid hz'
  have HZ0 := Lib.hid hz
  clear ha hz hz'
  go_enter Try.func87, Try.ntmps87
  go_wp2_with ((go_at_call 85; refine (l14Ok_any A n c z _ HA.out (by omega)).mono ?_; rintro e w' ⟨rfl, rfl⟩; rw [HZ0.out]))
  go_loopw [3, 4] (fun s i wr => ∃ k : Nat, k ≤ n ∧ i = .int .i64 k ∧ s = .int .i64 (segT z k) ∧ Below w.heap.size w wr) (fun _ i _ => n - (intOf i).toNat)
  case atStart => exact ⟨0, Nat.zero_le _, rfl, rfl, Below.refl _ _⟩
  case round =>
    obtain ⟨k, hk, rfl, rfl, hb⟩ := hrel
    have HB := Lib.hid hb
    clear hb
    have hs := segT_le z k
    have ht := tkN_le (z k)
    by_cases hlt : k < n
    · obtain ⟨ga, o, rfl, hg, hr⟩ := HA.out.below HB.out (by omega)
      have hc := hr k hlt
      have hzk := HZ.out k hlt
      clear hr
      go_wp2_with fail
      refine (specColumnsTaken_any _ _ hzk).mono ?_
      rintro e w1 ⟨rfl, hb1⟩
      have HB1 := Lib.hid (HB.out.trans (hb1.mono HB.out.size))
      clear hb1 hc
      go_wp2
      go_roundw
      case rel => exact ⟨k + 1, by omega, by go_num, by simp only [segT, Value.int.injEq, true_and]; omega, HB1.out⟩
      case measure => simp [intOf] <;> omega
    · obtain rfl : n = k := by omega
      go_wp2
      go_ret
      exact ⟨rfl, HB.out⟩
end Go.Proofs.Ytacppheedleamaa
