/- Walks: both CompareCosts compare times, passes, operations and yarns in this order, and return the same number. No condition. -/
import Derived.Test.YtmlimefpmldlbaaIntLaw
import Derived.Test.YtmlimefpmldlbaaQuietTail
namespace Go.Proofs.Ytmlimefpmldlbaa
open Go.RowKit

/-- -1, 0 or 1: how a lies to b. -/
def cmpI (a b : Int) : Int := if a < b then -1 else if b < a then 1 else 0
theorem cmpI_lt {a b : Int} (h : a < b) : cmpI a b = -1 := by simp [cmpI, h]
theorem cmpI_gt {a b : Int} (h : b < a) : cmpI a b = 1 := by simp [cmpI, h]; omega
theorem cmpI_eq {a b : Int} (h : a = b) : cmpI a b = 0 := by simp [cmpI, h]
/-- r is how n numbers z lie to m numbers y, in the order of a dictionary. -/
def IsCmp (n m : Nat) (z y : Nat → Int) (r : Int) : Prop :=
  (∃ k, k < n ∧ k < m ∧ (∀ j, j < k → z j = y j) ∧ z k ≠ y k ∧ r = cmpI (z k) (y k)) ∨ ((∀ j, j < n → j < m → z j = y j) ∧ r = cmpI n m)
theorem IsCmp.unique {n m : Nat} {z y : Nat → Int} {r s : Int} (h : IsCmp n m z y r) (h' : IsCmp n m z y s) : r = s := by
  rcases h with ⟨k, hk, hk2, hb, hne, rfl⟩ | ⟨h1, rfl⟩ <;> rcases h' with ⟨k', hk', hk2', hb', hne', rfl⟩ | ⟨h1', rfl⟩
  · rcases Nat.lt_trichotomy k k' with h | h | h
    · exact absurd (hb' k h) hne
    · subst h; rfl
    · exact absurd (hb k' h) hne'
  · exact absurd (h1' k hk hk2) hne
  · exact absurd (h1 k' hk' hk2') hne'
  · rfl
/-- r is the first of n numbers z that is not 0; else 0. -/
def IsOr (n : Nat) (z : Nat → Int) (r : Int) : Prop := (∃ k, k < n ∧ (∀ j, j < k → z j = 0) ∧ z k ≠ 0 ∧ r = z k) ∨ ((∀ j, j < n → z j = 0) ∧ r = 0)
theorem IsOr.unique {n : Nat} {z : Nat → Int} {r s : Int} (h : IsOr n z r) (h' : IsOr n z s) : r = s := by
  rcases h with ⟨k, hk, hb, hne, rfl⟩ | ⟨h1, rfl⟩ <;> rcases h' with ⟨k', hk', hb', hne', rfl⟩ | ⟨h1', rfl⟩
  · rcases Nat.lt_trichotomy k k' with h | h | h
    · exact absurd (hb' k h) hne
    · subst h; rfl
    · exact absurd (hb k' h) hne'
  · exact absurd (h1' k hk) hne
  · exact absurd (h1 k' hk') hne'
  · rfl

theorem isNaN_any (x : Int) (w : World) : Calls Try.prog 61 #[.int .i64 x] w fun e w' => e = .returned (.bool false) ∧ w' = w := by
  go_enter Try.func61, Try.ntmps61
  go_wp2
  go_ret
  exact ⟨rfl, rfl⟩

theorem cmpCompare_any (x y : Int) (w : World) : Calls Try.prog 58 #[.int .i64 x, .int .i64 y] w fun e w' => e = .returned (.int .i64 (cmpI x y)) ∧ w' = w := by
  go_enter Try.func58, Try.ntmps58
  go_wp2_with (go_at_call 61; refine (isNaN_any _ _).mono ?_; rintro e w' ⟨rfl, rfl⟩)
  all_goals go_ret
  all_goals refine ⟨ret_int ?_, rfl⟩
  · rw [cmpI_lt (by assumption)]
  · rw [cmpI_gt (by assumption)]
  · rw [cmpI_eq (by omega)]

theorem l27Compare_any (x y : Int) (w : World) : Calls Try.prog 54 #[.int .i64 x, .int .i64 y] w fun e w' => e = .returned (.int .i64 (cmpI x y)) ∧ w' = w := by
  go_enter Try.func54, Try.ntmps54
  go_wp2
  all_goals go_ret
  all_goals refine ⟨ret_int ?_, rfl⟩
  · rw [cmpI_lt (by assumption)]
  · rw [cmpI_gt (by assumption)]
  · rw [cmpI_eq (by omega)]

def CmpP (n m : Nat) (z y : Nat → Int) (w : World) (e : Ending) (w' : World) : Prop := ∃ r : Int, IsCmp n m z y r ∧ e = .returned (.int .i64 r) ∧ w' = w
def CmpD (n m : Nat) (z y : Nat → Int) (w : World) (e : Ending) (w' : World) : Prop := ∃ r : Int, IsCmp n m z y r ∧ e = .returned (.int .i64 r) ∧ ∃ q, w' = w.drewN q

set_option maxHeartbeats 1000000 in
theorem slicesCompare_any (A A' : Option Addr) (n m c c' : Nat) (z y : Nat → Int) (w : World) (ha : Rd w A n (fun j => .int .i64 (z j))) (hb : Rd w A' m (fun j => .int .i64 (y j))) (hn : n ≤ 1000000000) (hm : m ≤ 1000000000) :
    Calls Try.prog 59 #[.slice A n c, .slice A' m c'] w (CmpP n m z y w) := by
  have HA := Lib.hid ha
  have HB := Lib.hid hb
  clear ha hb
  go_enter Try.func59, Try.ntmps59
  go_wp2
  go_loop [11] (fun i => ∃ k : Nat, k ≤ n ∧ k ≤ m ∧ i = .int .i64 k ∧ Hid (∀ j, j < k → z j = y j)) (fun i => n - (intOf i).toNat)
  case atStart => exact ⟨0, Nat.zero_le _, Nat.zero_le _, rfl, fun j hj => absurd hj (by omega)⟩
  case round =>
    obtain ⟨k, hk, hkm, rfl, HE⟩ := hrel
    by_cases hlt : k < n
    · obtain ⟨g, o, rfl, hc⟩ := HA.out.row hlt
      obtain ⟨x, hx⟩ : ∃ x, x = z k := ⟨_, rfl⟩
      rw [← hx] at hc
      have HX := Lib.hid hx
      clear hx
      by_cases hltm : k < m
      · obtain ⟨g', o', rfl, hc'⟩ := HB.out.row hltm
        obtain ⟨x', hx'⟩ : ∃ x', x' = y k := ⟨_, rfl⟩
        rw [← hx'] at hc'
        have HX' := Lib.hid hx'
        clear hx'
        by_cases hxx : x = x'
        · subst hxx
          have hc0 : cmpI x x = 0 := cmpI_eq rfl
          go_wp2_with (go_at_call 58; refine (cmpCompare_any _ _ _).mono ?_; rintro e w' ⟨rfl, rfl⟩)
          go_round
          case rel => exact ⟨k + 1, by omega, by omega, by go_num, fun j hj => by
            by_cases h : j = k
            · subst h; rw [← HX.out, ← HX'.out]
            · exact HE.out j (by omega)⟩
          case measure => simp [intOf] <;> omega
        · have hne : (cmpI x x' != 0) = true := by
            unfold cmpI
            split
            · rfl
            · split
              · rfl
              · omega
          go_wp2_with (go_at_call 58; refine (cmpCompare_any _ _ _).mono ?_; rintro e w' ⟨rfl, rfl⟩)
          go_ret
          exact ⟨cmpI x x', .inl ⟨k, hlt, hltm, HE.out, by rw [← HX.out, ← HX'.out]; exact hxx, by rw [HX.out, HX'.out]⟩, rfl, rfl⟩
      · obtain rfl : k = m := by omega
        go_wp2
        go_ret
        exact ⟨1, .inr ⟨fun j _ h2 => HE.out j h2, by rw [cmpI_gt (by omega)]⟩, rfl, rfl⟩
    · obtain rfl : k = n := by omega
      by_cases hltm : k < m
      · go_wp2
        go_ret
        exact ⟨-1, .inr ⟨fun j h1 _ => HE.out j h1, by rw [cmpI_lt (by omega)]⟩, rfl, rfl⟩
      · obtain rfl : k = m := by omega
        go_wp2
        go_ret
        exact ⟨0, .inr ⟨fun j h1 _ => HE.out j h1, by rw [cmpI_eq rfl]⟩, rfl, rfl⟩

set_option maxHeartbeats 1000000 in
theorem l27Lists_any (A A' : Option Addr) (n m c c' : Nat) (z y : Nat → Int) (w : World) (ha : Rd w A n (fun j => .int .i64 (z j))) (hb : Rd w A' m (fun j => .int .i64 (y j))) (hn : n ≤ 1000000000) (hm : m ≤ 1000000000) :
    Calls Try.prog 55 #[.slice A n c, .slice A' m c'] w (CmpD n m z y w) := by
  have _ := hm
  have HA := Lib.hid ha
  have HB := Lib.hid hb
  clear ha hb
  go_enter Try.func55, Try.ntmps55
  go_wp2
  go_loopw [5] (fun i wr => ∃ k : Nat, k ≤ n ∧ k ≤ m ∧ i = .int .i64 k ∧ Hid (∀ j, j < k → z j = y j) ∧ ∃ q, wr = w.drewN q) (fun i _ => n - (intOf i).toNat)
  case atStart => exact ⟨0, Nat.zero_le _, Nat.zero_le _, rfl, fun j hj => absurd hj (by omega), 0, rfl⟩
  case round =>
    obtain ⟨k, hk, hkm, rfl, HE, q, rfl⟩ := hrel
    by_cases hlt : k < n ∧ k < m
    · obtain ⟨hltn, hltm⟩ := hlt
      obtain ⟨g, o, rfl, hc⟩ := HA.out.row hltn
      obtain ⟨x, hx⟩ : ∃ x, x = z k := ⟨_, rfl⟩
      rw [← hx] at hc
      have HX := Lib.hid hx
      clear hx
      obtain ⟨g', o', rfl, hc'⟩ := HB.out.row hltm
      obtain ⟨x', hx'⟩ : ∃ x', x' = y k := ⟨_, rfl⟩
      rw [← hx'] at hc'
      have HX' := Lib.hid hx'
      clear hx'
      have b1 : (0 : Int) ≤ (k : Int) := by omega
      have b2 : (k : Int) < (n : Int) := by omega
      have b3 : (k : Int) < (m : Int) := by omega
      by_cases hxx : x = x'
      · subst hxx
        go_wp2
        go_quiet (fail)
        go_wp2
        go_roundw
        case rel => exact ⟨k + 1, by omega, by omega, by go_num, fun j hj => by
            by_cases h : j = k
            · subst h; rw [← HX.out, ← HX'.out]
            · exact HE.out j (by omega), q + nq, rfl⟩
        case measure => simp [intOf] <;> omega
      · have hne : (x != x') = true := by simp [hxx]
        go_wp2
        go_quiet (fail)
        go_wp2
        go_quiet ((go_at_call 54; exact quiet_joined (l27Compare_any _ _ _)))
        go_wp2
        go_ret
        exact ⟨cmpI x x', .inl ⟨k, hltn, hltm, HE.out, by rw [← HX.out, ← HX'.out]; exact hxx, by rw [HX.out, HX'.out]⟩, rfl, _, by rw [World.drewN_drewN, World.drewN_drewN]⟩
    · have hend : ∀ j, j < n → j < m → z j = y j := fun j h1 h2 => HE.out j (by omega)
      have HEND := Lib.hid hend
      clear hend
      by_cases hltn : k < n
      · have hltm : ¬ k < m := fun h => hlt ⟨hltn, h⟩
        clear hlt
        go_wp2_with (go_at_call 54; refine (l27Compare_any _ _ _).mono ?_; rintro e w' ⟨rfl, rfl⟩)
        go_ret
        exact ⟨cmpI n m, .inr ⟨HEND.out, rfl⟩, rfl, q, rfl⟩
      · clear hlt
        go_wp2_with (go_at_call 54; refine (l27Compare_any _ _ _).mono ?_; rintro e w' ⟨rfl, rfl⟩)
        go_ret
        exact ⟨cmpI n m, .inr ⟨HEND.out, rfl⟩, rfl, q, rfl⟩

def OrP (n : Nat) (z : Nat → Int) (w : World) (e : Ending) (w' : World) : Prop := ∃ r : Int, IsOr n z r ∧ e = .returned (.int .i64 r) ∧ w' = w

set_option maxHeartbeats 1000000 in
theorem cmpOr_any (A : Option Addr) (n c : Nat) (z : Nat → Int) (w : World) (ha : Rd w A n (fun j => .int .i64 (z j))) (hn : n ≤ 1000000000) :
    Calls Try.prog 57 #[.slice A n c] w (OrP n z w) := by
  have HA := Lib.hid ha
  clear ha
  go_enter Try.func57, Try.ntmps57
  go_wp2
  go_loop [8] (fun i => ∃ k : Nat, k ≤ n ∧ i = .int .i64 k ∧ Hid (∀ j, j < k → z j = 0)) (fun i => n - (intOf i).toNat)
  case atStart => exact ⟨0, Nat.zero_le _, rfl, fun j hj => absurd hj (by omega)⟩
  case round =>
    obtain ⟨k, hk, rfl, HE⟩ := hrel
    by_cases hlt : k < n
    · obtain ⟨g, o, rfl, hc⟩ := HA.out.row hlt
      obtain ⟨x, hx⟩ : ∃ x, x = z k := ⟨_, rfl⟩
      rw [← hx] at hc
      have HX := Lib.hid hx
      clear hx
      by_cases hx0 : x = 0
      · subst hx0
        go_wp2
        go_round
        case rel => exact ⟨k + 1, by omega, by go_num, fun j hj => by
            by_cases h : j = k
            · subst h; exact HX.out.symm
            · exact HE.out j (by omega)⟩
        case measure => simp [intOf] <;> omega
      · have hne : (x != 0) = true := by simp [hx0]
        go_wp2
        go_ret
        exact ⟨x, .inl ⟨k, hlt, HE.out, by rw [← HX.out]; exact hx0, HX.out⟩, rfl, rfl⟩
    · obtain rfl : k = n := by omega
      go_wp2
      go_ret
      exact ⟨0, .inr ⟨HE.out, rfl⟩, rfl, rfl⟩

theorem firstF (p : Nat → Prop) (n : Nat) : (∃ k, k < n ∧ (∀ j, j < k → p j) ∧ ¬ p k) ∨ ∀ j, j < n → p j := by
  induction n with
  | zero => exact .inr fun j hj => absurd hj (by omega)
  | succ n ih =>
    rcases ih with ⟨k, hk, h1, h2⟩ | h
    · exact .inl ⟨k, by omega, h1, h2⟩
    · by_cases hz : p n
      · exact .inr fun j hj => by
          by_cases e : j = n
          · subst e; exact hz
          · exact h j (by omega)
      · exact .inl ⟨n, by omega, h, hz⟩
theorem isCmp_some (n m : Nat) (z y : Nat → Int) : ∃ r, IsCmp n m z y r := by
  rcases firstF (fun j => z j = y j) (min n m) with ⟨k, hk, h1, h2⟩ | h
  · exact ⟨_, .inl ⟨k, by omega, by omega, h1, h2, rfl⟩⟩
  · exact ⟨_, .inr ⟨fun j h1 h2 => h j (by omega), rfl⟩⟩
theorem isOr_some (n : Nat) (z : Nat → Int) : ∃ r, IsOr n z r := by
  rcases firstF (fun j => z j = 0) n with ⟨k, hk, h1, h2⟩ | h
  · exact ⟨_, .inl ⟨k, hk, h1, h2, rfl⟩⟩
  · exact ⟨_, .inr ⟨h, rfl⟩⟩
theorem slicesCompare_is {A A' : Option Addr} {n m c c' : Nat} {z y : Nat → Int} {r : Int} (hr : IsCmp n m z y r) (w : World) (ha : Rd w A n (fun j => .int .i64 (z j))) (hb : Rd w A' m (fun j => .int .i64 (y j))) (hn : n ≤ 1000000000) (hm : m ≤ 1000000000) :
    Calls Try.prog 59 #[.slice A n c, .slice A' m c'] w fun e w' => e = .returned (.int .i64 r) ∧ w' = w :=
  (slicesCompare_any A A' n m c c' z y w ha hb hn hm).mono fun e w' ⟨s, hs, he, hw⟩ => by rw [hr.unique hs]; exact ⟨he, hw⟩
theorem l27Lists_is {A A' : Option Addr} {n m c c' : Nat} {z y : Nat → Int} {r : Int} (hr : IsCmp n m z y r) (w : World) (ha : Rd w A n (fun j => .int .i64 (z j))) (hb : Rd w A' m (fun j => .int .i64 (y j))) (hn : n ≤ 1000000000) (hm : m ≤ 1000000000) :
    Calls Try.prog 55 #[.slice A n c, .slice A' m c'] w fun e w' => e = .returned (.int .i64 r) ∧ ∃ q, w' = w.drewN q :=
  (l27Lists_any A A' n m c c' z y w ha hb hn hm).mono fun e w' ⟨s, hs, he, hw⟩ => by rw [hr.unique hs]; exact ⟨he, hw⟩
/-- Four numbers. -/
def quad (a b c d : Int) (j : Nat) : Int := if j = 0 then a else if j = 1 then b else if j = 2 then c else d
theorem quad_rd {w : World} {g : Nat} {a b c d : Int} (hg : g < w.heap.size) (h : ∀ o, w.cell? ⟨g, o, none⟩ = (#[.int .i64 a, .int .i64 b, .int .i64 c, .int .i64 d] : Array Value)[o]?) : Rd w (some ⟨g, 0, none⟩) 4 (fun j => .int .i64 (quad a b c d j)) :=
  fun _ => ⟨g, 0, rfl, hg, fun j hj => by
    rw [Nat.zero_add, h j]
    match j, hj with
    | 0, _ => rfl
    | 1, _ => rfl
    | 2, _ => rfl
    | 3, _ => rfl⟩

set_option maxHeartbeats 1000000 in
theorem implCompareCosts_any (o1 p1 r1 k1 t1 o2 p2 r2 k2 t2 : Int) (A A' : Option Addr) (n m c c' : Nat) (z y : Nat → Int) (rl r : Int) (hrl : IsCmp n m z y rl) (hr : IsOr 4 (quad (cmpI t1 t2) (cmpI p1 p2) (cmpI o1 o2) rl) r)
    (w : World) (ha : Rd w A n (fun j => .int .i64 (z j))) (hb : Rd w A' m (fun j => .int .i64 (y j))) (hn : n ≤ 1000000000) (hm : m ≤ 1000000000) :
    Calls Try.prog 34 #[.agg #[.int .i64 o1, .int .i64 p1, .int .i64 r1, .int .i64 k1, .int .i64 t1, .slice A n c], .agg #[.int .i64 o2, .int .i64 p2, .int .i64 r2, .int .i64 k2, .int .i64 t2, .slice A' m c']] w
      fun e w' => e = .returned (.int .i64 r) ∧ Below w.heap.size w w' := by
  have HA := Lib.hid ha
  have HB := Lib.hid hb
  have HRL := Lib.hid hrl
  have HR := Lib.hid hr
  clear ha hb hrl hr
  go_enter Try.func34, Try.ntmps34
  go_wp2
  refine wp_region_quiet_tail (C := fun w' => ∃ n, w' = World.drewN _ n) 20 (by kernel_rfl) (by kernel_rfl) ⟨1, rfl⟩ ?_
  simp only [List.take_succ_cons, List.take_zero, List.drop_succ_cons, List.drop_zero]
  repeat (quiet_step (first | (go_at_call 58; exact Calls.quiet_of_same (cmpCompare_any _ _ _)) | (go_at_call 59; exact Calls.quiet_of_same (slicesCompare_is HRL.out _ (HA.out.below (by (repeat' first | exact Below.refl _ _ | refine Below.alloc ?_ ?_ _ | refine Below.setCell ?_ ?_ _ | refine Below.drew ?_ | refine Below.drewN' ?_ _ | (refine Below.trans ?_ (Below.mono (by assumption) ?_)) | exact Nat.le_refl _ | (simp; done) | (simp; omega) | omega))) (HB.out.below (by (repeat' first | exact Below.refl _ _ | refine Below.alloc ?_ ?_ _ | refine Below.setCell ?_ ?_ _ | refine Below.drew ?_ | refine Below.drewN' ?_ _ | (refine Below.trans ?_ (Below.mono (by assumption) ?_)) | exact Nat.le_refl _ | (simp; done) | (simp; omega) | omega))) hn hm))))
  refine wpQuiet_nil ?_
  intro _ hw'
  obtain ⟨nq, rfl⟩ := hw'
  go_wp2_with fail
  refine ((cmpOr_any _ 4 4 (quad (cmpI t1 t2) (cmpI p1 p2) (cmpI o1 o2) rl) _ (quad_rd (by simp) (cell_alloc_at (by simp))) (by omega)).mono ?_)
  rintro e w' ⟨s, hs, rfl, rfl⟩
  obtain rfl := HR.out.unique hs
  go_wp2
  go_ret
  exact ⟨rfl, by (repeat' first | exact Below.refl _ _ | refine Below.alloc ?_ ?_ _ | refine Below.setCell ?_ ?_ _ | refine Below.drew ?_ | refine Below.drewN' ?_ _ | (refine Below.trans ?_ (Below.mono (by assumption) ?_)) | exact Nat.le_refl _ | (simp; done) | (simp; omega) | omega)⟩

set_option maxHeartbeats 1000000 in
theorem specCompareCosts_any (o1 p1 r1 k1 t1 o2 p2 r2 k2 t2 : Int) (A A' : Option Addr) (n m c c' : Nat) (z y : Nat → Int) (rl r : Int) (hrl : IsCmp n m z y rl) (hr : IsOr 4 (quad (cmpI t1 t2) (cmpI p1 p2) (cmpI o1 o2) rl) r)
    (w : World) (ha : Rd w A n (fun j => .int .i64 (z j))) (hb : Rd w A' m (fun j => .int .i64 (y j))) (hn : n ≤ 1000000000) (hm : m ≤ 1000000000) :
    Calls Try.prog 32 #[.agg #[.int .i64 o1, .int .i64 p1, .int .i64 r1, .int .i64 k1, .int .i64 t1, .slice A n c], .agg #[.int .i64 o2, .int .i64 p2, .int .i64 r2, .int .i64 k2, .int .i64 t2, .slice A' m c']] w
      fun e w' => e = .returned (.int .i64 r) ∧ Below w.heap.size w w' := by
  have HA := Lib.hid ha
  have HB := Lib.hid hb
  have HRL := Lib.hid hrl
  have HR := Lib.hid hr
  clear ha hb hrl hr
  go_enter Try.func32, Try.ntmps32
  go_wp2
  refine wp_region_quiet_tail (C := fun w' => ∃ n, w' = World.drewN _ n) 20 (by kernel_rfl) (by kernel_rfl) ⟨1, rfl⟩ ?_
  simp only [List.take_succ_cons, List.take_zero, List.drop_succ_cons, List.drop_zero]
  repeat (quiet_step (first | (go_at_call 54; exact Calls.quiet_of_same (l27Compare_any _ _ _)) | (go_at_call 55; exact Calls.quiet_of (l27Lists_is HRL.out _ (HA.out.below (by (repeat' first | exact Below.refl _ _ | refine Below.alloc ?_ ?_ _ | refine Below.setCell ?_ ?_ _ | refine Below.drew ?_ | refine Below.drewN' ?_ _ | (refine Below.trans ?_ (Below.mono (by assumption) ?_)) | exact Nat.le_refl _ | (simp; done) | (simp; omega) | omega))) (HB.out.below (by (repeat' first | exact Below.refl _ _ | refine Below.alloc ?_ ?_ _ | refine Below.setCell ?_ ?_ _ | refine Below.drew ?_ | refine Below.drewN' ?_ _ | (refine Below.trans ?_ (Below.mono (by assumption) ?_)) | exact Nat.le_refl _ | (simp; done) | (simp; omega) | omega))) hn hm))))
  refine wpQuiet_nil ?_
  intro _ hw'
  obtain ⟨nq, rfl⟩ := hw'
  have hcw : ∀ o, ((((w.alloc (.cells #[.int .i64 o1, .int .i64 p1, .int .i64 r1, .int .i64 k1, .int .i64 t1, .slice A n c] 51)).alloc (.cells #[.int .i64 o2, .int .i64 p2, .int .i64 r2, .int .i64 k2, .int .i64 t2, .slice A' m c'] 51)).drewN nq).alloc (.cells #[.int .i64 (cmpI t1 t2), .int .i64 (cmpI p1 p2), .int .i64 (cmpI o1 o2), .int .i64 rl] 2)).cell? ⟨w.heap.size + 1 + 1, o, none⟩ = (#[.int .i64 (cmpI t1 t2), .int .i64 (cmpI p1 p2), .int .i64 (cmpI o1 o2), .int .i64 rl] : Array Value)[o]? := cell_alloc_at (by simp)
  have HRD := Lib.hid (quad_rd (by simp) hcw)
  have HBW : Hid (Below w.heap.size w ((((w.alloc (.cells #[.int .i64 o1, .int .i64 p1, .int .i64 r1, .int .i64 k1, .int .i64 t1, .slice A n c] 51)).alloc (.cells #[.int .i64 o2, .int .i64 p2, .int .i64 r2, .int .i64 k2, .int .i64 t2, .slice A' m c'] 51)).drewN nq).alloc (.cells #[.int .i64 (cmpI t1 t2), .int .i64 (cmpI p1 p2), .int .i64 (cmpI o1 o2), .int .i64 rl] 2))) := by unfold Hid; (repeat' first | exact Below.refl _ _ | refine Below.alloc ?_ ?_ _ | refine Below.setCell ?_ ?_ _ | refine Below.drew ?_ | refine Below.drewN' ?_ _ | (refine Below.trans ?_ (Below.mono (by assumption) ?_)) | exact Nat.le_refl _ | (simp; done) | (simp; omega) | omega)
  clear hcw
  go_wp2_with fail
  go_loop [6] (fun i => ∃ k : Nat, k ≤ 4 ∧ i = .int .i64 k ∧ Hid (∀ j, j < k → quad (cmpI t1 t2) (cmpI p1 p2) (cmpI o1 o2) rl j = 0)) (fun i => 4 - (intOf i).toNat)
  case atStart => exact ⟨0, Nat.zero_le _, rfl, fun j hj => absurd hj (by omega)⟩
  case round =>
    obtain ⟨k, hk, rfl, HE⟩ := hrel
    by_cases hlt : k < 4
    · obtain ⟨g, o, e, hc⟩ := HRD.out.row hlt
      injection e with e
      injection e with e1 e2
      subst e1 e2
      rw [Nat.zero_add] at hc
      obtain ⟨x, hx⟩ : ∃ x, x = quad (cmpI t1 t2) (cmpI p1 p2) (cmpI o1 o2) rl k := ⟨_, rfl⟩
      rw [← hx] at hc
      have HX := Lib.hid hx
      clear hx
      by_cases hx0 : x = 0
      · subst hx0
        go_wp2
        go_round
        case rel => exact ⟨k + 1, by omega, by go_num, fun j hj => by
            by_cases h : j = k
            · subst h; exact HX.out.symm
            · exact HE.out j (by omega)⟩
        case measure => simp [intOf] <;> omega
      · have hne : (x != 0) = true := by simp [hx0]
        obtain rfl : x = r := IsOr.unique (.inl ⟨k, hlt, HE.out, by rw [← HX.out]; exact hx0, HX.out⟩) HR.out
        go_wp2
        go_ret
        exact ⟨rfl, HBW.out⟩
    · obtain rfl : k = 4 := by omega
      obtain rfl : 0 = r := IsOr.unique (.inr ⟨HE.out, rfl⟩) HR.out
      go_wp2
      go_ret
      exact ⟨rfl, HBW.out⟩
end Go.Proofs.Ytmlimefpmldlbaa
