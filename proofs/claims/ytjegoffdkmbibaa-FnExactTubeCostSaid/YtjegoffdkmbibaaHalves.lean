/- Walks: a knit on each needle in a direction, on the beds that a function says, by the program: for each of its four functions. (Printed by wip/halfgen.py.) -/
import Derived.Test.YtjegoffdkmbibaaTubes2
import Derived.Deep.RegionLaw
namespace Go.Proofs.Ytjegoffdkmbibaa
open Go.RowKit
set_option maxRecDepth 20000

theorem frontBed_any (x : Int) (w : World) :
    Calls Try.prog 98 #[.int .i64 x] w fun e w' => e = .returned (.int .i64 1) ∧ w' = w := by
  go_enter Try.func98, Try.ntmps98
  go_wp2
  go_ret
  exact ⟨rfl, rfl⟩

theorem backBed_any (x : Int) (w : World) :
    Calls Try.prog 102 #[.int .i64 x] w fun e w' => e = .returned (.int .i64 2) ∧ w' = w := by
  go_enter Try.func102, Try.ntmps102
  go_wp2
  go_ret
  exact ⟨rfl, rfl⟩

theorem evenBed_any (x : Int) (w : World) (h0 : 0 ≤ x) (h1 : x ≤ 100) :
    Calls Try.prog 103 #[.int .i64 x] w fun e w' => e = .returned (.int .i64 (1 + x % 2)) ∧ w' = w := by
  go_enter Try.func103, Try.ntmps103
  go_wp2
  go_ret
  exact ⟨rfl, rfl⟩

theorem oddBed_any (x : Int) (w : World) (h0 : 0 ≤ x) (h1 : x ≤ 100) :
    Calls Try.prog 104 #[.int .i64 x] w fun e w' => e = .returned (.int .i64 (2 - x % 2)) ∧ w' = w := by
  go_enter Try.func104, Try.ntmps104
  go_wp2
  go_ret
  exact ⟨rfl, rfl⟩

set_option maxHeartbeats 1000000 in
theorem halfFront_any (n : Nat) (r c : Int) (b t : Bool) (w : World) (hn : n ≤ 6) :
    Calls Try.prog 97 #[.agg #[.int .i64 n, .int .i64 r, .int .i64 c, .bool b, .bool t], .int .i64 1, .func (.func 98) #[] #[]] w (OwnZ w n (frontZ n c)) := by
  obtain ⟨i0, hi, iz, is, ib⟩ := info_parts infoOp
  go_enter Try.func97, Try.ntmps97
  go_wp2_with fail
  go_loopw [7, 13] (fun v i wr => ∃ k : Nat, k ≤ n ∧ i = .int .i64 k ∧ wr.ownsRow (w.heap.size + 1) 76 8 v k (ints (rowZ (fun _ => 1) (fun i => i) 1 c k)) ∧ Below (w.heap.size + 1) (w.alloc (.cells #[.int .i64 n, .int .i64 r, .int .i64 c, .bool b, .bool t] 27)) wr) (fun _ i _ => n - (intOf i).toNat)
  case atStart =>
    refine ⟨0, Nat.zero_le _, rfl, by simpa [rowZ, ints] using World.ownsRow_made (w.alloc (.cells #[.int .i64 n, .int .i64 r, .int .i64 c, .bool b, .bool t] 27)) #[] (base := w.heap.size + 1) (e := 76) (size := 8) 0 (by simp) (by unfold maxLen; omega) rfl, (Below.refl _ _).alloc (by simp) _⟩
  case round =>
    obtain ⟨k, hk, rfl, hown, hb⟩ := hrel
    have hbx : ∀ o, wr.cell? ⟨w.heap.size, o, none⟩ = (#[.int .i64 n, .int .i64 r, .int .i64 c, .bool b, .bool t] : Array Value)[o]? := fun o => ((bcell hb).1 _ o (by omega)).trans (cell_alloc_at rfl o)
    have hs0 := hb.size
    simp only [World.size_alloc] at hs0
    have hgr : w.heap.size < wr.heap.size := by omega
    have HB := Lib.hid hb
    have HOWN := Lib.hid hown
    clear hb hown
    by_cases hlt : k < n
    · go_wp2
      go_region_law (first
        | (go_simp; go_at_call 98; refine (frontBed_any _ _).mono ?_; rintro e w1 ⟨rfl, rfl⟩)
        | (refine step_app wr.drew rfl (.tmp 24) (.tmp 34) _ rfl (w.heap.size + 1) 76 i0 _ 8 64 Try.underlying24 hi iz is ib rfl (by omega) u7 k _ rfl HOWN.out _ 1 1 _ rfl rfl (by simp [Value.oneCell']) (by unfold maxLen; omega) (by omega) hs0 ?_; intro v' w' hown' hb'))
      all_goals
        go_wp2
        go_roundw
        case rel => exact ⟨k + 1, by omega, by go_num, by rw [rowV_next]; exact hown', HB.out.drew.trans hb'⟩
        case measure => simp [intOf] <;> omega
    · obtain rfl : k = n := by omega
      go_wp2
      go_ret
      exact ⟨_, rfl, own_base HOWN.out (by omega), ((Below.refl _ _).alloc (Nat.le_refl _) _).trans (HB.out.mono (by omega))⟩

set_option maxHeartbeats 1000000 in
theorem halfBack_any (n : Nat) (r c : Int) (b t : Bool) (w : World) (hn : n ≤ 6) :
    Calls Try.prog 97 #[.agg #[.int .i64 n, .int .i64 r, .int .i64 c, .bool b, .bool t], .int .i64 (-1), .func (.func 102) #[] #[]] w (OwnZ w n (backZ n c)) := by
  obtain ⟨i0, hi, iz, is, ib⟩ := info_parts infoOp
  go_enter Try.func97, Try.ntmps97
  go_wp2_with fail
  go_loopw [7, 13] (fun v i wr => ∃ k : Nat, k ≤ n ∧ i = .int .i64 k ∧ wr.ownsRow (w.heap.size + 1) 76 8 v k (ints (rowZ (fun _ => 2) (fun i => n - 1 - (i : Int)) (-1) c k)) ∧ Below (w.heap.size + 1) (w.alloc (.cells #[.int .i64 n, .int .i64 r, .int .i64 c, .bool b, .bool t] 27)) wr) (fun _ i _ => n - (intOf i).toNat)
  case atStart =>
    refine ⟨0, Nat.zero_le _, rfl, by simpa [rowZ, ints] using World.ownsRow_made (w.alloc (.cells #[.int .i64 n, .int .i64 r, .int .i64 c, .bool b, .bool t] 27)) #[] (base := w.heap.size + 1) (e := 76) (size := 8) 0 (by simp) (by unfold maxLen; omega) rfl, (Below.refl _ _).alloc (by simp) _⟩
  case round =>
    obtain ⟨k, hk, rfl, hown, hb⟩ := hrel
    have hbx : ∀ o, wr.cell? ⟨w.heap.size, o, none⟩ = (#[.int .i64 n, .int .i64 r, .int .i64 c, .bool b, .bool t] : Array Value)[o]? := fun o => ((bcell hb).1 _ o (by omega)).trans (cell_alloc_at rfl o)
    have hs0 := hb.size
    simp only [World.size_alloc] at hs0
    have hgr : w.heap.size < wr.heap.size := by omega
    have HB := Lib.hid hb
    have HOWN := Lib.hid hown
    clear hb hown
    by_cases hlt : k < n
    · go_wp2
      go_region_law (first
        | (go_simp; go_at_call 102; refine (backBed_any _ _).mono ?_; rintro e w1 ⟨rfl, rfl⟩)
        | (refine step_app wr.drew rfl (.tmp 24) (.tmp 34) _ rfl (w.heap.size + 1) 76 i0 _ 8 64 Try.underlying24 hi iz is ib rfl (by omega) u7 k _ rfl HOWN.out _ 1 1 _ rfl rfl (by simp [Value.oneCell']) (by unfold maxLen; omega) (by omega) hs0 ?_; intro v' w' hown' hb'))
      all_goals
        go_wp2
        go_roundw
        case rel => exact ⟨k + 1, by omega, by go_num, by rw [rowV_next]; exact hown', HB.out.drew.trans hb'⟩
        case measure => simp [intOf] <;> omega
    · obtain rfl : k = n := by omega
      go_wp2
      go_ret
      exact ⟨_, rfl, own_base HOWN.out (by omega), ((Below.refl _ _).alloc (Nat.le_refl _) _).trans (HB.out.mono (by omega))⟩

set_option maxHeartbeats 1000000 in
theorem halfEven_any (n : Nat) (r c : Int) (b t : Bool) (w : World) (hn : n ≤ 6) :
    Calls Try.prog 97 #[.agg #[.int .i64 n, .int .i64 r, .int .i64 c, .bool b, .bool t], .int .i64 1, .func (.func 103) #[] #[]] w (OwnZ w n (evenZ n c)) := by
  obtain ⟨i0, hi, iz, is, ib⟩ := info_parts infoOp
  go_enter Try.func97, Try.ntmps97
  go_wp2_with fail
  go_loopw [7, 13] (fun v i wr => ∃ k : Nat, k ≤ n ∧ i = .int .i64 k ∧ wr.ownsRow (w.heap.size + 1) 76 8 v k (ints (rowZ (fun i => 1 + (i : Int) % 2) (fun i => i) 1 c k)) ∧ Below (w.heap.size + 1) (w.alloc (.cells #[.int .i64 n, .int .i64 r, .int .i64 c, .bool b, .bool t] 27)) wr) (fun _ i _ => n - (intOf i).toNat)
  case atStart =>
    refine ⟨0, Nat.zero_le _, rfl, by simpa [rowZ, ints] using World.ownsRow_made (w.alloc (.cells #[.int .i64 n, .int .i64 r, .int .i64 c, .bool b, .bool t] 27)) #[] (base := w.heap.size + 1) (e := 76) (size := 8) 0 (by simp) (by unfold maxLen; omega) rfl, (Below.refl _ _).alloc (by simp) _⟩
  case round =>
    obtain ⟨k, hk, rfl, hown, hb⟩ := hrel
    have hbx : ∀ o, wr.cell? ⟨w.heap.size, o, none⟩ = (#[.int .i64 n, .int .i64 r, .int .i64 c, .bool b, .bool t] : Array Value)[o]? := fun o => ((bcell hb).1 _ o (by omega)).trans (cell_alloc_at rfl o)
    have hs0 := hb.size
    simp only [World.size_alloc] at hs0
    have hgr : w.heap.size < wr.heap.size := by omega
    have HB := Lib.hid hb
    have HOWN := Lib.hid hown
    clear hb hown
    by_cases hlt : k < n
    · go_wp2
      go_region_law (first
        | (go_simp; go_at_call 103; refine (evenBed_any _ _ (by omega) (by omega)).mono ?_; rintro e w1 ⟨rfl, rfl⟩)
        | (refine step_app wr.drew rfl (.tmp 24) (.tmp 34) _ rfl (w.heap.size + 1) 76 i0 _ 8 64 Try.underlying24 hi iz is ib rfl (by omega) u7 k _ rfl HOWN.out _ 1 1 _ rfl rfl (by simp [Value.oneCell']) (by unfold maxLen; omega) (by omega) hs0 ?_; intro v' w' hown' hb'))
      all_goals
        go_wp2
        go_roundw
        case rel => exact ⟨k + 1, by omega, by go_num, by rw [rowV_next]; exact hown', HB.out.drew.trans hb'⟩
        case measure => simp [intOf] <;> omega
    · obtain rfl : k = n := by omega
      go_wp2
      go_ret
      exact ⟨_, rfl, own_base HOWN.out (by omega), ((Below.refl _ _).alloc (Nat.le_refl _) _).trans (HB.out.mono (by omega))⟩

set_option maxHeartbeats 1000000 in
theorem halfOdd_any (n : Nat) (r c : Int) (b t : Bool) (w : World) (hn : n ≤ 6) :
    Calls Try.prog 97 #[.agg #[.int .i64 n, .int .i64 r, .int .i64 c, .bool b, .bool t], .int .i64 (-1), .func (.func 104) #[] #[]] w (OwnZ w n (oddZ n c)) := by
  obtain ⟨i0, hi, iz, is, ib⟩ := info_parts infoOp
  go_enter Try.func97, Try.ntmps97
  go_wp2_with fail
  go_loopw [7, 13] (fun v i wr => ∃ k : Nat, k ≤ n ∧ i = .int .i64 k ∧ wr.ownsRow (w.heap.size + 1) 76 8 v k (ints (rowZ (fun i => 2 - (n - 1 - (i : Int)) % 2) (fun i => n - 1 - (i : Int)) (-1) c k)) ∧ Below (w.heap.size + 1) (w.alloc (.cells #[.int .i64 n, .int .i64 r, .int .i64 c, .bool b, .bool t] 27)) wr) (fun _ i _ => n - (intOf i).toNat)
  case atStart =>
    refine ⟨0, Nat.zero_le _, rfl, by simpa [rowZ, ints] using World.ownsRow_made (w.alloc (.cells #[.int .i64 n, .int .i64 r, .int .i64 c, .bool b, .bool t] 27)) #[] (base := w.heap.size + 1) (e := 76) (size := 8) 0 (by simp) (by unfold maxLen; omega) rfl, (Below.refl _ _).alloc (by simp) _⟩
  case round =>
    obtain ⟨k, hk, rfl, hown, hb⟩ := hrel
    have hbx : ∀ o, wr.cell? ⟨w.heap.size, o, none⟩ = (#[.int .i64 n, .int .i64 r, .int .i64 c, .bool b, .bool t] : Array Value)[o]? := fun o => ((bcell hb).1 _ o (by omega)).trans (cell_alloc_at rfl o)
    have hs0 := hb.size
    simp only [World.size_alloc] at hs0
    have hgr : w.heap.size < wr.heap.size := by omega
    have HB := Lib.hid hb
    have HOWN := Lib.hid hown
    clear hb hown
    by_cases hlt : k < n
    · go_wp2
      go_region_law (first
        | (go_simp; go_at_call 104; refine (oddBed_any _ _ (by omega) (by omega)).mono ?_; rintro e w1 ⟨rfl, rfl⟩)
        | (refine step_app wr.drew rfl (.tmp 24) (.tmp 34) _ rfl (w.heap.size + 1) 76 i0 _ 8 64 Try.underlying24 hi iz is ib rfl (by omega) u7 k _ rfl HOWN.out _ 1 1 _ rfl rfl (by simp [Value.oneCell']) (by unfold maxLen; omega) (by omega) hs0 ?_; intro v' w' hown' hb'))
      all_goals
        go_wp2
        go_roundw
        case rel => exact ⟨k + 1, by omega, by go_num, by rw [rowV_next]; exact hown', HB.out.drew.trans hb'⟩
        case measure => simp [intOf] <;> omega
    · obtain rfl : k = n := by omega
      go_wp2
      go_ret
      exact ⟨_, rfl, own_base HOWN.out (by omega), ((Below.refl _ _).alloc (Nat.le_refl _) _).trans (HB.out.mono (by omega))⟩

end Go.Proofs.Ytjegoffdkmbibaa
