/- Walks: both cast-on functions make a new slice of one knit for each column, and both HandCastOn return it or the code of a range error. No condition. -/
import Derived.Test.YtacppheedleamaaBounds
set_option linter.unusedVariables false
set_option linter.unusedSimpArgs false
namespace Go.Proofs.Ytacppheedleamaa
open Go.RowKit

/-- The numbers of the events of a cast-on, one after the other. -/
def castZ (carrier : Int) (j : Nat) : Int := if j % 6 = 0 then 2 else if j % 6 = 1 then (j / 6 : Nat) else if j % 6 = 2 then 0 else if j % 6 = 3 then 1 else if j % 6 = 4 then carrier else 1
def castCells (carrier : Int) (k : Nat) : List Value := (List.range (k * 6)).map fun j => .int .i64 (castZ carrier j)
theorem castCells_next (carrier : Int) (k : Nat) : castCells carrier (k + 1) = castCells carrier k ++ [.int .i64 2, .int .i64 k, .int .i64 0, .int .i64 1, .int .i64 carrier, .int .i64 1] := by
  unfold castCells
  rw [show (k + 1) * 6 = k * 6 + 6 by omega]
  simp only [List.range_add, List.map_append, List.map_map]
  congr 1
  have h : ∀ i, (k * 6 + i) % 6 = i % 6 := fun i => by omega
  simp [List.range_succ, castZ]
  omega

theorem infoEvent : (Try.prog.info? 77).map (fun i => (i.zero, i.size, i.bytes)) = some (some (.agg #[.int .i64 0, .int .i64 0, .int .i64 0, .int .i64 0, .int .i64 0, .int .i64 0]), 6, 48) := by kernel_rfl

set_option maxHeartbeats 400000 in
theorem castOn_any (n : Nat) (carrier : Int) (w : World) (hn : n ≤ 1048576) :
    Calls Try.prog 36 #[.int .i64 n, .int .i64 carrier] w (NewP w n (n * 6) (fun j => .int .i64 (castZ carrier j))) := by
  obtain ⟨i0, hi, iz, is, ib⟩ := info_parts infoEvent
  go_enter Try.func36, Try.ntmps36
  go_wp2_with fail
  go_loopw [5, 9] (fun v i wr => ∃ k : Nat, k ≤ n ∧ i = .int .i64 k ∧ wr.ownsRow w.heap.size 77 6 v k (castCells carrier k) ∧ Below w.heap.size w wr) (fun _ i _ => n - (intOf i).toNat)
  case atStart => exact ⟨0, Nat.zero_le _, rfl, World.ownsRow_made w #[] 0 (Nat.le_refl _) (by unfold maxLen; omega) rfl, (Below.refl _ _).alloc (Nat.le_refl _) _⟩
  case round =>
    obtain ⟨k, hk, rfl, hown, hb⟩ := hrel
    have HB := Lib.hid hb
    have HOWN := Lib.hid hown
    clear hb hown
    by_cases hlt : k < n
    · go_wp2_with (at_builtin; go_must (refine wpList_app wr rfl (.tmp 12) (.tmp 16) _ rfl w.heap.size 77 i0 _ 6 48 Try.underlying28 hi iz is ib rfl (by omega) u5 k _ rfl HOWN.out _ 1 1 _ rfl rfl (by simp [Value.oneCell']) (by unfold maxLen; omega) (by omega) HB.out.size ?_); intro v' w' hown' hb')
      go_wp2
      go_roundw
      case rel => exact ⟨k + 1, by omega, by go_num, by rw [castCells_next]; exact hown', HB.out.trans hb'⟩
      case measure => simp [intOf] <;> omega
    · obtain rfl : k = n := by omega
      obtain ⟨A', c, rfl, hnew⟩ := New.of_own HB.out HOWN.out
      have HN := Lib.hid (hnew.congr (f' := fun j => .int .i64 (castZ carrier j)) (fun j hj => getD_int hj))
      clear hnew
      go_wp2
      go_ret
      exact ⟨_, _, rfl, HN.out⟩

def castOk (n c : Int) : Bool := inB n 1 8 && inB c 1 4
/-- How many events a cast-on has, and its code. -/
def castN (n c : Int) : Nat := if castOk n c then n.toNat else 0
def castCode (n c : Int) : Int := if castOk n c then 0 else 2
theorem castN_no {n c : Int} (h : castOk n c = false) : castN n c = 0 ∧ castCode n c = 2 := by simp [castN, castCode, h]
theorem castN_yes {n c : Int} (h : castOk n c = true) : castN n c = n.toNat ∧ castCode n c = 0 := by simp [castN, castCode, h]
theorem castN_le (n c : Int) : castN n c ≤ 8 := by
  unfold castN
  split
  · rename_i h
    simp only [castOk, Bool.and_eq_true] at h
    have := inB_true h.1
    omega
  · omega

set_option maxHeartbeats 400000 in
theorem implHandCastOn_any (n c : Int) (w : World) :
    Calls Try.prog 11 #[.int .i64 n, .int .i64 c] w (NewP2 w (castN n c) (castN n c * 6) (fun j => .int .i64 (castZ c j)) (castCode n c)) := by
  cases h1 : inB n 1 8
  · have H := Lib.hid h1
    clear h1
    have hb : (inB n 1 8) = false := H.out
    go_enter Try.func11, Try.ntmps11
    go_wp2_with (go_at_call 34; refine (within_any _ _ _ _).mono ?_; rintro e w' ⟨rfl, rfl⟩)
    go_ret2
    have e : castOk n c = false := by simp [castOk, H.out]
    rw [(castN_no e).1, (castN_no e).2]
    exact ⟨none, 0, rfl, New.none_ (Below.refl _ _) _⟩
  · cases h2 : inB c 1 4
    · have H := Lib.hid (And.intro h1 h2)
      go_enter Try.func11, Try.ntmps11
      go_wp2_with (first | (go_at_call 34; refine (within_any _ _ _ _).mono ?_; rintro e w' ⟨rfl, rfl⟩) | (go_at_call 35; refine (isCarrier_any _ _).mono ?_; rintro e w' ⟨rfl, rfl⟩))
      go_ret2
      have e : castOk n c = false := by simp [castOk, h2]
      rw [(castN_no e).1, (castN_no e).2]
      exact ⟨none, 0, rfl, New.none_ (Below.refl _ _) _⟩
    · obtain ⟨k, rfl⟩ := Int.eq_ofNat_of_zero_le (show 0 ≤ n by have := (inB_true h1).1; omega)
      have hk : k ≤ 8 := by have := (inB_true h1).2; omega
      have H := Lib.hid (And.intro h1 h2)
      go_enter Try.func11, Try.ntmps11
      go_wp2_with (first | (go_at_call 34; refine (within_any _ _ _ _).mono ?_; rintro e w' ⟨rfl, rfl⟩) | (go_at_call 35; refine (isCarrier_any _ _).mono ?_; rintro e w' ⟨rfl, rfl⟩))
      refine (castOn_any k c _ (by omega)).mono ?_
      rintro e w1 ⟨A, cc, rfl, hnew⟩
      have HN := Lib.hid hnew
      clear hnew
      go_wp2
      go_ret2
      have e : castOk k c = true := by simp [castOk, H.out.1, H.out.2]
      rw [(castN_yes e).1, (castN_yes e).2]
      exact ⟨_, _, rfl, HN.out⟩
end Go.Proofs.Ytacppheedleamaa
