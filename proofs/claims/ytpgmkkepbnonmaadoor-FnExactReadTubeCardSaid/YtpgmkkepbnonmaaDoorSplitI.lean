/- Plain law and contract: strings.Split at one byte gives the pieces. No condition but the bound and bytealg's variable. -/
import Derived.Test.YtpgmkkepbnonmaaDoorSplitS
import Derived.Test.YtpgmkkepbnonmaaDoorDoorVars
import Derived.Test.YtpgmkkepbnonmaaDoorShStringsSplit
namespace Go.Proofs.YtpgmkkepbnonmaaDoor
open Go.RowKit
set_option maxRecDepth 20000

theorem noB_or (c : UInt8) : ∀ l : List UInt8, noB c l ∨ ∃ x y, l = x ++ c :: y ∧ noB c x := by
  intro l
  induction l with
  | nil => exact .inl fun x hx => by cases hx
  | cons a l ih =>
    by_cases ha : a = c
    · subst ha
      exact .inr ⟨[], l, rfl, fun x hx => by cases hx⟩
    · rcases ih with h | ⟨x, y, rfl, h⟩
      · exact .inl fun z hz => by
          rcases List.mem_cons.1 hz with rfl | hz
          · exact ha
          · exact h z hz
      · exact .inr ⟨a :: x, y, rfl, fun z hz => by
          rcases List.mem_cons.1 hz with rfl | hz
          · exact ha
          · exact h z hz⟩
theorem splitB_spl (c : UInt8) : ∀ (n : Nat) (s : ByteArray), s.size ≤ n → (Lib.splitB ⟨#[c]⟩ 0 (Lib.countB s ⟨#[c]⟩) s).map (·.data.toList) = spl c s.data.toList ∧ ∀ x ∈ Lib.splitB ⟨#[c]⟩ 0 (Lib.countB s ⟨#[c]⟩) s, x.size ≤ s.size := by
  intro n
  induction n with
  | zero =>
    intro s hs
    have h0 : s.data.toList = [] := List.eq_nil_of_length_eq_zero (by rw [show s.data.toList.length = s.size by simp]; omega)
    have hi : Lib.indexB s ⟨#[c]⟩ = -1 := by show Lib.index s.data.toList [c] = -1; rw [h0]; rfl
    rw [Lib.countB_miss s _ hi, Lib.splitB_zero]
    refine ⟨by rw [List.map_cons, List.map_nil, h0]; rfl, fun x hx => by obtain rfl := List.mem_singleton.1 hx; exact Nat.le_refl _⟩
  | succ n ih =>
    intro s hs
    rcases noB_or c s.data.toList with h | ⟨x, y, hxy, h⟩
    · have hi : Lib.indexB s ⟨#[c]⟩ = -1 := index_none c _ h
      rw [Lib.countB_miss s _ hi, Lib.splitB_zero, spl_none c _ h]
      exact ⟨rfl, fun x hx => by obtain rfl := List.mem_singleton.1 hx; exact Nat.le_refl _⟩
    · have hi : Lib.indexB s ⟨#[c]⟩ = (x.length : Nat) := by show Lib.index s.data.toList [c] = _; rw [hxy]; exact index_one c y x h
      have hz : s.data.toList.length = s.size := by simp
      have hl : x.length + y.length + 1 = s.size := by rw [← hz, hxy]; simp; omega
      have he : (s.extract (x.length + 1) s.size).data.toList = y := by rw [ex_bytes, hxy]; simp; exact List.take_of_length_le (by omega)
      have he0 : (s.extract 0 x.length).data.toList = x := by rw [ex_bytes, hxy]; simp
      have hs1 : (s.extract (x.length + 1) s.size).size = y.length := by rw [ByteArray.size_extract]; omega
      obtain ⟨k1, k2⟩ := ih (s.extract (x.length + 1) s.size) (by omega)
      rw [Lib.countB_hit s ⟨#[c]⟩ x.length (Nat.le_refl _) hi, Nat.add_comm 1, Lib.splitB_hit _ _ _ _ _ hi]
      show List.map _ (s.extract 0 (x.length + 0) :: Lib.splitB ⟨#[c]⟩ 0 (Lib.countB (s.extract (x.length + 1) s.size) ⟨#[c]⟩) (s.extract (x.length + 1) s.size)) = _ ∧ ∀ z ∈ (s.extract 0 (x.length + 0) :: Lib.splitB ⟨#[c]⟩ 0 (Lib.countB (s.extract (x.length + 1) s.size) ⟨#[c]⟩) (s.extract (x.length + 1) s.size)), z.size ≤ s.size
      rw [List.map_cons, k1, he, Nat.add_zero, he0, hxy, spl_cut c y x h]
      refine ⟨rfl, fun z hz => ?_⟩
      rcases List.mem_cons.1 hz with rfl | hz
      · rw [ByteArray.size_extract]; omega
      · have := k2 z hz
        omega
theorem Split_any (s : ByteArray) (c : UInt8) (w : World) (hs : s.size ≤ 1048576) (hd : Door w) : Calls Tryd.prog 22 #[.string s, .string ⟨#[c]⟩] w (SplitP s c w) := by
  obtain ⟨m, hm⟩ := hd.2.2.2
  refine (Tryd.strings_Split s ⟨#[c]⟩ m w (by omega) hm (Nat.le_refl _)).mono ?_
  rintro e w' ⟨rfl, rfl⟩
  obtain ⟨k1, k2⟩ := splitB_spl c s.size s (Nat.le_refl _)
  have hl := Lib.splitB_all ⟨#[c]⟩ (Nat.le_refl _) 0 _ s rfl
  have hc := Lib.countB_le ⟨#[c]⟩ (Nat.le_refl _) s.size s (Nat.le_refl _)
  refine ⟨_, _, Lib.splitB ⟨#[c]⟩ 0 (Lib.countB s ⟨#[c]⟩) s, by rw [hl], New.block w _ _ _ _ fun j hj => ?_, k1, k2, by omega, by omega, by unfold maxLen; omega⟩
  simp [List.getD, List.getElem?_eq_getElem hj]
end Go.Proofs.YtpgmkkepbnonmaaDoor
