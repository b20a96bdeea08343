/- Walks: a fault out of its text, by the reference and by the program. No condition but the bound and strconv's variables. -/
import Derived.Test.YtpgmkkepbnonmaaDoorFaults
import Derived.Test.YtpgmkkepbnonmaaDoorNumberI
import Derived.Test.YtpgmkkepbnonmaaDoorSplitI
import Derived.Test.YtpgmkkepbnonmaaDoorShStringsCut
import Derived.Test.YtpgmkkepbnonmaaDoorShSlicesIndexString
import Derived.Deep.QuietTactic
import Derived.BigQuiet
namespace Go.Proofs.YtpgmkkepbnonmaaDoor
open Go.RowKit
set_option maxRecDepth 20000

/-- (k, a) is the fault with the text s; zero and false if there is none. -/
def FaultR (s : ByteArray) (k a : Int) (b : Bool) : Prop :=
  (b = true ∧ faultB k a = true ∧ faultS k a = s) ∨ (b = false ∧ k = 0 ∧ a = 0 ∧ ∀ k' a' : Int, faultB k' a' = true → faultS k' a' ≠ s)
theorem faultB_parts {k a : Int} (h : faultB k a = true) : ∃ K : Nat, k = K ∧ 1 ≤ K ∧ K ≤ 4 ∧ 0 ≤ a ∧ a ≤ 1499 := by
  simp only [faultB, Bool.and_eq_true] at h
  have h1 := inB_true h.1
  have h2 := inB_true h.2
  exact ⟨k.toNat, by omega, by omega, by omega, by omega, by omega⟩
theorem noB_word (K : Nat) : noB 32 (faultWord K).data.toList := by
  intro x hx
  unfold faultWord at hx
  repeat' split at hx
  all_goals
    simp at hx
    rcases hx with rfl | rfl | rfl | rfl | rfl | rfl | rfl <;> decide
theorem allD_noB {l : List UInt8} (h : allD l) : noB 32 l := fun x hx e => by
  have := (allD_mem h x hx).1
  rw [e] at this
  exact absurd this (by decide)
theorem noB_itoa (m : Int) : noB 32 (Lib.itoa m) := by
  rcases itoa_cases m with ⟨_, h⟩ | ⟨_, h⟩
  · rw [h]
    intro x hx
    rcases List.mem_cons.1 hx with rfl | hx
    · decide
    · exact allD_noB (decDigits_num _).1 x hx
  · rw [h]
    exact allD_noB (decDigits_num _).1
theorem fault_bytes {k a : Int} (h : faultB k a = true) : (faultS k a).data.toList = (faultWord k.toNat).data.toList ++ 32 :: (dec a).data.toList := by
  rw [faultS_yes h]
  simp
theorem fault_spl {k a : Int} (h : faultB k a = true) : spl 32 (faultS k a).data.toList = [(faultWord k.toNat).data.toList, (dec a).data.toList] := by
  rw [fault_bytes h, spl_cut _ _ _ (noB_word _), dec_bytes, spl_none _ _ (noB_itoa a)]
theorem fault_cut {k a : Int} (h : faultB k a = true) : Lib.cut (faultS k a).data.toList [32] = ((faultWord k.toNat).data.toList, (dec a).data.toList, true) := by
  rw [fault_bytes h, cut_one _ _ _ (noB_word _)]
theorem ba_eq {a b : ByteArray} (h : a.data.toList = b.data.toList) : a = b := ByteArray.ext (Array.toList_inj.1 h)
theorem ba_mk {a : ByteArray} {l : List UInt8} (h : l = a.data.toList) : (⟨l.toArray⟩ : ByteArray) = a := by
  subst h
  simp
/-- The kind with a word: the last of the first i. -/
def kdTo (p : ByteArray) : Nat → Nat
  | 0 => 0
  | i + 1 => if 1 ≤ i ∧ faultWord i = p then i else kdTo p i
theorem kdTo_word (K : Nat) (h1 : 1 ≤ K) (h2 : K ≤ 4) : kdTo (faultWord K) 5 = K := by
  have hK : K = 1 ∨ K = 2 ∨ K = 3 ∨ K = 4 := by omega
  rcases hK with rfl | rfl | rfl | rfl <;> decide
theorem kdTo_le (p : ByteArray) (i : Nat) : kdTo p i ≤ i := by
  induction i with
  | zero => exact Nat.le_refl _
  | succ i ih => unfold kdTo; split <;> omega
def words5 : List ByteArray := [⟨#[]⟩, faultWord 1, faultWord 2, faultWord 3, faultWord 4]
theorem idx_word (K : Nat) (h1 : 1 ≤ K) (h2 : K ≤ 4) : Lib.idxOfS (words5.take 5) (faultWord K) = K := by
  have hK : K = 1 ∨ K = 2 ∨ K = 3 ∨ K = 4 := by omega
  rcases hK with rfl | rfl | rfl | rfl <;> decide
theorem FaultR.same {s : ByteArray} {k a k' a' : Int} {b b' : Bool} (h : FaultR s k a b) (h' : FaultR s k' a' b') : k = k' ∧ a = a' ∧ b = b' := by
  rcases h with ⟨rfl, h1, h2⟩ | ⟨rfl, rfl, rfl, h1⟩
  · rcases h' with ⟨rfl, g1, g2⟩ | ⟨rfl, rfl, rfl, g1⟩
    · have e := fault_cut h1
      rw [h2, ← g2, fault_cut g1] at e
      obtain ⟨K, rfl, k1, k2, a1, a2⟩ := faultB_parts h1
      obtain ⟨K', rfl, k1', k2', a1', a2'⟩ := faultB_parts g1
      injection e with e1 e2
      injection e2 with e2 _
      have w1 : faultWord K' = faultWord K := ba_eq e1
      have d1 := dec_inj (ba_eq e2) ⟨by omega, by omega⟩ ⟨by omega, by omega⟩
      have q := kdTo_word K k1 k2
      rw [← w1, kdTo_word K' k1' k2'] at q
      exact ⟨by rw [q], d1.symm, rfl⟩
    · exact absurd h2 (g1 _ _ h1)
  · rcases h' with ⟨rfl, g1, g2⟩ | ⟨rfl, rfl, rfl, g1⟩
    · exact absurd g2 (h1 _ _ g1)
    · exact ⟨rfl, rfl, rfl⟩
def FaultE (s : ByteArray) (w : World) (e : Ending) (w' : World) : Prop := ∃ k a b, FaultR s k a b ∧ e = .returned (.tuple #[.agg #[.int .i64 k, .int .i64 a], .bool b]) ∧ Below w.heap.size w w'
theorem faultE_no {s : ByteArray} {w w' : World} (h : ∀ k' a' : Int, faultB k' a' = true → faultS k' a' ≠ s) (hb : Below w.heap.size w w') : FaultE s w (.returned (.tuple #[.agg #[.int .i64 0, .int .i64 0], .bool false])) w' :=
  ⟨0, 0, false, .inr ⟨rfl, rfl, rfl, h⟩, rfl, hb⟩
/-- What two pieces say. -/
theorem pieces_no {s p0 p1 : ByteArray} (hp : [p0.data.toList, p1.data.toList] = spl 32 s.data.toList) {n : Int} {b : Bool} (hn : NumR p1 n b) (h : b = false ∨ faultS (kdTo p0 5 : Nat) n ≠ s) : ∀ k' a' : Int, faultB k' a' = true → faultS k' a' ≠ s := by
  intro k' a' hf e
  have hsp := fault_spl hf
  rw [e, ← hp] at hsp
  injection hsp with e0 e1
  injection e1 with e1 _
  obtain ⟨K, rfl, k1, k2, a1, a2⟩ := faultB_parts hf
  have q0 : p0 = faultWord K := ba_eq e0
  have q1 : dec a' = p1 := (ba_eq e1).symm
  have hn' : NumR p1 a' true := .inl ⟨rfl, q1, by omega, by omega⟩
  obtain ⟨rfl, rfl⟩ := hn.same hn'
  rcases h with h | h
  · cases h
  · rw [q0, kdTo_word K k1 k2] at h
    exact h e
theorem pieces_yes {s p0 p1 : ByteArray} (hp : [p0.data.toList, p1.data.toList] = spl 32 s.data.toList) {k n : Int} (h : faultS k n = s) : FaultR s k n true := by
  cases hf : faultB k n
  · rw [faultS_no hf] at h
    rw [← h] at hp
    have hl := congrArg List.length hp
    simp [spl] at hl
  · exact .inl ⟨rfl, hf, h⟩
end Go.Proofs.YtpgmkkepbnonmaaDoor
