/- Plain law: a text is the decimal form of a number of at most nine digits, and what reads it. -/
import Derived.Test.YtpgmkkepbnonmaaDoorDec
import Derived.Lib.ParseIntB
namespace Go.Proofs.YtpgmkkepbnonmaaDoor
open Go.RowKit

/-- All bytes are digits. -/
def allD : List UInt8 → Prop
  | [] => True
  | c :: r => (48 ≤ c.toNat ∧ c.toNat ≤ 57) ∧ allD r
/-- What digits spell, behind what was spelled before. -/
def numV : Nat → List UInt8 → Nat
  | a, [] => a
  | a, c :: r => numV (a * 10 + (c.toNat - 48)) r
theorem numV_snoc (l : List UInt8) (c : UInt8) : ∀ a, numV a (l ++ [c]) = numV a l * 10 + (c.toNat - 48) := by
  induction l with
  | nil => intro a; rfl
  | cons x l ih => intro a; exact ih _
theorem allD_snoc (l : List UInt8) (c : UInt8) : allD (l ++ [c]) ↔ allD l ∧ (48 ≤ c.toNat ∧ c.toNat ≤ 57) := by
  induction l with
  | nil => simp [allD]
  | cons x l ih => simp only [List.cons_append, allD, ih, and_assoc]
theorem numV_ge (l : List UInt8) : ∀ a, a ≤ numV a l := by
  induction l with
  | nil => intro a; exact Nat.le_refl _
  | cons x l ih =>
    intro a
    have h1 : a ≤ a * 10 := Nat.le_mul_of_pos_right a (by decide)
    exact Nat.le_trans (Nat.le_trans h1 (Nat.le_add_right _ _)) (ih (a * 10 + (x.toNat - 48)))
theorem dig_lt (a k : Nat) (h : k ≤ 57) : a * 10 + (k - 48) + 1 ≤ (a + 1) * 10 := by omega
theorem pow_step (b k : Nat) : b * 10 ^ (k + 1) = b * 10 * 10 ^ k := by rw [Nat.pow_succ, Nat.mul_comm (10 ^ k) 10, ← Nat.mul_assoc]
theorem numV_lt (l : List UInt8) : allD l → ∀ a, numV a l < (a + 1) * 10 ^ l.length := by
  induction l with
  | nil =>
    intro _ a
    show a < (a + 1) * 10 ^ 0
    omega
  | cons x l ih =>
    intro h a
    have h1 := ih h.2 (a * 10 + (x.toNat - 48))
    have h2 := dig_lt a x.toNat h.1.2
    have h3 := Nat.mul_le_mul_right (10 ^ l.length) h2
    have h4 := pow_step (a + 1) l.length
    show numV (a * 10 + (x.toNat - 48)) l < (a + 1) * 10 ^ (l.length + 1)
    rw [h4]
    exact Nat.lt_of_lt_of_le h1 h3
theorem ofNat_digit {k : Nat} (h : k < 10) : (UInt8.ofNat (48 + k)).toNat = 48 + k := by
  rw [UInt8.toNat_ofNat']
  omega
theorem dig_ok {c : UInt8} {k : Nat} (hc : c.toNat = 48 + k) (hk : k < 10) : (48 ≤ c.toNat ∧ c.toNat ≤ 57) ∧ ∀ a, a * 10 + (c.toNat - 48) = a * 10 + k := by
  rw [hc]
  exact ⟨⟨Nat.le_add_right _ _, by omega⟩, fun a => by rw [Nat.add_sub_cancel_left]⟩
theorem decDigits_num : ∀ u : Nat, allD (Lib.decDigits u) ∧ numV 0 (Lib.decDigits u) = u := by
  intro u
  induction u using Nat.strongRecOn with
  | _ u ih =>
    rw [Lib.decDigits]
    by_cases h : u < 10
    · rw [dif_pos h]
      have hd := dig_ok (ofNat_digit h) h
      exact ⟨⟨hd.1, trivial⟩, (hd.2 0).trans (by rw [Nat.zero_mul, Nat.zero_add])⟩
    · rw [dif_neg h]
      have hi := ih (u / 10) (by omega)
      have hm : u % 10 < 10 := Nat.mod_lt _ (by decide)
      have hd := dig_ok (ofNat_digit hm) hm
      rw [allD_snoc, numV_snoc, hi.2, hd.2 (u / 10)]
      exact ⟨⟨hi.1, hd.1⟩, by rw [Nat.mul_comm]; exact Nat.div_add_mod u 10⟩
theorem decDigits_len {u : Nat} (h : u ≤ 999999999) : 1 ≤ (Lib.decDigits u).length ∧ (Lib.decDigits u).length ≤ 9 := by
  rcases Nat.eq_zero_or_pos u with h0 | h0
  · subst h0
    rw [Lib.decDigits_one (by omega)]
    simp
  · have h1 := digs_dec u h0
    have h2 := digs_length u 9 (by omega)
    rw [← h1]
    rw [digs_pos h0] at h2 ⊢
    simp at h2 ⊢
    omega
/-- Small digits are read by strconv. -/
theorem parseU_small (l : List UInt8) : allD l → ∀ a, numV a l ≤ 999999999 → Lib.parseUintM (2 ^ 64 - 1) a l = .ok (numV a l) := by
  induction l with
  | nil => intro _ a _; rfl
  | cons x l ih =>
    intro h a hv
    have hg := numV_ge l (a * 10 + (x.toNat - 48))
    have hv' : numV (a * 10 + (x.toNat - 48)) l ≤ 999999999 := hv
    rw [Lib.parseUintM, if_pos h.1, if_neg (by omega), if_neg (by omega)]
    exact ih h.2 _ hv'
theorem parse_itoa (m : Int) (h0 : -999999999 ≤ m) (h1 : m ≤ 999999999) : Lib.parseIntB 64 (Lib.itoa m) = .ok m := by
  unfold Lib.itoa
  by_cases hm : m < 0
  · rw [if_pos hm]
    obtain ⟨hd, hv⟩ := decDigits_num m.natAbs
    have hl := decDigits_len (u := m.natAbs) (by omega)
    have hne : Lib.decDigits m.natAbs ≠ [] := fun e => by rw [e] at hl; simp at hl
    have hp := parseU_small _ hd 0 (by omega)
    rw [hv] at hp
    have h45 : (45 : UInt8).toNat = 45 := rfl
    have hpu : Lib.parseUintB 64 (Lib.decDigits m.natAbs) = .ok m.natAbs := by unfold Lib.parseUintB; rw [if_neg hne, hp]
    unfold Lib.parseIntB
    simp only [h45, or_true, if_true, hpu]
    rw [if_neg (by simp), if_neg (by simp; omega)]
    congr 1
    omega
  · rw [if_neg hm]
    obtain ⟨hd, hv⟩ := decDigits_num m.toNat
    have hl := decDigits_len (u := m.toNat) (by omega)
    have hp := parseU_small _ hd 0 (by omega)
    rw [hv] at hp
    cases hL : Lib.decDigits m.toNat with
    | nil => rw [hL] at hl; simp at hl
    | cons c r =>
      rw [hL] at hd hp
      have hc := hd.1
      have n1 : ¬ (c.toNat = 43 ∨ c.toNat = 45) := by omega
      have n2 : ¬ c.toNat = 45 := by omega
      have hpu : Lib.parseUintB 64 (c :: r) = .ok m.toNat := by unfold Lib.parseUintB; rw [if_neg (by simp), hp]
      unfold Lib.parseIntB
      simp only [if_neg n1, hpu]
      rw [if_neg (by simp; omega), if_neg (by simp [n2]), if_neg n2]
      congr 1
      omega
theorem dec_bytes (n : Int) : (dec n).data.toList = Lib.itoa n := by simp [dec]
/-- n is the number whose decimal form is s, of at most nine digits; false if there is none. -/
def NumR (s : ByteArray) (n : Int) (b : Bool) : Prop :=
  (b = true ∧ dec n = s ∧ -999999999 ≤ n ∧ n ≤ 999999999) ∨ (b = false ∧ n = 0 ∧ ∀ m : Int, -999999999 ≤ m → m ≤ 999999999 → dec m ≠ s)
theorem dec_inj {n m : Int} (h : dec n = dec m) (hn : -999999999 ≤ n ∧ n ≤ 999999999) (hm : -999999999 ≤ m ∧ m ≤ 999999999) : n = m := by
  have h1 := parse_itoa n hn.1 hn.2
  have h2 := parse_itoa m hm.1 hm.2
  rw [← dec_bytes, h, dec_bytes, h2] at h1
  injection h1 with h1
  exact h1.symm
theorem NumR.same {s : ByteArray} {n m : Int} {a b : Bool} (h : NumR s n a) (h' : NumR s m b) : n = m ∧ a = b := by
  rcases h with ⟨rfl, h1, h2, h3⟩ | ⟨rfl, rfl, h1⟩
  · rcases h' with ⟨rfl, k1, k2, k3⟩ | ⟨rfl, rfl, k1⟩
    · exact ⟨dec_inj (h1.trans k1.symm) ⟨h2, h3⟩ ⟨k2, k3⟩, rfl⟩
    · exact absurd h1 (k1 n h2 h3)
  · rcases h' with ⟨rfl, k1, k2, k3⟩ | ⟨rfl, rfl, k1⟩
    · exact absurd k1 (h1 m k2 k3)
    · exact ⟨rfl, rfl⟩
theorem NumR.bounds {s : ByteArray} {n : Int} {b : Bool} (h : NumR s n b) : -999999999 ≤ n ∧ n ≤ 999999999 := by
  rcases h with ⟨_, _, h2, h3⟩ | ⟨_, rfl, _⟩
  · exact ⟨h2, h3⟩
  · omega
/-- What strconv says of s decides. -/
theorem numR_parse_no {s : ByteArray} (h : ∀ v, Lib.parseIntB 64 s.data.toList ≠ .ok v) : NumR s 0 false :=
  .inr ⟨rfl, rfl, fun m h0 h1 e => h m (by rw [← e, dec_bytes]; exact parse_itoa m h0 h1)⟩
theorem numR_parse_far {s : ByteArray} {v : Int} (h : Lib.parseIntB 64 s.data.toList = .ok v) (hv : v < -999999999 ∨ 999999999 < v ∨ dec v ≠ s) : NumR s 0 false :=
  .inr ⟨rfl, rfl, fun m h0 h1 e => by
    have hp := parse_itoa m h0 h1
    rw [← dec_bytes, e, h] at hp
    injection hp with hp
    subst hp
    rcases hv with hv | hv | hv
    · omega
    · omega
    · exact hv e⟩
/-- The reference's reading: digits t of s, with its sign. -/
theorem itoa_cases (m : Int) : (m < 0 ∧ Lib.itoa m = 45 :: Lib.decDigits m.natAbs) ∨ (0 ≤ m ∧ Lib.itoa m = Lib.decDigits m.toNat) := by
  unfold Lib.itoa
  by_cases h : m < 0
  · exact .inl ⟨h, by rw [if_pos h]⟩
  · exact .inr ⟨by omega, by rw [if_neg h]⟩
theorem numR_pos {s : ByteArray} {c : UInt8} {r : List UInt8} (hs : s.data.toList = c :: r) (hc : c.toNat ≠ 45) (m : Int) (h0 : -999999999 ≤ m) (h1 : m ≤ 999999999) (e : dec m = s) :
    allD (c :: r) ∧ (c :: r).length ≤ 9 ∧ m = numV 0 (c :: r) := by
  rw [← e, dec_bytes] at hs
  rcases itoa_cases m with ⟨hm, hi⟩ | ⟨hm, hi⟩
  · rw [hi] at hs
    injection hs with hs1 hs2
    subst hs1
    exact absurd rfl hc
  · rw [hi] at hs
    obtain ⟨hd, hv⟩ := decDigits_num m.toNat
    have hl := decDigits_len (u := m.toNat) (by omega)
    rw [hs] at hd hv hl
    exact ⟨hd, hl.2, by omega⟩
theorem numR_neg {s : ByteArray} {r : List UInt8} (hs : s.data.toList = 45 :: r) (m : Int) (h0 : -999999999 ≤ m) (h1 : m ≤ 999999999) (e : dec m = s) :
    allD r ∧ 1 ≤ r.length ∧ r.length ≤ 9 ∧ m = -(numV 0 r : Int) := by
  rw [← e, dec_bytes] at hs
  rcases itoa_cases m with ⟨hm, hi⟩ | ⟨hm, hi⟩
  · rw [hi] at hs
    injection hs with hs1 hs2
    obtain ⟨hd, hv⟩ := decDigits_num m.natAbs
    have hl := decDigits_len (u := m.natAbs) (by omega)
    rw [hs2] at hd hv hl
    exact ⟨hd, hl.1, hl.2, by omega⟩
  · rw [hi] at hs
    obtain ⟨hd, _⟩ := decDigits_num m.toNat
    rw [hs] at hd
    have := hd.1
    have h45 : (45 : UInt8).toNat = 45 := rfl
    omega
end Go.Proofs.YtpgmkkepbnonmaaDoor
