/- Walk: a number out of its decimal form of at most nine digits, by the reference. No condition but the bounds. -/
import Derived.Test.YtpgmkkepbnonmaaDoorNumText
import Derived.IntWalk
namespace Go.Proofs.YtpgmkkepbnonmaaDoor
open Go.RowKit
set_option maxRecDepth 20000

def digB (c : Int) : Bool := decide (48 ≤ c) && decide (c ≤ 57)
theorem l01Digit_any (c : Int) (w : World) :
    Calls Tryd.prog 26 #[.int .u8 c] w fun e w' => e = .returned (.bool (digB c)) ∧ w = w' := by
  by_cases h : 48 ≤ c
  · go_enter Tryd.func26, Tryd.ntmps26
    go_wp2
    go_ret
    exact ⟨by simp [digB, h], rfl⟩
  · go_enter Tryd.func26, Tryd.ntmps26
    go_wp2
    go_ret
    exact ⟨by rw [show digB c = false by simp [digB]; omega]; rfl, rfl⟩
/-- The first k bytes of t are digits and spell v. -/
def NumTo (t : ByteArray) (k v : Nat) : Prop := allD (t.data.toList.take k) ∧ numV 0 (t.data.toList.take k) = v
theorem NumTo.zero (t : ByteArray) : NumTo t 0 0 := ⟨trivial, rfl⟩
theorem take_byte (t : ByteArray) (k : Nat) (h : k < t.size) : t.data.toList.take (k + 1) = t.data.toList.take k ++ [t[k]] := by
  rw [List.take_succ_eq_append_getElem (by simpa using h)]; rfl
theorem NumTo.next {t : ByteArray} {k v : Nat} (h : NumTo t k v) (hk : k < t.size) (h0 : 48 ≤ t[k].toNat) (h1 : t[k].toNat ≤ 57) : NumTo t (k + 1) (v * 10 + (t[k].toNat - 48)) := by
  unfold NumTo
  rw [take_byte t k hk, allD_snoc, numV_snoc, h.2]
  exact ⟨⟨h.1, h0, h1⟩, rfl⟩
theorem NumTo.lt {t : ByteArray} {k v : Nat} (h : NumTo t k v) (hk : k ≤ t.size) (h9 : t.size ≤ 9) : v < 10 ^ k ∧ v ≤ 999999999 := by
  have h1 := numV_lt _ h.1 0
  rw [h.2] at h1
  have hs : t.data.toList.length = t.size := by simp
  have hl : (t.data.toList.take k).length = k := by rw [List.length_take]; omega
  rw [hl] at h1
  have h2 : 10 ^ k ≤ 10 ^ 9 := Nat.pow_le_pow_right (by decide) (by omega)
  refine ⟨by omega, by omega⟩
theorem allD_mem {l : List UInt8} (h : allD l) : ∀ c, c ∈ l → 48 ≤ c.toNat ∧ c.toNat ≤ 57 := by
  induction l with
  | nil => intro c hc; cases hc
  | cons x l ih =>
    intro c hc
    rcases List.mem_cons.1 hc with rfl | hc
    · exact h.1
    · exact ih h.2 c hc
theorem notD {t : ByteArray} {k : Nat} (hk : k < t.size) (h : ¬ (48 ≤ t[k].toNat ∧ t[k].toNat ≤ 57)) : ¬ allD t.data.toList := fun ha => h (allD_mem ha _ (by
  have : t[k] = t.data.toList[k]'(by simpa using hk) := rfl
  rw [this]
  exact List.getElem_mem _))
def NumE (s : ByteArray) (w : World) (e : Ending) (w' : World) : Prop := ∃ n b, NumR s n b ∧ e = .returned (.tuple #[.int .i64 n, .bool b]) ∧ Below w.heap.size w w'
theorem numE_no {s : ByteArray} {w w' : World} (h : ∀ m : Int, -999999999 ≤ m → m ≤ 999999999 → dec m ≠ s) (hb : Below w.heap.size w w') : NumE s w (.returned (.tuple #[.int .i64 0, .bool false])) w' :=
  ⟨0, false, .inr ⟨rfl, rfl, h⟩, rfl, hb⟩
theorem allD_take {t : ByteArray} {v : Nat} (h : NumTo t t.size v) : allD t.data.toList ∧ numV 0 t.data.toList = v := by
  have e : t.data.toList.take t.size = t.data.toList := List.take_of_length_le (by simp)
  unfold NumTo at h
  rwa [e] at h

set_option maxHeartbeats 1000000 in
theorem l01Number_pos (s : ByteArray) (w : World) (hs : s.size ≤ 1048576) (hpos : 0 < s.size) (h45 : (s[0].toNat : Int) ≠ 45)
    (hno : ∀ m : Int, -999999999 ≤ m → m ≤ 999999999 → dec m = s → allD s.data.toList ∧ s.size ≤ 9 ∧ m = numV 0 s.data.toList) :
    Calls Tryd.prog 13 #[.string s] w (NumE s w) := by
  have HNO := Lib.hid hno
  clear hno
  have hne : s.toList.isEmpty = false := by rw [ByteArray.toList_eq]; cases h : s.data.toList with
    | nil => have : s.data.toList.length = s.size := by simp
             rw [h] at this; simp at this; omega
    | cons a l => rfl
  have h45' : ((s[0].toNat : Int) == 45) = false := by simpa using h45
  by_cases h9 : 9 < s.size
  · go_enter Tryd.func13, Tryd.ntmps13
    go_wp2
    go_ret2
    exact numE_no (fun m h0 h1 e => (by obtain ⟨ha, hc, hd⟩ := HNO.out m h0 h1 e; omega)) (Below.refl _ _)
  go_enter Tryd.func13, Tryd.ntmps13
  go_wp2
  go_loop [5, 6] (fun n i => ∃ k v : Nat, k ≤ s.size ∧ i = .int .i64 k ∧ n = .int .i64 v ∧ Hid (NumTo s k v)) (fun _ i => s.size - (intOf i).toNat)
  case atStart => exact ⟨0, 0, Nat.zero_le _, rfl, rfl, NumTo.zero _⟩
  case round =>
    obtain ⟨k, v, hk, rfl, rfl, HV⟩ := hrel
    have hv := HV.out.lt hk (by omega)
    by_cases hlt : k < s.size
    · by_cases hd : 48 ≤ s[k].toNat ∧ s[k].toNat ≤ 57
      · have hD : digB (s[k].toNat : Int) = true := by simp [digB]; omega
        have HD := Lib.hid hD
        have HN := Lib.hid (HV.out.next hlt hd.1 hd.2)
        obtain ⟨hd1, hd2⟩ := hd
        clear hD
        go_wp2_with ((go_at_call 26; refine (l01Digit_any _ _).mono ?_; rintro e w' ⟨rfl, rfl⟩; rw [HD.out]))
        go_round
        case rel => exact ⟨k + 1, _, by omega, by go_num, by go_num, HN.out⟩
        case measure => simp [intOf] <;> omega
      · have hD : digB (s[k].toNat : Int) = false := by simp [digB]; omega
        have HD := Lib.hid hD
        have HX := Lib.hid (notD hlt hd)
        clear hD hd
        go_wp2_with ((go_at_call 26; refine (l01Digit_any _ _).mono ?_; rintro e w' ⟨rfl, rfl⟩; rw [HD.out]))
        go_ret2
        exact numE_no (fun m h0 h1 e => (by obtain ⟨ha, hc, hd⟩ := HNO.out m h0 h1 e; exact HX.out ha)) (Below.refl _ _)
    · obtain rfl : s.size = k := by omega
      have HL := Lib.hid (allD_take HV.out)
      have hvb : -999999999 ≤ (v : Int) ∧ (v : Int) ≤ 999999999 := by omega
      have HVB := Lib.hid hvb
      clear hvb
      go_wp2_with fail
      refine (l01Dec_any (v : Int) (by have := HVB.out; omega) (by have := HVB.out; omega) _).mono ?_
      rintro e w1 ⟨rfl, hb1⟩
      have HB1 := Lib.hid hb1
      clear hb1
      by_cases he : dec (v : Int) = s
      · have HE := Lib.hid he
        have he' : ((dec (v : Int)).toList == s.toList) = true := by simp [he]
        clear he
        go_wp2
        go_ret2
        exact ⟨_, _, .inl ⟨rfl, HE.out, HVB.out⟩, rfl, HB1.out⟩
      · have HE := Lib.hid he
        have he' := bytes_ne he
        clear he
        go_wp2
        go_ret2
        exact numE_no (fun m h0 h1 e => (by obtain ⟨ha, hc, hd⟩ := HNO.out m h0 h1 e; rw [HL.out.2] at hd; subst hd; exact HE.out e)) HB1.out

set_option maxHeartbeats 1000000 in
theorem l01Number_neg (s t : ByteArray) (w : World) (hs : s.size ≤ 1048576) (hpos : 0 < s.size) (h45 : s[0] = 45) (ht : s.extract 1 s.size = t) (htz : t.size < s.size) (htz' : s.size ≤ t.size + 1)
    (hno : ∀ m : Int, -999999999 ≤ m → m ≤ 999999999 → dec m = s → allD t.data.toList ∧ 1 ≤ t.size ∧ t.size ≤ 9 ∧ m = -(numV 0 t.data.toList : Int)) :
    Calls Tryd.prog 13 #[.string s] w (NumE s w) := by
  have HNO := Lib.hid hno
  clear hno
  have hne : s.toList.isEmpty = false := by rw [ByteArray.toList_eq]; cases h : s.data.toList with
    | nil => have : s.data.toList.length = s.size := by simp
             rw [h] at this; simp at this; omega
    | cons a l => rfl
  have HTE := Lib.hid ht
  by_cases h1 : t.size < 1
  · go_enter Tryd.func13, Tryd.ntmps13
    go_wp2
    go_ret2
    exact numE_no (fun m h0 h1 e => (by obtain ⟨ha, hb, hc, hd⟩ := HNO.out m h0 h1 e; omega)) (Below.refl _ _)
  by_cases h9 : 9 < t.size
  · go_enter Tryd.func13, Tryd.ntmps13
    go_wp2
    go_ret2
    exact numE_no (fun m h0 h1 e => (by obtain ⟨ha, hb, hc, hd⟩ := HNO.out m h0 h1 e; omega)) (Below.refl _ _)
  go_enter Tryd.func13, Tryd.ntmps13
  go_wp2
  go_loop [5, 6] (fun n i => ∃ k v : Nat, k ≤ t.size ∧ i = .int .i64 k ∧ n = .int .i64 v ∧ Hid (NumTo t k v)) (fun _ i => t.size - (intOf i).toNat)
  case atStart => exact ⟨0, 0, Nat.zero_le _, rfl, rfl, NumTo.zero _⟩
  case round =>
    obtain ⟨k, v, hk, rfl, rfl, HV⟩ := hrel
    have hv := HV.out.lt hk (by omega)
    by_cases hlt : k < t.size
    · by_cases hd : 48 ≤ t[k].toNat ∧ t[k].toNat ≤ 57
      · have hD : digB (t[k].toNat : Int) = true := by simp [digB]; omega
        have HD := Lib.hid hD
        have HN := Lib.hid (HV.out.next hlt hd.1 hd.2)
        obtain ⟨hd1, hd2⟩ := hd
        clear hD
        go_wp2_with ((go_at_call 26; refine (l01Digit_any _ _).mono ?_; rintro e w' ⟨rfl, rfl⟩; rw [HD.out]))
        go_round
        case rel => exact ⟨k + 1, _, by omega, by go_num, by go_num, HN.out⟩
        case measure => simp [intOf] <;> omega
      · have hD : digB (t[k].toNat : Int) = false := by simp [digB]; omega
        have HD := Lib.hid hD
        have HX := Lib.hid (notD hlt hd)
        clear hD hd
        go_wp2_with ((go_at_call 26; refine (l01Digit_any _ _).mono ?_; rintro e w' ⟨rfl, rfl⟩; rw [HD.out]))
        go_ret2
        exact numE_no (fun m h0 h1 e => (by obtain ⟨ha, hb, hc, hd⟩ := HNO.out m h0 h1 e; exact HX.out ha)) (Below.refl _ _)
    · obtain rfl : t.size = k := by omega
      have HL := Lib.hid (allD_take HV.out)
      have hvb : -999999999 ≤ -(v : Int) ∧ -(v : Int) ≤ 999999999 := by omega
      have HVB := Lib.hid hvb
      clear hvb
      go_wp2_with fail
      refine (l01Dec_any (-(v : Int)) (by have := HVB.out; omega) (by have := HVB.out; omega) _).mono ?_
      rintro e w1 ⟨rfl, hb1⟩
      have HB1 := Lib.hid hb1
      clear hb1
      by_cases he : dec (-(v : Int)) = s
      · have HE := Lib.hid he
        have he' : ((dec (-(v : Int))).toList == s.toList) = true := by simp [he]
        clear he
        go_wp2
        go_ret2
        exact ⟨_, _, .inl ⟨rfl, HE.out, HVB.out⟩, rfl, HB1.out⟩
      · have HE := Lib.hid he
        have he' := bytes_ne he
        clear he
        go_wp2
        go_ret2
        exact numE_no (fun m h0 h1 e => (by obtain ⟨ha, hb, hc, hd⟩ := HNO.out m h0 h1 e; rw [HL.out.2] at hd; subst hd; exact HE.out e)) HB1.out
theorem l01Number_any (s : ByteArray) (w : World) (hs : s.size ≤ 1048576) : Calls Tryd.prog 13 #[.string s] w (NumE s w) := by
  have hz : s.data.toList.length = s.size := by simp
  cases hL : s.data.toList with
  | nil =>
    rw [hL] at hz
    have h0 : s.size = 0 := by simpa using hz.symm
    have he : s.toList.isEmpty = true := by rw [ByteArray.toList_eq, hL]; rfl
    have HNO : Hid (∀ m : Int, -999999999 ≤ m → m ≤ 999999999 → dec m ≠ s) := fun m h1 h2 e => by
      have hp := parse_itoa m h1 h2
      rw [← dec_bytes, e, hL] at hp
      cases hp
    have h1 : s.size < 1 := by omega
    clear hL hz h0
    go_enter Tryd.func13, Tryd.ntmps13
    go_wp2
    go_ret2
    exact numE_no HNO.out (Below.refl _ _)
  | cons c r =>
    have hpos : 0 < s.size := by rw [hL] at hz; simp at hz; omega
    have h0 : s[0] = c := by
      have : s[0] = s.data.toList[0]'(by omega) := rfl
      rw [this]
      simp [hL]
    by_cases hc : c = 45
    · subst hc
      have ht : (s.extract 1 s.size).data.toList = r := by
        rw [ByteArray.data_extract]
        simp [hL]
        exact List.take_of_length_le (by rw [hL] at hz; simp at hz; omega)
      have hts : (s.extract 1 s.size).size = r.length := by rw [← ht]; simp
      have hrl : r.length + 1 = s.size := by rw [← hz, hL]; rfl
      obtain ⟨t, hte⟩ : ∃ t, s.extract 1 s.size = t := ⟨_, rfl⟩
      rw [hte] at ht hts
      refine l01Number_neg s t w hs hpos h0 hte (by omega) (by omega) fun m h1 h2 e => ?_
      obtain ⟨k1, k2, k3, k4⟩ := numR_neg hL m h1 h2 e
      rw [ht]
      exact ⟨k1, by omega, by omega, k4⟩
    · have hc' : c.toNat ≠ 45 := fun e => hc (UInt8.toNat_inj.1 (by rw [e]; rfl))
      refine l01Number_pos s w hs hpos (by rw [h0]; omega) fun m h1 h2 e => ?_
      obtain ⟨k1, k2, k3⟩ := numR_pos hL hc' m h1 h2 e
      rw [← hL] at k1 k2 k3
      exact ⟨k1, by omega, k3⟩
end Go.Proofs.YtpgmkkepbnonmaaDoor
