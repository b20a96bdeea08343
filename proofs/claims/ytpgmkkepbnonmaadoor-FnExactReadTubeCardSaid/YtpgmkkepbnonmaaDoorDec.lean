/- Walks: the decimal form of a number, by the reference (digit by digit). No condition but the bounds. -/
import Derived.Test.YtpgmkkepbnonmaaDoorConv
import Derived.Test.YtpgmkkepbnonmaaDoorObj2
import Derived.Test.YtpgmkkepbnonmaaDoorAppend
import Derived.Lib.ItoaNum
import Derived.IntWalk
namespace Go.Proofs.YtpgmkkepbnonmaaDoor
open Go.RowKit
set_option maxRecDepth 20000

/-- The decimal form. -/
def dec (n : Int) : ByteArray := ⟨(Lib.itoa n).toArray⟩
/-- The digits of a number, none of 0. -/
def digs (u : Nat) : List Int := if _h : u = 0 then [] else digs (u / 10) ++ [((48 + u % 10 : Nat) : Int)]
termination_by u
decreasing_by omega
theorem digs_zero : digs 0 = [] := by rw [digs]; simp
theorem digs_pos {u : Nat} (h : 0 < u) : digs u = digs (u / 10) ++ [((48 + u % 10 : Nat) : Int)] := by rw [digs, dif_neg (by omega)]
theorem digs_dec : ∀ u : Nat, 0 < u → (digs u).map (fun z => UInt8.ofNat z.toNat) = Lib.decDigits u := by
  intro u
  induction u using Nat.strongRecOn with
  | _ u ih =>
    intro h
    rw [digs_pos h, Lib.decDigits]
    by_cases h10 : u < 10
    · rw [dif_pos h10, show u / 10 = 0 by omega, digs_zero]
      simp only [List.nil_append, List.map_cons, List.map_nil, Int.toNat_natCast, Nat.mod_eq_of_lt h10]
    · rw [dif_neg h10, List.map_append, ih (u / 10) (by omega) (by omega)]
      simp only [List.map_cons, List.map_nil, Int.toNat_natCast]
theorem digs_length : ∀ u k : Nat, u < 10 ^ k → (digs u).length ≤ k := by
  intro u k
  induction k generalizing u with
  | zero => intro h; obtain rfl : u = 0 := by simpa using h
            rw [digs_zero]; simp
  | succ k ih =>
    intro h
    rcases Nat.eq_zero_or_pos u with h0 | h0
    · subst h0; rw [digs_zero]; simp
    · rw [digs_pos h0]
      have := ih (u / 10) (by rw [Nat.pow_succ] at h; omega)
      simp; omega
theorem strOfNums_digs (u : Nat) (h : 0 < u) : strOfNums (digs u) = ⟨(Lib.decDigits u).toArray⟩ := by
  unfold strOfNums
  rw [← digs_dec u h]
theorem dec_zero : dec 0 = ⟨#[48]⟩ := by unfold dec Lib.itoa; rw [if_neg (by omega), Int.toNat_zero, Lib.decDigits_one (by omega)]; rfl
theorem dec_pos (u : Nat) (h : 0 < u) : dec (u : Int) = strOfNums (digs u) := by
  unfold dec Lib.itoa; rw [if_neg (by omega), Int.toNat_natCast, strOfNums_digs u h]
theorem dec_neg (u : Nat) (h : 0 < u) : dec (-(u : Int)) = ⟨#[45]⟩ ++ strOfNums (digs u) := by
  unfold dec Lib.itoa; rw [if_pos (by omega), Int.natAbs_neg, Int.natAbs_natCast, strOfNums_digs u h]
  apply ByteArray.ext
  simp
def bytesV (l : List Int) : List Value := l.map (Value.int .u8)
theorem bytesV_one (l : List Int) : ∀ u ∈ bytesV l, u.oneCell' = true := fun u hu => by
  obtain ⟨x, _, rfl⟩ := List.mem_map.1 hu
  rfl
theorem info8 : (Tryd.prog.info? 5).map (fun i => (i.zero, i.size, i.bytes)) = some (some (.int .u8 0), 1, 1) := by kernel_rfl
theorem conv_own {w : World} {B : Nat} {v : Value} {l : List Int} {n : Nat} (ho : w.ownsRow B 5 1 v n (bytesV l)) (_ : n ≤ maxLen) : (convert 62 9 v).run Tryd.prog w = .ok (.string (strOfNums l)) w := by
  obtain ⟨A, c, rfl⟩ := own_form ho
  have hl : l.length = n := by simpa [bytesV] using ho.1
  have hr : Rd w A n (fun j => .int .u8 (l.getD j 0)) := fun h0 => by
    rcases ho.2 with ⟨h1, h2⟩ | ⟨g, cap, cur, hv, hg, hh, _⟩
    · injection h1 with h1 h3
      omega
    · injection hv with hv
      subst hv
      refine ⟨g, 0, rfl, (Array.getElem?_eq_some_iff.1 hh).1, fun j hj => ?_⟩
      rw [Nat.zero_add, ho.cellAt j (by omega)]
      simp [bytesV, List.getD, List.getElem?_eq_getElem (show j < l.length by omega)]
  have := conv_rd (c := c) hr
  rw [this]
  congr 2
  unfold strF
  congr 1
  apply List.ext_getElem
  · simp [hl]
  · intro i h1 h2
    simp [List.getD, List.getElem?_eq_getElem h2]

set_option maxHeartbeats 1000000 in
theorem l01Dec_pos (u : Nat) (hu : u ≤ 9223372036854775807) (w : World) :
    Calls Tryd.prog 27 #[.int .i64 u] w fun e w' => e = .returned (.string (dec u)) ∧ Below w.heap.size w w' := by
  obtain ⟨i0, hi, iz, is, ib⟩ := info_parts info8
  have hlen : (digs u).length ≤ 19 := digs_length u 19 (by omega)
  have HLEN := Lib.hid hlen
  clear hlen
  go_enter Tryd.func27, Tryd.ntmps27
  go_wp2_with fail
  go_loopw [3, 4, 5] (fun v k _ wr => ∃ (m : Nat) (D : List Int), m ≤ u ∧ k = .int .i64 m ∧ Hid (digs u = digs m ++ D) ∧ wr.ownsRow w.heap.size 5 1 v D.length (bytesV D) ∧ Below w.heap.size w wr) (fun _ k _ _ => (intOf k).toNat)
  case atStart => exact ⟨u, [], Nat.le_refl _, rfl, by simp [Hid], World.ownsRow_made w #[] 0 (Nat.le_refl _) (by unfold maxLen; omega) rfl, by (repeat' first | with_reducible exact Below.refl _ _ | with_reducible refine Below.alloc ?_ ?_ _ | with_reducible refine Below.setCell ?_ ?_ _ | with_reducible refine Below.drew ?_ | with_reducible refine Below.drewN' ?_ _ | with_reducible (refine Below.trans ?_ (Below.mono (by assumption) ?_)) | exact Nat.le_refl _ | (simp; done) | (simp; omega) | omega)⟩
  case round =>
    obtain ⟨m, D, hm, rfl, HD, hown, hb⟩ := hrel
    have hDl : D.length ≤ 19 := by have := HLEN.out; rw [HD.out] at this; simp at this; omega
    have HOWN := Lib.hid hown
    have HB := Lib.hid hb
    clear hown hb
    rcases Nat.eq_zero_or_pos m with hz | hpos
    · subst hz
      have HD' : Hid (digs u = D) := by have := HD.out; rw [digs_zero] at this; exact this
      rcases Nat.eq_zero_or_pos u with h0 | h0
      · subst h0
        have : D = [] := by have := HD'.out; rw [digs_zero] at this; exact this.symm
        subst this
        obtain ⟨A, c, rfl⟩ := own_form HOWN.out
        go_wp2
        go_ret
        exact ⟨by rw [Int.natCast_zero, dec_zero]; rfl, HB.out⟩
      · have hD0 : D ≠ [] := by
          intro h; have := HD'.out; rw [h, digs_pos h0] at this; simp at this
        obtain ⟨N, hN⟩ : ∃ N, D.length = N + 1 := ⟨D.length - 1, by cases D with | nil => exact absurd rfl hD0 | cons a l => simp⟩
        have kc := conv_own HOWN.out (by unfold maxLen; omega)
        obtain ⟨A, c, rfl⟩ := own_form HOWN.out
        have HC : Hid (strOfNums D = dec u) := by show strOfNums D = dec u; rw [dec_pos u h0, HD'.out]
        rw [HC.out] at kc
        rw [hN] at kc ⊢
        clear hN hD0
        go_wp2
        go_ret
        exact ⟨by rw [← HC.out]; rfl, HB.out⟩
    · have hm10 : (0 : Int) ≤ (m : Int) := by omega
      go_wp2_with (at_builtin; go_must (refine wpList_app_own (wr.alloc (.cells [Value.int .u8 (48 + (m : Int) % 10)].toArray 5)) rfl (.tmp 21) (.tmp 22) _ rfl w.heap.size 5 i0 _ 1 1 Tryd.underlying62 hi iz is ib rfl (by omega) (.slice (some ⟨wr.heap.size, 0, none⟩) 1 1) 1 [.int .u8 (48 + (m : Int) % 10)] (by rfl) (own_lit (base := w.heap.size) (e := 5) (size := 1) wr [.int .u8 (48 + (m : Int) % 10)] 1 HB.out.size (by unfold maxLen; omega) rfl) _ u3 D.length _ (by rfl) (HOWN.out.alloc _) (bytesV_one _) (by unfold maxLen; omega) (by omega) (by have := HB.out.size; simp; omega) ?_); intro v' w' hown' hb'; obtain ⟨A', c', rfl⟩ := own_form hown'; have HOWN' := Lib.hid hown'; have HB' := Lib.hid ((HB.out.alloc HB.out.size _).trans hb'); clear hown' hb')
      go_wp2
      go_roundw
      case rel =>
        refine ⟨m / 10, ((48 + m % 10 : Nat) : Int) :: D, by omega, by go_num, ?_, ?_, HB'.out⟩
        · show _ = _
          rw [HD.out, digs_pos hpos]; simp
        · have := HOWN'.out
          have e : ((48 + m % 10 : Nat) : Int) = 48 + (m : Int) % 10 := by omega
          rw [show (((48 + m % 10 : Nat) : Int) :: D).length = 1 + D.length by simp [Nat.add_comm], e]
          exact this
      case measure => simp [intOf] <;> omega

set_option maxHeartbeats 1000000 in
theorem l01Dec_neg (u : Nat) (h0 : 0 < u) (hu : u ≤ 9223372036854775808) (w : World) :
    Calls Tryd.prog 27 #[.int .i64 (-(u : Int))] w fun e w' => e = .returned (.string (dec (-(u : Int)))) ∧ Below w.heap.size w w' := by
  obtain ⟨i0, hi, iz, is, ib⟩ := info_parts info8
  have hlen : (digs u).length ≤ 19 := digs_length u 19 (by omega)
  have HLEN := Lib.hid hlen
  clear hlen
  go_enter Tryd.func27, Tryd.ntmps27
  go_wp2_with fail
  go_loopw [3, 4, 5] (fun v k _ wr => ∃ (m : Nat) (D : List Int), m ≤ u ∧ k = .int .i64 (-(m : Int)) ∧ Hid (digs u = digs m ++ D) ∧ wr.ownsRow w.heap.size 5 1 v D.length (bytesV D) ∧ Below w.heap.size w wr) (fun _ k _ _ => (-(intOf k)).toNat)
  case atStart => exact ⟨u, [], Nat.le_refl _, rfl, by simp [Hid], World.ownsRow_made w #[] 0 (Nat.le_refl _) (by unfold maxLen; omega) rfl, by (repeat' first | with_reducible exact Below.refl _ _ | with_reducible refine Below.alloc ?_ ?_ _ | with_reducible refine Below.setCell ?_ ?_ _ | with_reducible refine Below.drew ?_ | with_reducible refine Below.drewN' ?_ _ | with_reducible (refine Below.trans ?_ (Below.mono (by assumption) ?_)) | exact Nat.le_refl _ | (simp; done) | (simp; omega) | omega)⟩
  case round =>
    obtain ⟨m, D, hm, rfl, HD, hown, hb⟩ := hrel
    have hDl : D.length ≤ 19 := by have := HLEN.out; rw [HD.out] at this; simp at this; omega
    have HOWN := Lib.hid hown
    have HB := Lib.hid hb
    clear hown hb
    rcases Nat.eq_zero_or_pos m with hz | hpos
    · subst hz
      have HD' : Hid (digs u = D) := by have := HD.out; rw [digs_zero] at this; exact this
      have hD0 : D ≠ [] := by
        intro h; have := HD'.out; rw [h, digs_pos h0] at this; simp at this
      obtain ⟨N, hN⟩ : ∃ N, D.length = N + 1 := ⟨D.length - 1, by cases D with | nil => exact absurd rfl hD0 | cons a l => simp⟩
      have kc := conv_own HOWN.out (by unfold maxLen; omega)
      obtain ⟨A, c, rfl⟩ := own_form HOWN.out
      have HC : Hid (⟨#[45]⟩ ++ strOfNums D = dec (-(u : Int))) := by show _ = _; rw [dec_neg u h0, HD'.out]
      have hz : strOfNums D = strOfNums D := rfl
      obtain ⟨S, hS⟩ : ∃ S, S = strOfNums D := ⟨_, rfl⟩
      have HS : Hid (S.size = N + 1) := by show S.size = N + 1; rw [hS, ← hN]; simp [strOfNums, ByteArray.size]
      rw [← hS] at kc HC
      rw [hN] at kc ⊢
      have hu0 : -(u : Int) < 0 := by omega
      have hsz : S.size ≤ 20 := by have := HS.out; omega
      clear hN hD0 hz hS
      go_wp2
      go_ret
      exact ⟨by rw [← HC.out]; rfl, HB.out⟩
    · have hm1 : (m : Int) ≤ 9223372036854775808 := by omega
      have hq : (-(m : Int)).tmod 10 = -((m % 10 : Nat) : Int) := by rw [Int.neg_tmod, Int.tmod_eq_emod_of_nonneg (by omega)]; omega
      have hd : (-(m : Int)).tdiv 10 = -((m / 10 : Nat) : Int) := by rw [Int.neg_tdiv, Int.tdiv_eq_ediv_of_nonneg (by omega)]; omega
      have hne : ((-(m : Int)) == 0) = false := by simp; omega
      have hb0 : ((m % 10 : Nat) : Int) ≤ 9 := by omega
      have hb1 : 0 ≤ ((m % 10 : Nat) : Int) := by omega
      have HX : Hid (((48 + m % 10 : Nat) : Int) = 48 + ((m % 10 : Nat) : Int)) := by show _ = _; omega
      obtain ⟨q, hq'⟩ : ∃ q : Nat, q = m % 10 := ⟨_, rfl⟩
      rw [← hq'] at hq hb0 hb1
      rw [← hq'] at HX
      have HQ := Lib.hid hq'
      clear hq'
      rcases Nat.eq_zero_or_pos q with hq0 | hq0
      · subst hq0
        go_wp2_with (at_builtin; go_must (refine wpList_app_own (wr.alloc (.cells [Value.int .u8 (48)].toArray 5)) rfl (.tmp 21) (.tmp 22) _ rfl w.heap.size 5 i0 _ 1 1 Tryd.underlying62 hi iz is ib rfl (by omega) (.slice (some ⟨wr.heap.size, 0, none⟩) 1 1) 1 [.int .u8 (48)] (by rfl) (own_lit (base := w.heap.size) (e := 5) (size := 1) wr [.int .u8 (48)] 1 HB.out.size (by unfold maxLen; omega) rfl) _ u3 D.length _ (by rfl) (HOWN.out.alloc _) (bytesV_one _) (by unfold maxLen; omega) (by omega) (by have := HB.out.size; simp; omega) ?_); intro v' w' hown' hb'; obtain ⟨A', c', rfl⟩ := own_form hown'; have HOWN' := Lib.hid hown'; have HB' := Lib.hid ((HB.out.alloc HB.out.size _).trans hb'); clear hown' hb')
        go_wp2
        go_roundw
        case rel =>
          refine ⟨m / 10, ((48 + m % 10 : Nat) : Int) :: D, by omega, by first | exact congrArg (Value.int .i64) hd | go_num, ?_, ?_, HB'.out⟩
          · show _ = _
            rw [HD.out, digs_pos hpos]; simp
          · have := HOWN'.out
            have e : ((48 + m % 10 : Nat) : Int) = 48 := by have := HX.out; have := HQ.out; omega
            rw [show (((48 + m % 10 : Nat) : Int) :: D).length = 1 + D.length by simp [Nat.add_comm], e]
            exact this
        case measure => simp [intOf]; omega
      · have hneg : -(q : Int) < 0 := by omega
        go_wp2_with (at_builtin; go_must (refine wpList_app_own (wr.alloc (.cells [Value.int .u8 (48 + (q : Int))].toArray 5)) rfl (.tmp 21) (.tmp 22) _ rfl w.heap.size 5 i0 _ 1 1 Tryd.underlying62 hi iz is ib rfl (by omega) (.slice (some ⟨wr.heap.size, 0, none⟩) 1 1) 1 [.int .u8 (48 + (q : Int))] (by rfl) (own_lit (base := w.heap.size) (e := 5) (size := 1) wr [.int .u8 (48 + (q : Int))] 1 HB.out.size (by unfold maxLen; omega) rfl) _ u3 D.length _ (by rfl) (HOWN.out.alloc _) (bytesV_one _) (by unfold maxLen; omega) (by omega) (by have := HB.out.size; simp; omega) ?_); intro v' w' hown' hb'; obtain ⟨A', c', rfl⟩ := own_form hown'; have HOWN' := Lib.hid hown'; have HB' := Lib.hid ((HB.out.alloc HB.out.size _).trans hb'); clear hown' hb')
        go_wp2
        go_roundw
        case rel =>
          refine ⟨m / 10, ((48 + m % 10 : Nat) : Int) :: D, by omega, by first | exact congrArg (Value.int .i64) hd | go_num, ?_, ?_, HB'.out⟩
          · show _ = _
            rw [HD.out, digs_pos hpos]; simp
          · have := HOWN'.out
            have e : ((48 + m % 10 : Nat) : Int) = 48 + (q : Int) := by have := HX.out; have := HQ.out; omega
            rw [show (((48 + m % 10 : Nat) : Int) :: D).length = 1 + D.length by simp [Nat.add_comm], e]
            exact this
        case measure => simp [intOf]; omega

theorem l01Dec_any (n : Int) (h0 : -9223372036854775808 ≤ n) (h1 : n ≤ 9223372036854775807) (w : World) :
    Calls Tryd.prog 27 #[.int .i64 n] w fun e w' => e = .returned (.string (dec n)) ∧ Below w.heap.size w w' := by
  rcases Int.lt_or_le n 0 with h | h
  · obtain ⟨u, rfl⟩ : ∃ u : Nat, n = -(u : Int) := ⟨n.natAbs, by omega⟩
    exact l01Dec_neg u (by omega) (by omega) w
  · obtain ⟨u, rfl⟩ : ∃ u : Nat, n = (u : Int) := ⟨n.toNat, by omega⟩
    exact l01Dec_pos u (by omega) w
theorem dec_size (n : Int) (h0 : -9223372036854775808 ≤ n) (h1 : n ≤ 9223372036854775807) : (dec n).size ≤ 20 := by
  have key : ∀ u : Nat, u ≤ 9223372036854775808 → (strOfNums (digs u)).size ≤ 19 := fun u hu => by
    have := digs_length u 19 (by omega)
    simpa [strOfNums, ByteArray.size] using this
  rcases Int.lt_or_le n 0 with h | h
  · obtain ⟨u, rfl⟩ : ∃ u : Nat, n = -(u : Int) := ⟨n.natAbs, by omega⟩
    rw [dec_neg u (by omega), ByteArray.size_append]
    have := key u (by omega)
    have : (⟨#[45]⟩ : ByteArray).size = 1 := rfl
    omega
  · obtain ⟨u, rfl⟩ : ∃ u : Nat, n = (u : Int) := ⟨n.toNat, by omega⟩
    rcases Nat.eq_zero_or_pos u with hz | hz
    · subst hz
      rw [Int.natCast_zero, dec_zero]
      have : (⟨#[48]⟩ : ByteArray).size = 1 := rfl
      omega
    · rw [dec_pos u hz]
      have := key u (by omega)
      omega
end Go.Proofs.YtpgmkkepbnonmaaDoor
