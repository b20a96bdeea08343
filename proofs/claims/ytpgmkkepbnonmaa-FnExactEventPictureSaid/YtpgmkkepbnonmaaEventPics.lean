/- Walks: both EventPicture: the same lines in new memory; nothing of events that are not valid. No condition but the length. -/
import Derived.Test.YtpgmkkepbnonmaaEventLineI
import Derived.Test.YtpgmkkepbnonmaaStrLaw
namespace Go.Proofs.Ytpgmkkepbnonmaa
open Go.RowKit
set_option maxRecDepth 20000

def bedMark (b : Int) : Int := if b = 2 then 45 else 86
/-- The line of an event behind m strands. -/
def evS (k p c b : Int) (m : Nat) : ByteArray :=
  if k = 1 then strF (2 * m - 1) (crossZ lineZ p.toNat (decide (0 < c)))
  else if k = 2 then (if c = 0 then strF (2 * (m + 1) - 1) (markZ lineZ p.toNat 1 (bedMark b)) else strF (2 * m - 1) (markZ lineZ p.toNat c.toNat (bedMark b)))
  else if k = 3 then strF (2 * (m + 1) - 1) (markZ lineZ p.toNat 1 85)
  else if k = 5 then strF (2 * (m + 1) - 1) (markZ lineZ p.toNat 1 83)
  else strF (2 * m - 1) (markZ lineZ p.toNat c.toNat 68)
theorem evV_cases {k p c b y d n : Int} (h : evV k p c b y d n = true) : 0 ≤ p ∧ ((k = 1 ∧ p ≤ n - 2 ∧ (c = 1 ∨ c = -1)) ∨ (k = 2 ∧ 0 ≤ c ∧ c ≤ 4 ∧ p ≤ n - c) ∨ (k = 3 ∧ p ≤ n ∧ c = 0) ∨ (k = 4 ∧ 1 ≤ c ∧ c ≤ 4 ∧ p ≤ n - c) ∨ (k = 5 ∧ p ≤ n)) := by
  unfold evV at h
  by_cases hp : p < 0
  · rw [if_pos hp] at h; cases h
  · rw [if_neg hp] at h
    refine ⟨by omega, ?_⟩
    by_cases h1 : k = 1
    · subst h1
      simp at h
      exact .inl ⟨rfl, h.1.1, h.1.2⟩
    · rw [if_neg h1] at h
      by_cases h2 : k = 2
      · subst h2
        simp [inB] at h
        exact .inr (.inl ⟨rfl, h.1.1.1, h.1.1.2, h.1.2⟩)
      · rw [if_neg h2] at h
        by_cases h3 : k = 3
        · subst h3
          simp at h
          exact .inr (.inr (.inl ⟨rfl, h.2.1.2, h.2.1.1⟩))
        · rw [if_neg h3] at h
          by_cases h4 : k = 4
          · subst h4
            simp [inB] at h
            exact .inr (.inr (.inr (.inl ⟨rfl, h.1.1.1, h.1.1.2, h.1.2⟩)))
          · rw [if_neg h4] at h
            by_cases h5 : k = 5
            · subst h5
              simp [inB] at h
              refine .inr (.inr (.inr (.inr ⟨rfl, ?_⟩)))
              obtain ⟨⟨h6, _⟩, h7⟩ := h
              by_cases hb : b = 1
              · rw [if_pos hb] at h7; omega
              · rw [if_neg hb] at h7; omega
            · rw [if_neg h5] at h; cases h
theorem LineP.cast {s s' : ByteArray} {a a' : Int} {w w' : World} {e : Ending} (h : LineP s a w e w') (hs : s = s') (ha : a = a') : LineP s' a' w e w' := by subst hs ha; exact h
theorem l30EventV_any (k p c b y d : Int) (m : Nat) (g o : Nat) (w : World) (H : Hid (EvAt w g o k p c b y d)) (hv : evV k p c b y d m = true) (hm : m ≤ 12) :
    Calls Try.prog 41 #[.pointer (some ⟨g, o, none⟩), .int .i64 m] w (LineP (evS k p c b m) (evAfter k c m) w) := by
  obtain ⟨hp, hc⟩ := evV_cases hv
  obtain ⟨p, rfl⟩ := Int.eq_ofNat_of_zero_le hp
  rcases hc with ⟨rfl, h1, h2⟩ | ⟨rfl, h1, h2, h3⟩ | ⟨rfl, h1, rfl⟩ | ⟨rfl, h1, h2, h3⟩ | ⟨rfl, h1⟩
  · exact (l30Event1_any g o p m c b y d w H (by omega) (by omega)).mono fun _ _ h => h.cast (by simp [evS]) (by simp [evAfter])
  · obtain ⟨q, rfl⟩ := Int.eq_ofNat_of_zero_le h1
    by_cases hq : q = 0
    · subst hq
      exact (l30Event2_any g o p m 0 1 (m + 1) b y d w H (by omega) (by omega) (by omega) (by omega)).mono fun _ _ h => h.cast (by simp [evS, bedMark]) (by simp [evAfter])
    · exact (l30Event2_any g o p m q q m b y d w H (by omega) (by omega) (by omega) (by omega)).mono fun _ _ h => h.cast (by simp [evS, bedMark, hq]) (by simp [evAfter]; omega)
  · exact (l30Event35_any g o p m 3 0 b y d w H (.inl rfl) (by omega) (by omega)).mono fun _ _ h => h.cast (by simp [evS]) (by simp [evAfter])
  · obtain ⟨q, rfl⟩ := Int.eq_ofNat_of_zero_le (show 0 ≤ c by omega)
    exact (l30Event4_any g o p m q b y d w H (by omega) (by omega) (by omega)).mono fun _ _ h => h.cast (by simp [evS]) (by simp [evAfter])
  · exact (l30Event35_any g o p m 5 c b y d w H (.inr rfl) (by omega) (by omega)).mono fun _ _ h => h.cast (by simp [evS]) (by simp [evAfter])
/-- A line of bytes in new memory, whose text is s. -/
def BytesP (s : ByteArray) (w : World) (e : Ending) (w' : World) : Prop := ∃ A N c f, e = .returned (.slice A N c) ∧ New w w' A N (fun j => .int .u8 (f j)) ∧ strF N f = s
theorem BytesP.of {N : Nat} {f : Nat → Int} {s : ByteArray} {w w' : World} {e : Ending} (h : NewP w N N (fun j => .int .u8 (f j)) e w') (hs : strF N f = s) : BytesP s w e w' := by
  obtain ⟨A, c, he, hn⟩ := h
  exact ⟨A, N, c, f, he, hn, hs⟩
theorem eventLineV_any (k p c b y d : Int) (m : Nat) (w : World) (hv : evV k p c b y d m = true) (hm : m ≤ 12) :
    Calls Try.prog 44 #[.agg #[.int .i64 k, .int .i64 p, .int .i64 c, .int .i64 b, .int .i64 y, .int .i64 d], .int .i64 m] w (BytesP (evS k p c b m) w) := by
  obtain ⟨hp, hc⟩ := evV_cases hv
  obtain ⟨p, rfl⟩ := Int.eq_ofNat_of_zero_le hp
  rcases hc with ⟨rfl, h1, h2⟩ | ⟨rfl, h1, h2, h3⟩ | ⟨rfl, h1, rfl⟩ | ⟨rfl, h1, h2, h3⟩ | ⟨rfl, h1⟩
  · exact (eventLine1_any p m c b y d w h2 (by omega) (by omega)).mono fun _ _ h => BytesP.of h (by simp [evS])
  · obtain ⟨q, rfl⟩ := Int.eq_ofNat_of_zero_le h1
    by_cases hq : q = 0
    · subst hq
      exact (eventLine2z_any p m (m + 1) b y d w (by omega) (by omega) (by omega)).mono fun _ _ h => BytesP.of h (by simp [evS, bedMark])
    · exact (eventLine2p_any p q m b y d w (by omega) (by omega) (by omega)).mono fun _ _ h => BytesP.of h (by simp [evS, bedMark, hq])
  · exact (eventLine3_any p m (m + 1) 0 b y d w (by omega) (by omega) (by omega)).mono fun _ _ h => BytesP.of h (by simp [evS])
  · obtain ⟨q, rfl⟩ := Int.eq_ofNat_of_zero_le (show 0 ≤ c by omega)
    exact (eventLine4_any p q m b y d w (by omega) (by omega) (by omega)).mono fun _ _ h => BytesP.of h (by simp [evS])
  · exact (eventLine5_any p m (m + 1) c b y d w (by omega) (by omega) (by omega)).mono fun _ _ h => BytesP.of h (by simp [evS])

/-- The line of event number k. -/
def evP (z : Nat → Int) (k : Nat) : ByteArray := evS (z (k * 6)) (z (k * 6 + 1)) (z (k * 6 + 2)) (z (k * 6 + 3)) ((cnt z 0 k).getD 0).toNat
def evPV (z : Nat → Int) (m : Nat) : List Value := (List.range m).map fun j => .string (evP z j)
theorem evPV_next (z : Nat → Int) (m : Nat) : evPV z (m + 1) = evPV z m ++ [.string (evP z m)] := by simp [evPV, List.range_succ]
def evN (z : Nat → Int) (n : Nat) : Nat := if (cntO z n).isSome then n else 0
def evC (z : Nat → Int) (n : Nat) : Int := if (cntO z n).isSome then 0 else 1
/-- What is known of event k of valid events. -/
theorem ev_known {z : Nat → Int} {n k : Nat} {x : Int} (h : (cntO z n).isSome = true) (hk : k < n) (hx : cnt z 0 k = some x) :
    evV (z (k * 6)) (z (k * 6 + 1)) (z (k * 6 + 2)) (z (k * 6 + 3)) (z (k * 6 + 4)) (z (k * 6 + 5)) x = true ∧ cnt z 0 (k + 1) = some (evAfter (z (k * 6)) (z (k * 6 + 2)) x) := by
  obtain ⟨m, hm⟩ := (cntO_some h).2 (k + 1) (by omega)
  by_cases h2 : evV (z (k * 6)) (z (k * 6 + 1)) (z (k * 6 + 2)) (z (k * 6 + 3)) (z (k * 6 + 4)) (z (k * 6 + 5)) x = true ∧ evAfter (z (k * 6)) (z (k * 6 + 2)) x ≤ 12
  · exact ⟨h2.1, cnt_step hx h2.1 h2.2⟩
  · rw [cnt_stop hx h2] at hm; cases hm

set_option maxHeartbeats 2000000 in
theorem specEventPicture_any (A : Option Addr) (n c : Nat) (z : Nat → Int) (w : World) (ha : Rd w A (n * 6) (fun j => .int .i64 (z j))) (hn : n ≤ 1048576) :
    Calls Try.prog 10 #[.slice A n c] w (NewP2 w (evN z n) (evN z n) (fun j => .string (evP z j)) (evC z n)) := by
  obtain ⟨i0, hi, iz, is, ib⟩ := info_parts infoString
  have HA := Lib.hid ha
  clear ha
  go_enter Try.func10, Try.ntmps10
  go_wp2_with fail
  refine (specValidEvents_any A n c z _ HA.out hn).mono ?_
  rintro e w1 ⟨rfl, q, rfl⟩
  cases hv : (cntO z n).isSome
  · go_wp2
    go_ret2
    exact ⟨none, 0, by simp [evN, evC, hv], by simp only [evN, hv]; exact New.none_ (Below.drewN' (Below.refl _ _) q) _⟩
  have HV := Lib.hid hv
  go_wp2_with fail
  clear hv
  have hn2 := (cntO_some HV.out).1
  go_loopw [4, 5, 6] (fun v m i wr => ∃ k : Nat, k ≤ n ∧ i = .int .i64 k ∧ (∃ x : Nat, Hid (cnt z 0 k = some (x : Int)) ∧ m = .int .i64 x) ∧ wr.ownsRow w.heap.size 9 1 v k (evPV z k) ∧ Below w.heap.size w wr) (fun _ _ i _ => n - (intOf i).toNat)
  case atStart => exact ⟨0, Nat.zero_le _, rfl, ⟨0, Lib.hid rfl, rfl⟩, World.ownsRow_made _ #[] 0 (Nat.le_refl _) (by unfold maxLen; omega) rfl, (Below.drewN' (Below.refl _ _) q).alloc (Nat.le_refl _) _⟩
  case round =>
    obtain ⟨k, hk, rfl, ⟨x, HX, rfl⟩, hown, hbl⟩ := hrel
    have HB := Lib.hid hbl
    have HOWN := Lib.hid hown
    clear hbl hown
    by_cases hlt : k < n
    · obtain ⟨g, o, rfl, hg, hev⟩ := RdEv (HA.out.below HB.out) hlt
      obtain ⟨hv1, hv2⟩ := ev_known HV.out hlt HX.out
      have hxb := cnt_bounds HX.out
      have hab := evAfter_bounds hv1
      obtain ⟨x', hx'⟩ := Int.eq_ofNat_of_zero_le hab.1
      have HV1 := Lib.hid hv1
      have HV2 := Lib.hid (hx' ▸ hv2)
      have HX' := Lib.hid hx'
      have HEV := Lib.hid hev
      clear hv1 hv2 hev hab hx'
      go_wp2_with fail
      refine (l30EventV_any _ _ _ _ _ _ x g (o + k * 6) _ HEV HV1.out (by omega)).mono ?_
      rintro e w2 ⟨rfl, hb2⟩
      rw [HX'.out]
      have HB2 := Lib.hid (HB.out.trans (hb2.mono HB.out.size))
      have HOWN2 := Lib.hid (own_below HOWN.out hb2)
      clear hb2
      go_wp2_with (at_builtin; go_must (refine wpList_app w2 rfl (.tmp 27) (.tmp 29) _ rfl w.heap.size 9 i0 _ 1 16 Try.underlying24 hi iz is ib rfl (by omega) u4 k (evPV z k) rfl HOWN2.out _ 1 1 _ rfl rfl (by simp [Value.oneCell']) (by unfold maxLen; omega) (by omega) HB2.out.size ?_); intro v' w' hown' hb')
      have HOWN' := Lib.hid hown'
      clear hown'
      go_wp2
      go_roundw
      case rel => exact ⟨k + 1, by omega, by go_num, ⟨x', HV2, rfl⟩, by rw [evPV_next, evP, HX.out]; exact HOWN'.out, HB2.out.trans hb'⟩
      case measure => simp [intOf] <;> omega
    · obtain rfl : n = k := by omega
      obtain ⟨A4, c4, rfl, hnew⟩ := New.of_own (w := w) HB.out HOWN.out
      have HN := Lib.hid hnew
      clear hnew
      go_wp2
      go_ret2
      have := HN.out
      rw [Nat.mul_one] at this
      have e1 : evN z n = n := by simp [evN, HV.out]
      rw [e1]
      exact ⟨A4, c4, by simp [evC, HV.out], this.congr fun j hj => by simp [evPV, List.getD, hj]⟩
end Go.Proofs.Ytpgmkkepbnonmaa
