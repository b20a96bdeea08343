/- Walk: the program's EventPicture: the lines in new memory; nothing of events that are not valid. No condition but the length. -/
import Derived.Test.YtpgmkkepbnonmaaEventPics
import Derived.Test.YtpgmkkepbnonmaaAppG
namespace Go.Proofs.Ytpgmkkepbnonmaa
open Go.RowKit
set_option maxRecDepth 20000

set_option maxHeartbeats 2000000 in
theorem implEventPicture_any (A : Option Addr) (n c : Nat) (z : Nat → Int) (w : World) (ha : Rd w A (n * 6) (fun j => .int .i64 (z j))) (hn : n ≤ 1048576) :
    Calls Try.prog 12 #[.slice A n c] w (NewP2 w (evN z n) (evN z n) (fun j => .string (evP z j)) (evC z n)) := by
  obtain ⟨i0, hi, iz, is, ib⟩ := info_parts infoString
  have HA := Lib.hid ha
  clear ha
  go_enter Try.func12, Try.ntmps12
  go_wp2_with fail
  refine (validEvents_any A n c z _ HA.out hn).mono ?_
  rintro e w1 ⟨rfl, hb1⟩
  have HB1 := Lib.hid hb1
  clear hb1
  cases hv : (cntO z n).isSome
  · go_wp2
    go_ret2
    exact ⟨none, 0, by simp [evN, evC, hv], by simp only [evN, hv]; exact New.none_ HB1.out _⟩
  have HV := Lib.hid hv
  go_wp2_with fail
  clear hv
  have hn2 := (cntO_some HV.out).1
  go_loopw [4, 5, 14] (fun v m i wr => ∃ k : Nat, k ≤ n ∧ i = .int .i64 k ∧ (∃ x : Nat, Hid (cnt z 0 k = some (x : Int)) ∧ m = .int .i64 x) ∧ wr.ownsRow w.heap.size 9 1 v k (evPV z k) ∧ Below w.heap.size w wr) (fun _ _ i _ => n - (intOf i).toNat)
  case atStart => exact ⟨0, Nat.zero_le _, rfl, ⟨0, Lib.hid rfl, rfl⟩, World.ownsRow_made _ #[] 0 HB1.out.size (by unfold maxLen; omega) rfl, HB1.out.alloc HB1.out.size _⟩
  case round =>
    obtain ⟨k, hk, rfl, ⟨x, HX, rfl⟩, hown, hbl⟩ := hrel
    have HB := Lib.hid hbl
    have HOWN := Lib.hid hown
    clear hbl hown
    by_cases hlt : k < n
    · obtain ⟨g, o, rfl, hg, hev⟩ := RdEv (HA.out.below HB.out) hlt
      obtain ⟨hv1, hv2⟩ := ev_known HV.out hlt HX.out
      have hxb := cnt_bounds HX.out
      have hab := evAfter_bounds hv1
      obtain ⟨x', hx'⟩ := Int.eq_ofNat_of_zero_le hab.1
      have HEP := Lib.hid (show evP z k = evS (z (k * 6)) (z (k * 6 + 1)) (z (k * 6 + 2)) (z (k * 6 + 3)) x by rw [evP, HX.out]; rfl)
      obtain ⟨k0, hk0⟩ : ∃ t, t = z (k * 6) := ⟨_, rfl⟩
      obtain ⟨p0, hp0⟩ : ∃ t, t = z (k * 6 + 1) := ⟨_, rfl⟩
      obtain ⟨c0, hc0⟩ : ∃ t, t = z (k * 6 + 2) := ⟨_, rfl⟩
      obtain ⟨b0, hb0⟩ : ∃ t, t = z (k * 6 + 3) := ⟨_, rfl⟩
      obtain ⟨y0, hy0⟩ : ∃ t, t = z (k * 6 + 4) := ⟨_, rfl⟩
      obtain ⟨d0, hd0⟩ : ∃ t, t = z (k * 6 + 5) := ⟨_, rfl⟩
      rw [← hk0, ← hp0, ← hc0, ← hb0, ← hy0, ← hd0] at hev hv1
      rw [← hk0, ← hc0] at hv2 hx' hab
      rw [← hk0, ← hp0, ← hc0, ← hb0] at HEP
      have HV1 := Lib.hid hv1
      have HV2 := Lib.hid (hx' ▸ hv2)
      have HX' := Lib.hid hx'
      have a0 := hev.c0
      have a1 := hev.c1
      have a2 := hev.c2
      have a3 := hev.c3
      have a4 := hev.c4
      have a5 := hev.c5
      have hgw := World.block_lt_of_cell? wr _ a0
      simp only at hgw
      clear hv1 hv2 hev hk0 hp0 hc0 hb0 hy0 hd0
      go_wp2_with fail
      refine (eventLineV_any k0 p0 c0 b0 y0 d0 x _ HV1.out (by omega)).mono ?_
      rintro e w2 ⟨A2, N2, c2, f2, rfl, hn2', hs2⟩
      have x2 := fun o => ((bcell hn2'.bl).1 wr.heap.size o (by simp)).trans (cell_alloc_at rfl o)
      have x3 : wr.heap.size < w2.heap.size := blt hn2'.bl (by simp)
      have HB2 := Lib.hid (HB.out.trans (Below.trans ((Below.refl _ _).alloc HB.out.size _) (hn2'.bl.mono (by simp; have := HB.out.size; omega))))
      have HOWN2 := Lib.hid (own_below (own_below HOWN.out ((Below.refl _ _).alloc (Nat.le_refl _) _)) hn2'.bl)
      have kc := conv_rd (c := c2) hn2'.rd
      have HS2 := Lib.hid hs2
      have HNE := Lib.hid (fun e => by have := (HOWN.out.lt _ e).2; omega : ¬ u4.ownBlock = some wr.heap.size)
      clear hn2' hs2 a0 a1 a2 a3 a4 a5
      go_wp2_with (at_builtin; go_must (refine wpList_appG w2 rfl (.tmp 18) (.tmp 23) _ rfl w.heap.size 9 i0 _ 1 16 Try.underlying24 hi iz is ib rfl (by omega) u4 k (evPV z k) rfl HOWN2.out _ 1 1 _ rfl rfl (by simp [Value.oneCell']) (by unfold maxLen; omega) (by omega) HB2.out.size ?_); intro v' w' hown' hf'; have HOWN' := Lib.hid hown'; have HB' := Lib.hid (hf'.own HOWN2.out HB2.out.size); have x4 := fun o => (hf'.cells x3 HNE.out o).trans (x2 o); clear hown' hf')
      clear kc x2
      refine (after_any k0 p0 c0 b0 y0 d0 x _ ⟨by omega, by omega⟩ ⟨by omega, by omega⟩).mono ?_
      rintro e w3 ⟨rfl, hb3⟩
      rw [HX'.out]
      have HB3 := Lib.hid ((HB2.out.trans HB'.out).trans (hb3.mono (HB2.out.trans HB'.out).size))
      have HOWN3 := Lib.hid (own_below HOWN'.out hb3)
      clear hb3 x4
      go_wp2
      go_roundw
      case rel => exact ⟨k + 1, by omega, by go_num, ⟨x', HV2, rfl⟩, by rw [evPV_next, HEP.out, ← HS2.out]; exact HOWN3.out, HB3.out⟩
      case measure => simp [intOf] <;> omega
    · obtain rfl : n = k := by omega
      obtain ⟨A4, c4, rfl, hnew⟩ := New.of_own (w := w) HB.out HOWN.out
      have HN := Lib.hid hnew
      clear hnew
      go_wp2
      go_ret2
      have := HN.out
      rw [Nat.mul_one] at this
      have e1 : evN z n = n := by simp [evN, HV.out]
      rw [e1]
      exact ⟨A4, c4, by simp [evC, HV.out], this.congr fun j hj => by simp [evPV, List.getD, hj]⟩
end Go.Proofs.Ytpgmkkepbnonmaa
