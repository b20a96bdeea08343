/- Walk: a number out of its decimal form of at most nine digits, by the program. No condition but the bounds and strconv's variables. -/
import Derived.Test.YtpgmkkepbnonmaaDoorNumberS
import Derived.Test.YtpgmkkepbnonmaaDoorDoorVars
import Derived.Test.YtpgmkkepbnonmaaDoorShStrconvParseInt10At0Ok
namespace Go.Proofs.YtpgmkkepbnonmaaDoor
open Go.RowKit
set_option maxRecDepth 20000

set_option maxHeartbeats 1000000 in
theorem ReadDecimal_any (s : ByteArray) (w : World) (hs : s.size ≤ 1048576) (hd : Door w) : Calls Tryd.prog 16 #[.string s] w (NumE s w) := by
  have HD := Lib.hid hd
  clear hd
  cases hp : Lib.parseIntB 64 s.data.toList with
  | ok v =>
    have HP := Lib.hid hp
    by_cases h1 : 999999999 < v
    · have HN := Lib.hid (numR_parse_far HP.out (.inr (.inl h1)))
      clear hp
      go_enter Tryd.func16, Tryd.ntmps16
      go_wp2_with fail
      refine (Tryd.strconv_ParseInt_10_at64_ok s (by omega) v HP.out _).mono ?_
      rintro e w1 ⟨rfl, hw⟩
      have HB := Lib.hid (show Below w.heap.size w w1 from by rcases hw with rfl | ⟨t, rfl⟩ <;> first | exact Below.refl _ _ | exact Lib.bytesWorld_below _ _ _)
      clear hw
      go_wp2
      go_ret2
      exact ⟨_, _, HN.out, rfl, HB.out⟩
    by_cases h2 : v < -999999999
    · have HN := Lib.hid (numR_parse_far HP.out (.inl h2))
      clear hp
      go_enter Tryd.func16, Tryd.ntmps16
      go_wp2_with fail
      refine (Tryd.strconv_ParseInt_10_at64_ok s (by omega) v HP.out _).mono ?_
      rintro e w1 ⟨rfl, hw⟩
      have HB := Lib.hid (show Below w.heap.size w w1 from by rcases hw with rfl | ⟨t, rfl⟩ <;> first | exact Below.refl _ _ | exact Lib.bytesWorld_below _ _ _)
      clear hw
      go_wp2
      go_ret2
      exact ⟨_, _, HN.out, rfl, HB.out⟩
    clear hp
    go_enter Tryd.func16, Tryd.ntmps16
    go_wp2_with fail
    refine (Tryd.strconv_ParseInt_10_at64_ok s (by omega) v HP.out _).mono ?_
    rintro e w1 ⟨rfl, hw⟩
    have HB := Lib.hid (show Below w.heap.size w w1 from by rcases hw with rfl | ⟨t, rfl⟩ <;> first | exact Below.refl _ _ | exact Lib.bytesWorld_below _ _ _)
    clear hw
    go_wp2_with fail
    refine (Decimal_any v (by omega) (by omega) _ (HD.out.below HB.out).1).mono ?_
    rintro e w2 ⟨rfl, hb2⟩
    have HB2 := Lib.hid (HB.out.trans (hb2.mono HB.out.size))
    clear hb2
    by_cases he : dec v = s
    · have HE := Lib.hid he
      have he' : ((dec v).toList == s.toList) = true := by simp [he]
      clear he
      go_wp2
      go_ret2
      exact ⟨_, _, .inl ⟨rfl, HE.out, by omega, by omega⟩, rfl, HB2.out⟩
    · have HN := Lib.hid (numR_parse_far HP.out (.inr (.inr he)))
      have he' := bytes_ne he
      clear he
      go_wp2
      go_ret2
      exact ⟨_, _, HN.out, rfl, HB2.out⟩
  | range =>
    have HP := Lib.hid hp
    have HN := Lib.hid (numR_parse_no (s := s) fun v e => by rw [hp] at e; cases e)
    clear hp
    obtain ⟨tp, p, hv⟩ := HD.out.2.2.1
    have HV := Lib.hid hv
    clear hv
    go_enter Tryd.func16, Tryd.ntmps16
    go_wp2_with fail
    refine (Tryd.strconv_ParseInt_10_at64_range_var s (by omega) HP.out tp p _ HV.out).mono ?_
    rintro e w1 ⟨N, rfl, _, _, hb⟩
    have HB := Lib.hid hb
    clear hb
    go_wp2
    go_ret2
    exact ⟨_, _, HN.out, rfl, HB.out⟩
  | _ =>
    have HP := Lib.hid (show (∀ v, Lib.parseIntB 64 s.data.toList ≠ .ok v) ∧ Lib.parseIntB 64 s.data.toList ≠ .range from ⟨fun v e => (by rw [hp] at e; cases e), fun e => (by rw [hp] at e; cases e)⟩)
    have HN := Lib.hid (numR_parse_no HP.out.1)
    clear hp
    obtain ⟨tp, p, hv⟩ := HD.out.2.1
    have HV := Lib.hid hv
    clear hv
    go_enter Tryd.func16, Tryd.ntmps16
    go_wp2_with fail
    refine (Tryd.strconv_ParseInt_10_at64_syntax_var s (by omega) HP.out tp p _ HV.out).mono ?_
    rintro e w1 ⟨N, rfl, _, _, hb⟩
    have HB := Lib.hid hb
    clear hb
    go_wp2
    go_ret2
    exact ⟨_, _, HN.out, rfl, HB.out⟩
end Go.Proofs.YtpgmkkepbnonmaaDoor
