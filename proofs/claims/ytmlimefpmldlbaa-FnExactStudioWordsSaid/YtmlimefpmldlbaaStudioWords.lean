/- Walks: both StudioWords make a new slice of the same 23 words; the law over them returns true. No condition. -/
import Derived.Test.YtmlimefpmldlbaaStrLaw
namespace Go.Proofs.Ytmlimefpmldlbaa
open Go.RowKit

/-- The words with which commands begin. -/
def studioWords : List ByteArray := [⟨#[97, 114, 116, 105, 110]⟩, ⟨#[98, 114, 97, 105, 100]⟩, ⟨#[99, 97, 98, 108, 101]⟩, ⟨#[99, 104, 97, 114, 116]⟩, ⟨#[99, 104, 101, 99, 107]⟩, ⟨#[99, 108, 101, 97, 114]⟩, ⟨#[99, 111, 109, 112, 105, 108, 101]⟩, ⟨#[99, 111, 115, 116]⟩, ⟨#[104, 97, 110, 100]⟩, ⟨#[104, 97, 110, 100, 108, 101, 115]⟩, ⟨#[109, 105, 114, 114, 111, 114]⟩, ⟨#[110, 111, 114, 109, 97, 108]⟩, ⟨#[111, 112]⟩, ⟨#[111, 112, 116, 105, 109, 105, 122, 101]⟩, ⟨#[112, 105, 99, 116, 117, 114, 101]⟩, ⟨#[112, 114, 111, 103, 114, 97, 109]⟩, ⟨#[114, 111, 119]⟩, ⟨#[115, 97, 109, 101]⟩, ⟨#[115, 104, 111, 119]⟩, ⟨#[116, 101, 120, 116]⟩, ⟨#[116, 114, 97, 99, 101]⟩, ⟨#[117, 110, 100, 111, 110, 101]⟩, ⟨#[118, 97, 108, 105, 100, 97, 116, 101]⟩]
def WordsP (w : World) (e : Ending) (w' : World) : Prop := ∃ A, e = .returned (.slice A 23 23) ∧ New w w' A 23 (fun j => .string (studioWords.getD j ByteArray.empty))

theorem words_new (w : World) : WordsP w (.returned (.slice (some ⟨w.heap.size, 0, none⟩) 23 23)) (w.alloc (.cells (studioWords.map Value.string).toArray 9)) :=
  ⟨_, rfl, New.block w _ _ 23 _ fun j hj => by
    have hl : studioWords.length = 23 := by decide
    simp [List.getD, List.getElem?_eq_getElem (show j < studioWords.length by omega)]⟩

set_option maxHeartbeats 400000 in
theorem implStudioWords_any (w : World) : Calls Try.prog 13 #[] w (WordsP w) := by
  go_enter Try.func13, Try.ntmps13
  go_wp2
  go_ret
  exact words_new w

set_option maxHeartbeats 400000 in
theorem l31Words_any (w : World) : Calls Try.prog 39 #[] w (WordsP w) := by
  go_enter Try.func39, Try.ntmps39
  go_wp2
  go_ret
  exact words_new w

theorem specStudioWords_any (w : World) : Calls Try.prog 12 #[] w (WordsP w) := by
  go_enter Try.func12, Try.ntmps12
  go_wp2_with fail
  refine (l31Words_any _).mono ?_
  rintro e w1 ⟨A, rfl, hp⟩
  have H := Lib.hid hp
  clear hp
  go_wp2_with fail
  go_ret
  exact ⟨A, rfl, H.out⟩

set_option maxHeartbeats 400000 in
theorem lawStudioWords_walk (w : World) :
    Calls Try.prog 4 #[] w fun e w' => e = .returned (.bool true) ∧ Below w.heap.size w w' := by
  go_enter Try.func4, Try.ntmps4
  go_wp2_with fail
  refine (specStudioWords_any _).mono ?_
  rintro e w1 ⟨S, rfl, hp⟩
  have HS := Lib.hid hp
  clear hp
  go_wp2_with fail
  refine (implStudioWords_any _).mono ?_
  rintro e w2 ⟨G, rfl, hp⟩
  have HG := Lib.hid hp
  have R2 := Lib.hid (HS.out.rd.below hp.bl)
  have hne := Lib.hid (hp.ne (A' := S) HS.out.bb)
  clear hp
  go_wp2_with fail
  refine (eqStringS_any G S 23 23 23 _ _ HG.out.rd R2.out (by omega)).mono ?_
  rintro e w3 ⟨rfl, hb⟩
  have H3 := Lib.hid hb
  have W3 := Lib.hid (HG.out.wr.below hb)
  have R3 := Lib.hid (R2.out.below hb)
  clear hb
  go_wp2_with fail
  refine (markStringS_any G 23 23 1 _ W3.out (by omega) (by omega) (by omega)).mono ?_
  rintro e w4 hm
  obtain rfl : e = .returned (.int .i64 24) := hm.1
  have M4 := Lib.hid (hm.rd W3.out)
  have R4 := Lib.hid (R3.out.marked hm hne.out W3.out)
  have H4 := Lib.hid (hm.below HG.out.ab W3.out)
  clear hm
  go_wp2_with fail
  refine (heldStringS_any G 23 23 1 _ M4.out (by omega) (by omega) (by omega)).mono ?_
  rintro e w5 ⟨he, hb⟩
  obtain rfl : e = .returned (.int .i64 24) := he
  have H5 := Lib.hid hb
  have M5 := Lib.hid (M4.out.below hb)
  have R5 := Lib.hid (R4.out.below hb)
  clear hb
  go_wp2_with fail
  refine (implStudioWords_any _).mono ?_
  rintro e w6 ⟨Z, rfl, hp⟩
  have HZ := Lib.hid hp
  have M6 := Lib.hid (M5.out.below hp.bl)
  have R6 := Lib.hid (R5.out.below hp.bl)
  clear hp
  go_wp2_with fail
  refine (eqStringS_any Z S 23 23 23 _ _ HZ.out.rd R6.out (by omega)).mono ?_
  rintro e w7 ⟨rfl, hb⟩
  have H7 := Lib.hid hb
  have M7 := Lib.hid (M6.out.below hb)
  clear hb
  go_wp2_with fail
  refine (heldStringS_any G 23 23 1 _ M7.out (by omega) (by omega) (by omega)).mono ?_
  rintro e w8 ⟨he, hb⟩
  obtain rfl : e = .returned (.int .i64 24) := he
  have H8 := Lib.hid hb
  clear hb
  go_wp2_with fail
  go_ret
  have s1 := HS.out.bl.size
  have s2 := HG.out.bl.size
  have s3 := H3.out.size
  have s4 := H4.out.size
  have s5 := H5.out.size
  have s6 := HZ.out.bl.size
  have s7 := H7.out.size
  exact ⟨rfl, HS.out.bl.trans ((HG.out.bl.mono (by omega)).trans ((H3.out.mono (by omega)).trans ((H4.out.mono (by omega)).trans ((H5.out.mono (by omega)).trans ((HZ.out.bl.mono (by omega)).trans ((H7.out.mono (by omega)).trans (H8.out.mono (by omega))))))))⟩
end Go.Proofs.Ytmlimefpmldlbaa
