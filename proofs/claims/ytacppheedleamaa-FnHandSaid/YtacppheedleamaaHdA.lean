/- Walks: what the law on hand knitting calls: the number of strands, lists of numbers compared, sizes, a row knitted from sizes. No condition but the bounds. -/
import Derived.Test.YtacppheedleamaaHdP
import Derived.Test.YtacppheedleamaaHkY
import Derived.Test.YtacppheedleamaaSeE
import Derived.Test.YtacppheedleamaaCastOn
import Derived.Test.YtacppheedleamaaDrK
set_option linter.unusedVariables false
set_option linter.unusedSimpArgs false
namespace Go.Proofs.Ytacppheedleamaa
open Go.RowKit
set_option maxRecDepth 100000

theorem specStrandsOf_any (A : Option Addr) (n c : Nat) (z : Nat → Int) (m : Int) (w : World) (ha : Rd w A (n * 6) (fun j => .int .i64 (z j))) (hn : n ≤ 1048576) (hc : cntO z n = some m) :
    Calls Try.prog 10 #[.slice A n c] w fun e w' => e = .returned (.tuple #[.int .i64 m, .int .i64 0]) ∧ ∃ q, w' = w.drewN q := by
  have HC := Lib.hid (l10CountV_any A n c z w ha hn)
  rw [hc] at HC
  clear ha hc
  go_enter Try.func10, Try.ntmps10
  go_wp2_with fail
  refine HC.out.mono ?_
  rintro e w1 ⟨v, rfl, hv, q, rfl⟩
  obtain rfl := hv m rfl
  have hs : (some v).isSome = true := rfl
  rw [hs]
  go_wp2_with fail
  go_ret2
  exact ⟨rfl, _, rfl⟩
set_option maxHeartbeats 1000000 in
theorem b10Nums_any (A A' : Option Addr) (n c c' : Nat) (f : Nat → Int) (w : World) (ha : Rd w A n (fun j => .int .i64 (f j))) (hb : Rd w A' n (fun j => .int .i64 (f j))) (hn : n ≤ 1048576) :
    Calls Try.prog 14 #[.slice A n c, .slice A' n c'] w fun e w' => e = .returned (.bool true) ∧ Below w.heap.size w w' := by
  have HA := Lib.hid ha
  have HB := Lib.hid hb
  clear ha hb
  go_enter Try.func14, Try.ntmps14
  go_wp2_with fail
  go_loopg [5] n (fun gh i wr => ∃ k : Nat, i = .int .i64 k ∧ gh + k = n ∧ Hid (Below w.heap.size w wr))
  case atStart => exact ⟨0, rfl, rfl, Lib.hid (Below.refl _ _)⟩
  case round =>
    obtain ⟨k, rfl, hgk, HW⟩ := hrel
    by_cases hlt : k < n
    · have l1 : (k : Int) < (n : Int) := by omega
      have l0 : (0 : Int) ≤ (k : Int) := by omega
      obtain ⟨g, o, rfl, hg, hr⟩ := (HA.out.below HW.out) (by omega)
      obtain ⟨g', o', rfl, hg', hr'⟩ := (HB.out.below HW.out) (by omega)
      have h1 := hr k hlt
      have h2 := hr' k hlt
      obtain ⟨x, hx⟩ : ∃ x, x = f k := ⟨_, rfl⟩
      simp only [← hx] at h1 h2
      clear hr hr' hx
      go_wp2_with fail
      go_quiet (fail)
      have HE := Lib.hid (Below.drewN' HW.out nq)
      go_wp2_with fail
      go_roundg (gk - 1)
      case measure => omega
      case rel => exact ⟨k + 1, i64c (by omega), by omega, HE⟩
    · obtain rfl : k = n := by omega
      go_wp2_with fail
      go_ret
      exact ⟨rfl, HW.out⟩
theorem implValidSizes_any (A : Option Addr) (n c : Nat) (s : Nat → Int) (w : World) (ha : Rd w A n (fun j => .int .i64 (s j))) (hn : 1 ≤ n) (hs : stacksB s n = true) (h12 : sumR s 0 n ≤ 12) :
    Calls Try.prog 38 #[.slice A n c] w fun e w' => e = .returned (.bool true) ∧ w = w' := by
  obtain ⟨hn8, hsk⟩ := stacksB_of hs
  have HS := Lib.hid hs
  have HAS := Lib.hid (areStacks_any A n c s w ha (by omega))
  rw [hs] at HAS
  have HSU := Lib.hid (sumOf_any A n c s w ha (by omega) fun j hj => by have := hsk j hj; omega)
  obtain ⟨q, hq⟩ : ∃ q, q = sumR s 0 n := ⟨_, rfl⟩
  rw [← hq] at HSU h12
  have l1 : (1 : Int) ≤ (n : Int) := by omega
  clear hs hsk ha hq
  go_enter Try.func38, Try.ntmps38
  go_wp2_with (first | (go_at_call 62; refine HAS.out.mono ?_; rintro e w' ⟨rfl, rfl⟩) | (go_at_call 63; refine HSU.out.mono ?_; rintro e w' ⟨rfl, rfl⟩))
  go_ret
  exact ⟨rfl, rfl⟩
set_option maxHeartbeats 4000000 in
theorem implHandRow_any (d c : Int) (A : Option Addr) (m qq : Nat) (z s : Nat → Int) (gs os n cs : Nat) (w : World) (hz : Rd w A m (fun j => .int .i64 (z j))) (hs : Rd w (some ⟨gs, os, none⟩) n (fun j => .int .i64 (s j))) (hcs : n ≤ cs) (hcm : cs ≤ maxLen) (hn : 0 < n) (hd : dirB d = true) (hc : inB c 1 4 = true) (hsa : saC s n z m = 0) (hk : keepB s n z m d m = true) (h12 : sumR s 0 n ≤ 12) :
    Calls Try.prog 13 #[.agg #[.int .i64 d, .int .i64 c, .slice A m qq], .slice (some ⟨gs, os, none⟩) n cs] w (RowC (rowE s z c d m m) (aft s z m) w) := by
  obtain ⟨q1, q2, q3, q4, _⟩ := saC_zero hsa
  have hm16 := (stitchesB_of q2).1
  have HB0 := Lib.hid ((Below.refl w.heap.size w).alloc (Nat.le_refl _) (.cells #[.int .i64 d, .int .i64 c, .slice A m qq] 40))
  have HX := Lib.hid (box_new w #[.int .i64 d, .int .i64 c, .slice A m qq] 40)
  have HVR := Lib.hid (implValidRow_any d c A m qq z _ (hz.below HB0.out) (by omega))
  rw [hd, hc, q2] at HVR
  have HZ := Lib.hid (hz.below HB0.out)
  have HS := Lib.hid (hs.below HB0.out)
  have HP := Lib.hid (show 1 ≤ n ∧ stacksB s n = true ∧ sumR s 0 n ≤ 12 from ⟨hn, q1, h12⟩)
  have HKR := Lib.hid (fun W hz' hs' => knitRow_any d c A m qq z s gs os n cs W hz' hs' hcs hcm hn hd hsa hk)
  have hlx : w.heap.size < (w.alloc (.cells #[.int .i64 d, .int .i64 c, .slice A m qq] 40)).heap.size := by simp
  clear hz hs hd hc hsa hk h12 q1 q2 q3 q4 hcs hcm
  go_enter Try.func13, Try.ntmps13
  go_upto_region 1 with fail
  obtain ⟨w1, hw1⟩ : ∃ x, x = w.alloc (.cells #[.int .i64 d, .int .i64 c, .slice A m qq] 40) := ⟨_, rfl⟩
  rw [← hw1] at HB0 HX HVR HZ HS hlx ⊢
  clear hw1
  have x0 : w1.cell? ⟨w.heap.size, 0, none⟩ = some (.int .i64 d) := HX.out 0
  have x1 : w1.cell? ⟨w.heap.size, 1, none⟩ = some (.int .i64 c) := HX.out 1
  have x2 : w1.cell? ⟨w.heap.size, 2, none⟩ = some (.slice A m qq) := HX.out 2
  go_wp2_with (first
    | (go_at_call 37; refine HVR.out.mono ?_; rintro e w2 ⟨he, hb2⟩; obtain rfl : e = .returned (.bool true) := he; have HB2 := Lib.hid hb2; have y0 := at_below hb2 hlx x0; have y1 := at_below hb2 hlx x1; have y2 := at_below hb2 hlx x2; clear hb2)
    | (go_at_call 38; refine (implValidSizes_any _ n cs s _ (HS.out.below HB2.out) HP.out.1 HP.out.2.1 HP.out.2.2).mono ?_; rintro e w3 ⟨rfl, rfl⟩))
  refine (HKR.out w2 (HZ.out.below HB2.out) (HS.out.below HB2.out)).mono ?_
  rintro e w3 ⟨ev, af, nE, rfl, ho, ha, hb⟩
  obtain ⟨Ae, ce, rfl⟩ := own_form ho
  obtain ⟨Aa, ca, rfl⟩ := own_form ha
  have HB3 := Lib.hid (HB0.out.trans (HB2.out.mono (Nat.le_of_lt hlx)))
  have HR := Lib.hid (show RowC (rowE s z c d m m) (aft s z m) w (.returned (.tuple #[.slice Ae nE ce, .slice Aa (aft s z m).length ca, .int .i64 0])) w3 from ⟨_, _, nE, rfl, own_base ho HB3.out.size, own_base ha HB3.out.size, HB3.out.trans (hb.mono HB3.out.size)⟩)
  clear ho ha hb
  go_wp2_with fail
  exact bodyPost_ret (v := .tuple #[.slice Ae nE ce, .slice Aa (aft s z m).length ca, .int .i64 0]) (by simp [results, Try.results13, go_sem]) rfl HR.out
end Go.Proofs.Ytacppheedleamaa
