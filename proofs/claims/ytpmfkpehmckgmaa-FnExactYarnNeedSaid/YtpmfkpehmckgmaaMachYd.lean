/- Walks: both YarnNeed. No condition but the bounds. -/
import Derived.Test.YtpmfkpehmckgmaaMachCo
namespace Go.Proofs.Ytpmfkpehmckgmaa
open Go.RowKit
set_option maxRecDepth 20000

/-- The answer: yarn and code. -/
def ynR (W : Int) (z : Nat → Int) (n : Nat) (car : Int) : Int × Int :=
  if codeOf W z n = 0 then (if inB car 1 4 = true then (yAt W.toNat z n (car - 1).toNat, 0) else (0, 2)) else (0, codeOf W z n)
def YnP (w : World) (r : Int × Int) (e : Ending) (w' : World) : Prop := e = .returned (.tuple #[.int .i64 r.1, .int .i64 r.2]) ∧ Below w.heap.size w w'
section
variable (W : Int) (A : Option Addr) (n q : Nat) (z : Nat → Int) (car : Int) (w : World)
set_option maxHeartbeats 2000000 in
theorem specYarnNeed_any (ha : Rd w A (n * 8) (fun j => .int .i64 (z j))) (hn : n ≤ 1048576) : Calls Try.prog 31 #[.int .i64 W, .slice A n q, .int .i64 car] w (YnP w (ynR W z n car)) := by
  have hr := l27Run_any W A n q z w ha hn
  clear ha
  by_cases hc : codeOf W z n = 0
  · have HC := Lib.hid hc
    obtain ⟨W, rfl, hW1, hW2, hn15, hops, hok⟩ := codeOf_ok hc
    have HX := Lib.hid (show ynR (W : Int) z n car = (if inB car 1 4 = true then (yAt W z n (car - 1).toNat, 0) else (0, 2)) from (if_pos hc).trans (by rw [Int.toNat_natCast]))
    have HR := Lib.hid hr
    clear hc hr hops hok
    cases hb : inB car 1 4
    · have HX2 := Lib.hid (HX.out.trans (if_neg (by rw [hb]; decide)))
      have HIN := Lib.hid hb
      clear hb
      go_enter Try.func31, Try.ntmps31
      go_wp2_with fail
      refine HR.out.mono ?_
      intro e w1 hq
      obtain ⟨g, rfl, hg, hbk, hb1⟩ := hq.2 HC.out
      have HB1 := Lib.hid hb1
      clear hb1 hq hbk hg
      go_wp2_with fail
      refine (l07Yarn_any car w1).mono ?_
      rintro e w2 ⟨rfl, rfl⟩
      rw [HIN.out]
      go_wp2_with fail
      refine bodyPost_ret (v := .tuple #[.int .i64 0, .int .i64 2]) (by simp [results, Try.results31, go_sem]) rfl ?_
      exact ⟨by rw [HX2.out], HB1.out⟩
    · have HX2 := Lib.hid (HX.out.trans (if_pos hb))
      have hcb := inB_true hb
      have HIN := Lib.hid hb
      obtain ⟨j, rfl⟩ : ∃ j : Nat, car = (j : Int) + 1 := ⟨(car - 1).toNat, by omega⟩
      have hj : j < 4 := by omega
      have hj0 : (0 : Int) ≤ j := by omega
      have hj4 : (j : Int) < 4 := by omega
      have hwj : IntKind.i64.wrap (j : Int) = j := by rw [IntKind.wrap_i64]; omega
      have HJ := Lib.hid (show ((j : Int) + 1 - 1).toNat = j by omega)
      clear hb hcb
      go_enter Try.func31, Try.ntmps31
      go_wp2_with fail
      refine HR.out.mono ?_
      intro e w1 hq
      obtain ⟨g, rfl, hg, hbk, hb1⟩ := hq.2 HC.out
      rw [Int.toNat_natCast] at hbk
      have k0 : w1.cell? ⟨g, j, none⟩ = some (.int .i64 (yAt W z n j)) := (hbk.cell j).trans (yCells_at W z n hj)
      have HB1 := Lib.hid hb1
      clear hb1 hq hbk hg
      go_wp2_with fail
      refine (l07Yarn_any ((j : Int) + 1) w1).mono ?_
      rintro e w2 ⟨rfl, rfl⟩
      rw [HIN.out]
      go_wp2_with fail
      refine bodyPost_ret (v := .tuple #[.int .i64 (yAt W z n j), .int .i64 0]) (by simp [results, Try.results31, go_sem]) rfl ?_
      exact ⟨by rw [HX2.out, HJ.out], HB1.out⟩
  · have HX := Lib.hid (show ynR W z n car = (0, codeOf W z n) from if_neg hc)
    have HR := Lib.hid (hr.mono fun e w' h => h.1 hc)
    obtain ⟨cd, hcd⟩ : ∃ x, x = codeOf W z n := ⟨_, rfl⟩
    rw [← hcd] at HR hc HX
    have hc1 : (cd == 0) = false := by simpa using hc
    clear hc hr hcd
    go_enter Try.func31, Try.ntmps31
    go_wp2_with fail
    refine HR.out.mono ?_
    rintro e w1 ⟨rfl, hb1⟩
    have HB1 := Lib.hid hb1
    clear hb1
    go_wp2_with fail
    refine bodyPost_ret (v := .tuple #[.int .i64 0, .int .i64 cd]) (by simp [results, Try.results31, go_sem]) rfl ?_
    exact ⟨by rw [HX.out], HB1.out⟩
set_option maxHeartbeats 2000000 in
theorem implYarnNeed_any (ha : Rd w A (n * 8) (fun j => .int .i64 (z j))) (hn : n ≤ 1048576) : Calls Try.prog 32 #[.int .i64 W, .slice A n q, .int .i64 car] w (YnP w (ynR W z n car)) := by
  have hr := runCode_any W A n q z w ha hn
  have HA := Lib.hid ha
  clear ha
  by_cases hc : codeOf W z n = 0
  · obtain ⟨W, rfl, hW1, hW2, hn15, hops, hok⟩ := codeOf_ok hc
    have HX := Lib.hid (show ynR (W : Int) z n car = (if inB car 1 4 = true then (yAt W z n (car - 1).toNat, 0) else (0, 2)) from (if_pos hc).trans (by rw [Int.toNat_natCast]))
    rw [hc] at hr
    have HR := Lib.hid hr
    have HOPS := Lib.hid hops
    have HOK := Lib.hid hok
    clear hc hr hops hok
    cases hb : inB car 1 4
    · have HX2 := Lib.hid (HX.out.trans (if_neg (by rw [hb]; decide)))
      have HIN := Lib.hid hb
      clear hb
      go_enter Try.func32, Try.ntmps32
      go_wp2_with fail
      refine HR.out.mono ?_
      rintro e w1 ⟨rfl, hb1⟩
      have HB1 := Lib.hid hb1
      clear hb1
      go_wp2_with fail
      refine (isCarrier_any car w1).mono ?_
      rintro e w2 ⟨rfl, rfl⟩
      rw [HIN.out]
      go_wp2_with fail
      refine bodyPost_ret (v := .tuple #[.int .i64 0, .int .i64 2]) (by simp [results, Try.results32, go_sem]) rfl ?_
      exact ⟨by rw [HX2.out], HB1.out⟩
    · have HX2 := Lib.hid (HX.out.trans (if_pos hb))
      have hcb := inB_true hb
      have HIN := Lib.hid hb
      obtain ⟨j, rfl⟩ : ∃ j : Nat, car = (j : Int) + 1 := ⟨(car - 1).toNat, by omega⟩
      have hj : j < 4 := by omega
      have hj0 : (0 : Int) ≤ j := by omega
      have hj4 : (j : Int) < 4 := by omega
      have hwj : IntKind.i64.wrap (j : Int) = j := by rw [IntKind.wrap_i64]; omega
      have HJ := Lib.hid (show ((j : Int) + 1 - 1).toNat = j by omega)
      clear hb hcb
      go_enter Try.func32, Try.ntmps32
      go_wp2_with fail
      refine HR.out.mono ?_
      rintro e w1 ⟨rfl, hb1⟩
      have HB1 := Lib.hid hb1
      clear hb1
      go_wp2_with fail
      refine (isCarrier_any ((j : Int) + 1) w1).mono ?_
      rintro e w2 ⟨rfl, rfl⟩
      rw [HIN.out]
      go_wp2_with fail
      refine (costsOf_any W A n q z w1 (HA.out.below HB1.out) hW1 hW2 hn15 HOPS.out HOK.out).mono ?_
      rintro e w3 ⟨gy, rfl, hg, hbk, hb3⟩
      unfold cCells
      have hfl : ∀ (a0 a1 a2 a3 a4 : Int) (g : Nat) (w : World), (Instr.field 79 (.agg #[.int .i64 a0, .int .i64 a1, .int .i64 a2, .int .i64 a3, .int .i64 a4, .slice (some ⟨g, 0, none⟩) 4 4]) 5).run Try.prog w = .ok (.slice (some ⟨g, 0, none⟩) 4 4) w := fun _ _ _ _ _ _ _ => by first | kernel_rfl | rfl
      have k0 : w3.cell? ⟨gy, j, none⟩ = some (.int .i64 (yAt W z n j)) := (hbk.cell j).trans (yCells_at W z n hj)
      have HB3 := Lib.hid (HB1.out.trans (hb3.mono HB1.out.size))
      clear hb3 hbk hg
      go_wp2_with fail
      refine bodyPost_ret (v := .tuple #[.int .i64 (yAt W z n j), .int .i64 0]) (by simp [results, Try.results32, go_sem]) rfl ?_
      exact ⟨by rw [HX2.out, HJ.out], HB3.out⟩
  · have HX := Lib.hid (show ynR W z n car = (0, codeOf W z n) from if_neg hc)
    obtain ⟨cd, hcd⟩ : ∃ x, x = codeOf W z n := ⟨_, rfl⟩
    rw [← hcd] at hr hc HX
    have hc1 : (cd == 0) = false := by simpa using hc
    have HR := Lib.hid hr
    clear hc hr hcd
    go_enter Try.func32, Try.ntmps32
    go_wp2_with fail
    refine HR.out.mono ?_
    rintro e w1 ⟨rfl, hb1⟩
    have HB1 := Lib.hid hb1
    clear hb1
    go_wp2_with fail
    refine bodyPost_ret (v := .tuple #[.int .i64 0, .int .i64 cd]) (by simp [results, Try.results32, go_sem]) rfl ?_
    exact ⟨by rw [HX.out], HB1.out⟩
end
end Go.Proofs.Ytpmfkpehmckgmaa
