/- Walks: the text of a tube, by the reference and by the program. No condition but strconv's table. -/
import Derived.Test.YtpgmkkepbnonmaaDoorDecimals
import Derived.Test.YtpgmkkepbnonmaaDoorTubeBase
import Derived.Deep.RegionHeld3
import Derived.Deep.RegionWith
import Derived.Deep.DrawnRows
namespace Go.Proofs.YtpgmkkepbnonmaaDoor
open Go.RowKit
set_option maxRecDepth 20000
attribute [local go_sem ↓] Go.wp_at_zero Go.wp_at_succ

def endS (b : Bool) : ByteArray := if b then ⟨#[99, 108, 111, 115, 101, 100]⟩ else ⟨#[111, 112, 101, 110]⟩
theorem endS_size (b : Bool) : (endS b).size ≤ 6 := by cases b <;> decide
def tubeT (n r c : Int) (b t : Bool) : ByteArray := ((((((((⟨#[116, 117, 98, 101, 32]⟩ : ByteArray) ++ dec n) ++ (⟨#[32]⟩ : ByteArray)) ++ dec r) ++ (⟨#[32]⟩ : ByteArray)) ++ dec c) ++ (⟨#[32]⟩ : ByteArray)) ++ endS b) ++ (⟨#[32]⟩ : ByteArray) ++ endS t
def tubeS (n r c : Int) (b t : Bool) : ByteArray := if tubeB n r c then tubeT n r c b t else ⟨#[]⟩
theorem tubeS_no {n r c : Int} {b t : Bool} (h : tubeB n r c = false) : tubeS n r c b t = ⟨#[]⟩ := by unfold tubeS; rw [if_neg (by simp [h])]
theorem tubeS_yes {n r c : Int} {b t : Bool} (h : tubeB n r c = true) : tubeS n r c b t = tubeT n r c b t := by unfold tubeS; rw [if_pos h]
def three (n r c : Int) (j : Nat) : Int := if j = 0 then n else if j = 1 then r else c
theorem decs3 (n r c : Int) : decsS (three n r c) 3 = (dec n ++ (⟨#[32]⟩ : ByteArray) ++ dec r ++ (⟨#[32]⟩ : ByteArray) ++ dec c) := by
  apply ByteArray.ext
  apply Array.toList_inj.1
  have e : (List.range 3).map (fun j => (dec (three n r c j)).data.toList) = [(dec n).data.toList, (dec r).data.toList, (dec c).data.toList] := rfl
  unfold decsS
  rw [e, Lib.join_cons]
  simp [Lib.joinTail]
theorem tubeT_decs (n r c : Int) (b t : Bool) : ((⟨#[116, 117, 98, 101, 32]⟩ : ByteArray) ++ decsS (three n r c) 3) ++ (⟨#[32]⟩ : ByteArray) ++ endS b ++ (⟨#[32]⟩ : ByteArray) ++ endS t = tubeT n r c b t := by
  rw [decs3]
  unfold tubeT
  simp only [ByteArray.append_assoc]
theorem l28Word_any (b : Bool) (w : World) : Calls Tryd.prog 34 #[.bool b] w fun e w' => e = .returned (.string (endS b)) ∧ w = w' := by
  cases b
  all_goals
    go_enter Tryd.func34, Tryd.ntmps34
    go_wp2
    go_ret
    exact ⟨rfl, rfl⟩
theorem endText_any (b : Bool) (w : World) : Calls Tryd.prog 38 #[.bool b] w fun e w' => e = .returned (.string (endS b)) ∧ w = w' := by
  cases b
  all_goals
    go_enter Tryd.func38, Tryd.ntmps38
    go_wp2
    go_ret
    exact ⟨rfl, rfl⟩
def TextQ (w : World) (s : ByteArray) (e : Ending) (w' : World) : Prop := e = .returned (.string s) ∧ Below w.heap.size w w'
theorem tubeB_parts {n r c : Int} (h : tubeB n r c = true) : decB n ∧ decB r ∧ decB c := by
  simp only [tubeB, Bool.and_eq_true] at h
  have h1 := inB_true h.1.1
  have h2 := inB_true h.1.2
  have h3 := inB_true h.2
  unfold decB
  omega

set_option maxHeartbeats 2000000 in
theorem specTubeText_any (n r c : Int) (b t : Bool) (w : World) : Calls Tryd.prog 21 #[.agg #[.int .i64 n, .int .i64 r, .int .i64 c, .bool b, .bool t]] w (TextQ w (tubeS n r c b t)) := by
  have hx0 : ∀ q, (w.alloc (.cells #[.int .i64 n, .int .i64 r, .int .i64 c, .bool b, .bool t] 29)).cell? ⟨w.heap.size, q, none⟩ = (#[.int .i64 n, .int .i64 r, .int .i64 c, .bool b, .bool t] : Array Value)[q]? := box_new w _ _
  have BX := Lib.hid hx0
  have HW : Hid (Below w.heap.size w (w.alloc (.cells #[.int .i64 n, .int .i64 r, .int .i64 c, .bool b, .bool t] 29))) := (Below.refl _ _).alloc (Nat.le_refl _) _
  cases hv : tubeB n r c
  · have HV := Lib.hid hv
    clear hv
    go_enter Tryd.func21, Tryd.ntmps21
    go_wp2_with fail
    refine (l28Ok_any w.heap.size n r c _ (hx0 0) (hx0 1) (hx0 2)).mono ?_
    rintro e w' ⟨rfl, rfl⟩
    rw [HV.out]
    go_wp2
    go_ret
    exact ⟨by rw [tubeS_no HV.out]; rfl, HW.out⟩
  · obtain ⟨hn, hr, hc⟩ := tubeB_parts hv
    have HV := Lib.hid hv
    have hdn := dec_size n hn.1 hn.2
    have hdr := dec_size r hr.1 hr.2
    have hdc := dec_size c hc.1 hc.2
    have hb6 := endS_size b
    have ht6 := endS_size t
    have hq0 : ¬ 9223372036854775807 < 5 + (dec n).size := by omega
    have hq1 : ¬ 9223372036854775807 < 5 + (dec n).size + 1 := by omega
    have hq2 : ¬ 9223372036854775807 < 5 + (dec n).size + 1 + (dec r).size := by omega
    have hq3 : ¬ 9223372036854775807 < 5 + (dec n).size + 1 + (dec r).size + 1 := by omega
    have hq4 : ¬ 9223372036854775807 < 5 + (dec n).size + 1 + (dec r).size + 1 + (dec c).size := by omega
    have hq5 : ¬ 9223372036854775807 < 5 + (dec n).size + 1 + (dec r).size + 1 + (dec c).size + 1 := by omega
    have hq6 : ¬ 9223372036854775807 < 5 + (dec n).size + 1 + (dec r).size + 1 + (dec c).size + 1 + (endS b).size := by omega
    have hq7 : ¬ 9223372036854775807 < 5 + (dec n).size + 1 + (dec r).size + 1 + (dec c).size + 1 + (endS b).size + 1 := by omega
    have hq8 : ¬ 9223372036854775807 < 5 + (dec n).size + 1 + (dec r).size + 1 + (dec c).size + 1 + (endS b).size + 1 + (endS t).size := by omega
    have HN := Lib.hid hn
    have HR := Lib.hid hr
    have HC := Lib.hid hc
    clear hv hn hr hc
    go_enter Tryd.func21, Tryd.ntmps21
    go_wp2_with fail
    refine (l28Ok_any w.heap.size n r c _ (hx0 0) (hx0 1) (hx0 2)).mono ?_
    rintro e w' ⟨rfl, rfl⟩
    rw [HV.out]
    go_wp2_with fail
    go_region_held3 (fun w' => ∀ q, w'.cell? ⟨w.heap.size, q, none⟩ = (#[.int .i64 n, .int .i64 r, .int .i64 c, .bool b, .bool t] : Array Value)[q]?) (go_keep) (first
      | (go_at_call_of 27 (Value.int .i64 n); refine (l01Dec_any n HN.out.1 HN.out.2 _).mono ?_; rintro e w1 ⟨rfl, hb1⟩; have HB1 : Hid (Below (w.heap.size + 1) (w.alloc (.cells #[.int .i64 n, .int .i64 r, .int .i64 c, .bool b, .bool t] 29)) w1) := Lib.hid (((Below.refl _ _).drew).trans (hb1.mono (by simp))); clear hb1; have kx1 : ∀ q, w1.cell? ⟨w.heap.size, q, none⟩ = (#[.int .i64 n, .int .i64 r, .int .i64 c, .bool b, .bool t] : Array Value)[q]? := (fun q => ((bcell HB1.out).1 _ q (by simp)).trans (BX.out q)))
      | (go_at_call_of 27 (Value.int .i64 r); refine (l01Dec_any r HR.out.1 HR.out.2 _).mono ?_; rintro e w2 ⟨rfl, hb2⟩; have HB2 : Hid (Below (w.heap.size + 1) (w.alloc (.cells #[.int .i64 n, .int .i64 r, .int .i64 c, .bool b, .bool t] 29)) w2) := Lib.hid (HB1.out.trans (hb2.mono (by have := HB1.out.size; simp at this; omega))); clear hb2; have kx2 : ∀ q, w2.cell? ⟨w.heap.size, q, none⟩ = (#[.int .i64 n, .int .i64 r, .int .i64 c, .bool b, .bool t] : Array Value)[q]? := (fun q => ((bcell HB2.out).1 _ q (by simp)).trans (BX.out q)))
      | (go_at_call_of 27 (Value.int .i64 c); refine (l01Dec_any c HC.out.1 HC.out.2 _).mono ?_; rintro e w3 ⟨rfl, hb3⟩; have HB3 : Hid (Below (w.heap.size + 1) (w.alloc (.cells #[.int .i64 n, .int .i64 r, .int .i64 c, .bool b, .bool t] 29)) w3) := Lib.hid (HB2.out.trans (hb3.mono (by have := HB2.out.size; simp at this; omega))); clear hb3; have kx3 : ∀ q, w3.cell? ⟨w.heap.size, q, none⟩ = (#[.int .i64 n, .int .i64 r, .int .i64 c, .bool b, .bool t] : Array Value)[q]? := (fun q => ((bcell HB3.out).1 _ q (by simp)).trans (BX.out q)))
      | (go_at_call 34; refine (l28Word_any _ _).mono ?_; rintro e w' ⟨rfl, rfl⟩))
    rename_i hHeld
    clear hHeld
    go_wp2
    go_ret
    exact ⟨by rw [tubeS_yes HV.out]; rfl, HW.out.trans (HB3.out.mono (by omega))⟩

set_option maxHeartbeats 2000000 in
theorem tubeText_any (n r c : Int) (b t : Bool) (w : World) (hv : tubeB n r c = true) (htab : Tab w) : Calls Tryd.prog 25 #[.agg #[.int .i64 n, .int .i64 r, .int .i64 c, .bool b, .bool t]] w (TextQ w (tubeT n r c b t)) := by
  have hx0 : ∀ q, (w.alloc (.cells #[.int .i64 n, .int .i64 r, .int .i64 c, .bool b, .bool t] 29)).cell? ⟨w.heap.size, q, none⟩ = (#[.int .i64 n, .int .i64 r, .int .i64 c, .bool b, .bool t] : Array Value)[q]? := box_new w _ _
  have BX := Lib.hid hx0
  have HW : Hid (Below w.heap.size w (w.alloc (.cells #[.int .i64 n, .int .i64 r, .int .i64 c, .bool b, .bool t] 29))) := (Below.refl _ _).alloc (Nat.le_refl _) _
  have HTB := Lib.hid (htab.below HW.out)
  obtain ⟨hn, hr, hc⟩ := tubeB_parts hv
  have hz3 : ∀ j, j < 3 → decB (three n r c j) := fun j hj => by
    unfold three
    split
    · exact hn
    · split
      · exact hr
      · exact hc
  have hds := decsS_size (three n r c) 3 hz3
  have HZ := Lib.hid hz3
  have hb6 := endS_size b
  have ht6 := endS_size t
  have hq0 : ¬ 9223372036854775807 < 5 + (decsS (three n r c) 3).size := by omega
  have hq1 : ¬ 9223372036854775807 < 5 + (decsS (three n r c) 3).size + 1 := by omega
  have hq2 : ¬ 9223372036854775807 < 5 + (decsS (three n r c) 3).size + 1 + (endS b).size := by omega
  have hq3 : ¬ 9223372036854775807 < 5 + (decsS (three n r c) 3).size + 1 + (endS b).size + 1 := by omega
  have hq4 : ¬ 9223372036854775807 < 5 + (decsS (three n r c) 3).size + 1 + (endS b).size + 1 + (endS t).size := by omega
  have HR3 : Hid (Rd ((w.alloc (.cells #[.int .i64 n, .int .i64 r, .int .i64 c, .bool b, .bool t] 29)).alloc (.cells #[.int .i64 n, .int .i64 r, .int .i64 c] 2)).drew (some ⟨w.heap.size + 1, 0, none⟩) 3 (fun j => .int .i64 (three n r c j))) := fun _ => ⟨w.heap.size + 1, 0, rfl, by simp, fun j hj => by
    have hc : ((w.alloc (.cells #[.int .i64 n, .int .i64 r, .int .i64 c, .bool b, .bool t] 29)).alloc (.cells #[.int .i64 n, .int .i64 r, .int .i64 c] 2)).cell? ⟨w.heap.size + 1, 0 + j, none⟩ = (#[.int .i64 n, .int .i64 r, .int .i64 c] : Array Value)[0 + j]? := cell_alloc_at (by simp) _
    refine Eq.trans (show ((w.alloc (.cells #[.int .i64 n, .int .i64 r, .int .i64 c, .bool b, .bool t] 29)).alloc (.cells #[.int .i64 n, .int .i64 r, .int .i64 c] 2)).drew.cell? ⟨w.heap.size + 1, 0 + j, none⟩ = _ from hc) ?_
    have h3 : j = 0 ∨ j = 1 ∨ j = 2 := by omega
    rcases h3 with rfl | rfl | rfl <;> rfl⟩
  have HTB2 := Lib.hid (htab.below (((Below.refl _ _).alloc (Nat.le_refl _) _).alloc (by simp) _).drew : Tab ((w.alloc (.cells #[.int .i64 n, .int .i64 r, .int .i64 c, .bool b, .bool t] 29)).alloc (.cells #[.int .i64 n, .int .i64 r, .int .i64 c] 2)).drew)
  clear hv hn hr hc hz3 htab
  go_enter Tryd.func25, Tryd.ntmps25
  go_wp2_with fail
  go_region_held3 (fun w' => w'.cell? ⟨w.heap.size, 0, none⟩ = some (.int .i64 n) ∧ w'.cell? ⟨w.heap.size, 1, none⟩ = some (.int .i64 r) ∧ w'.cell? ⟨w.heap.size, 2, none⟩ = some (.int .i64 c) ∧ w'.cell? ⟨w.heap.size, 3, none⟩ = some (.bool b) ∧ w'.cell? ⟨w.heap.size, 4, none⟩ = some (.bool t)) (go_keep) (first
    | (go_at_call 37; refine (decimals_any (some ⟨w.heap.size + 1, 0, none⟩) 3 3 (three n r c) _ HR3.out (by omega) HZ.out HTB2.out).mono ?_; rintro e w1 ⟨rfl, hb1⟩; have HB1 := Lib.hid hb1; have kx1 := fun q => (bcell hb1).1 w.heap.size q (by simp; omega); clear hb1)
    | (go_at_call 38; refine (endText_any _ _).mono ?_; rintro e w' ⟨rfl, rfl⟩))
  rename_i hHeld
  clear hHeld
  go_wp2
  go_ret
  exact ⟨by rw [← tubeT_decs]; rfl, ((((Below.refl _ _).alloc (Nat.le_refl _) _).alloc (by simp) _).drew).trans (HB1.out.mono (by simp; omega))⟩

end Go.Proofs.YtpgmkkepbnonmaaDoor
