/- Walks: the text of a fault, by the reference and by the program. No condition but strconv's table. -/
import Derived.Test.YtpgmkkepbnonmaaDoorDecI
import Derived.Test.YtpgmkkepbnonmaaDoorBounds
import Derived.Deep.RegionHeld3
import Derived.Deep.RegionWith
import Derived.Deep.DrawnRows
namespace Go.Proofs.YtpgmkkepbnonmaaDoor
open Go.RowKit
set_option maxRecDepth 20000
attribute [local go_sem ↓] Go.wp_at_zero Go.wp_at_succ

def faultWord (k : Nat) : ByteArray := if k = 1 then ⟨#[109, 105, 115, 115, 101, 100]⟩ else if k = 2 then ⟨#[108, 111, 115, 116]⟩ else if k = 3 then ⟨#[98, 114, 111, 107, 101, 110]⟩ else ⟨#[114, 97, 99, 107]⟩
def faultB (k a : Int) : Bool := inB k 1 4 && inB a 0 1499
def faultS (k a : Int) : ByteArray := if faultB k a then faultWord k.toNat ++ ⟨#[32]⟩ ++ dec a else ⟨#[]⟩
theorem faultS_no {k a : Int} (h : faultB k a = false) : faultS k a = ⟨#[]⟩ := by unfold faultS; rw [if_neg (by simp [h])]
theorem faultS_yes {k a : Int} (h : faultB k a = true) : faultS k a = faultWord k.toNat ++ ⟨#[32]⟩ ++ dec a := by unfold faultS; rw [if_pos h]
def WORDS : Array Value := #[.string ⟨#[]⟩, .string ⟨#[109, 105, 115, 115, 101, 100]⟩, .string ⟨#[108, 111, 115, 116]⟩, .string ⟨#[98, 114, 111, 107, 101, 110]⟩, .string ⟨#[114, 97, 99, 107]⟩]
/-- The words of faults, in a new block. -/
def WordsP (w : World) (e : Ending) (w' : World) : Prop := ∃ g, e = .returned (.slice (some ⟨g, 0, none⟩) 5 5) ∧ w.heap.size ≤ g ∧ g < w'.heap.size ∧ (∀ K, 1 ≤ K → K ≤ 4 → w'.cell? ⟨g, K, none⟩ = some (.string (faultWord K))) ∧ Below w.heap.size w w'
theorem l29Words_any (w : World) : Calls Tryd.prog 12 #[] w (WordsP w) := by
  go_enter Tryd.func12, Tryd.ntmps12
  go_wp2
  go_ret
  refine ⟨w.heap.size, rfl, Nat.le_refl _, by simp, fun K h1 h2 => ?_, by (repeat' first | with_reducible exact Below.refl _ _ | with_reducible refine Below.alloc ?_ ?_ _ | with_reducible refine Below.setCell ?_ ?_ _ | with_reducible refine Below.drew ?_ | with_reducible refine Below.drewN' ?_ _ | with_reducible (refine Below.trans ?_ (Below.mono (by assumption) ?_)) | exact Nat.le_refl _ | (simp; done) | (simp; omega) | omega)⟩
  have hK : K = 1 ∨ K = 2 ∨ K = 3 ∨ K = 4 := by omega
  rcases hK with rfl | rfl | rfl | rfl <;> exact (cell_alloc_at rfl _).trans rfl
theorem faultWords_any (w : World) : Calls Tryd.prog 18 #[] w (WordsP w) := by
  go_enter Tryd.func18, Tryd.ntmps18
  go_wp2
  go_ret
  refine ⟨w.heap.size, rfl, Nat.le_refl _, by simp, fun K h1 h2 => ?_, by (repeat' first | with_reducible exact Below.refl _ _ | with_reducible refine Below.alloc ?_ ?_ _ | with_reducible refine Below.setCell ?_ ?_ _ | with_reducible refine Below.drew ?_ | with_reducible refine Below.drewN' ?_ _ | with_reducible (refine Below.trans ?_ (Below.mono (by assumption) ?_)) | exact Nat.le_refl _ | (simp; done) | (simp; omega) | omega)⟩
  have hK : K = 1 ∨ K = 2 ∨ K = 3 ∨ K = 4 := by omega
  rcases hK with rfl | rfl | rfl | rfl <;> exact (cell_alloc_at rfl _).trans rfl
theorem Tab.drewN {w : World} (h : Tab w) (n : Nat) : Tab (w.drewN n) := h
theorem faultWord_size (K : Nat) : (faultWord K).size ≤ 10 := by
  unfold faultWord
  repeat' split
  all_goals decide
def TextP (w : World) (s : ByteArray) (e : Ending) (w' : World) : Prop := e = .returned (.string s) ∧ Below w.heap.size w w'

set_option maxHeartbeats 1000000 in
theorem specFaultText_any (k a : Int) (w : World) : Calls Tryd.prog 14 #[.agg #[.int .i64 k, .int .i64 a]] w (TextP w (faultS k a)) := by
  cases hk : inB k 1 4
  · have HF := Lib.hid (faultS_no (k := k) (a := a) (by simp [faultB, hk]))
    have HK := Lib.hid hk
    clear hk
    go_enter Tryd.func14, Tryd.ntmps14
    go_wp2_with ((go_at_call 28; refine (l00In_any _ _ _ _).mono ?_; rintro e w' ⟨rfl, rfl⟩; rw [HK.out]))
    go_ret
    exact ⟨by rw [HF.out]; rfl, by (repeat' first | with_reducible exact Below.refl _ _ | with_reducible refine Below.alloc ?_ ?_ _ | with_reducible refine Below.setCell ?_ ?_ _ | with_reducible refine Below.drew ?_ | with_reducible refine Below.drewN' ?_ _ | with_reducible (refine Below.trans ?_ (Below.mono (by assumption) ?_)) | exact Nat.le_refl _ | (simp; done) | (simp; omega) | omega)⟩
  · cases ha : inB a 0 1499
    · have HF := Lib.hid (faultS_no (k := k) (a := a) (by simp [faultB, ha]))
      have HK := Lib.hid hk
      have HA := Lib.hid ha
      clear hk ha
      go_enter Tryd.func14, Tryd.ntmps14
      go_wp2_with ((go_at_call 28; refine (l00In_any _ _ _ _).mono ?_; rintro e w' ⟨rfl, rfl⟩; rw [show inB _ _ _ = _ from (by first | exact HK.out | exact HA.out)]))
      go_ret
      exact ⟨by rw [HF.out]; rfl, by (repeat' first | with_reducible exact Below.refl _ _ | with_reducible refine Below.alloc ?_ ?_ _ | with_reducible refine Below.setCell ?_ ?_ _ | with_reducible refine Below.drew ?_ | with_reducible refine Below.drewN' ?_ _ | with_reducible (refine Below.trans ?_ (Below.mono (by assumption) ?_)) | exact Nat.le_refl _ | (simp; done) | (simp; omega) | omega)⟩
    · have HF := Lib.hid (faultS_yes (k := k) (a := a) (by simp [faultB, ha, hk]))
      have hk' := inB_true hk
      have ha' := inB_true ha
      have HK := Lib.hid hk
      have HA := Lib.hid ha
      clear hk ha
      have hds : (dec a).size ≤ 20 := dec_size a (by omega) (by omega)
      obtain ⟨K, rfl⟩ : ∃ K : Nat, k = K := ⟨k.toNat, by omega⟩
      have hws := faultWord_size K
      have k1 : 1 ≤ K := by omega
      have k2 : (K : Int) < 5 := by omega
      have k3 : (0 : Int) ≤ (K : Int) := by omega
      go_enter Tryd.func14, Tryd.ntmps14
      go_wp2_with ((go_at_call 28; refine (l00In_any _ _ _ _).mono ?_; rintro e w' ⟨rfl, rfl⟩; rw [show inB _ _ _ = _ from (by first | exact HK.out | exact HA.out)]))
      go_region_with (first
        | (go_at_call 12; refine (l29Words_any _).mono ?_; rintro e w1 ⟨gw, rfl, hg1, hg2, hcw, hb1⟩; replace hcw := hcw K k1 (by omega); have kx1 := fun o => (bcell hb1).1 w.heap.size o (by first | (simp; done) | omega); have hz1 : w.heap.size < w1.heap.size := blt hb1 (by first | (simp; done) | omega); have HB1 := Lib.hid hb1; clear hb1)
        | (go_at_call 27; refine (l01Dec_any a (by omega) (by omega) _).mono ?_; rintro e w2 ⟨rfl, hb2⟩; have kx2 := fun o => (bcell hb2).1 w.heap.size o (by first | (simp; done) | omega); have hz2 : w.heap.size < w2.heap.size := blt hb2 (by first | (simp; done) | omega); (first | (have kw2 := (bcell hb2).1 gw K hg2) | skip); have HB2 := Lib.hid hb2; clear hb2))
      all_goals
        go_wp2
        go_ret
        exact ⟨by rw [HF.out]; rfl, ((((Below.refl _ _).alloc (Nat.le_refl _) _).drew).trans (HB1.out.mono (by simp))).trans (HB2.out.mono (by omega))⟩

set_option maxHeartbeats 1000000 in
theorem faultText_any (k a : Int) (w : World) (hf : faultB k a = true) (ht : Tab w) : Calls Tryd.prog 20 #[.agg #[.int .i64 k, .int .i64 a]] w (TextP w (faultS k a)) := by
  have HF := Lib.hid (faultS_yes hf)
  simp only [faultB, Bool.and_eq_true] at hf
  have hk' := inB_true hf.1
  have ha' := inB_true hf.2
  have HT := Lib.hid (ht.below ((Below.refl _ _).alloc (Nat.le_refl _) (.cells #[.int .i64 k, .int .i64 a] 23)))
  clear ht hf
  have hds : (dec a).size ≤ 20 := dec_size a (by omega) (by omega)
  obtain ⟨K, rfl⟩ : ∃ K : Nat, k = K := ⟨k.toNat, by omega⟩
  have hws := faultWord_size K
  have k1 : 1 ≤ K := by omega
  have k2 : (K : Int) < 5 := by omega
  have k3 : (0 : Int) ≤ (K : Int) := by omega
  go_enter Tryd.func20, Tryd.ntmps20
  go_wp2_with fail
  go_region_with (first
    | (go_at_call 18; refine (faultWords_any _).mono ?_; rintro e w1 ⟨gw, rfl, hg1, hg2, hcw, hb1⟩; replace hcw := hcw K k1 (by omega); have kx1 := fun o => (bcell hb1).1 w.heap.size o (by first | (simp; done) | omega); have hz1 : w.heap.size < w1.heap.size := blt hb1 (by first | (simp; done) | omega); have HT1 := Lib.hid (Tab.below (HT.out.drewN 1) hb1); have HB1 := Lib.hid hb1; clear hb1)
    | (go_at_call 31; refine (Decimal_any a (by omega) (by omega) _ (by first | exact HT1.out | exact (HT.out.drewN 1))).mono ?_; rintro e w2 ⟨rfl, hb2⟩; have kx2 := fun o => (bcell hb2).1 w.heap.size o (by first | (simp; done) | omega); have hz2 : w.heap.size < w2.heap.size := blt hb2 (by first | (simp; done) | omega); (first | (have kw2 := (bcell hb2).1 gw K hg2) | skip); have HB2 := Lib.hid hb2; clear hb2))
  all_goals
    go_wp2
    go_ret
    exact ⟨by rw [HF.out]; rfl, ((((Below.refl _ _).alloc (Nat.le_refl _) _).drew).trans (HB1.out.mono (by simp))).trans (HB2.out.mono (by omega))⟩

set_option maxHeartbeats 400000 in
theorem isFault_any (k a : Int) (w : World) : Calls Tryd.prog 19 #[.agg #[.int .i64 k, .int .i64 a]] w fun e w' => e = .returned (.bool (faultB k a)) ∧ Below w.heap.size w w' := by
  cases hk : inB k 1 4
  · have HK := Lib.hid hk
    clear hk
    go_enter Tryd.func19, Tryd.ntmps19
    go_wp2_with ((go_at_call 32; refine (within_any _ _ _ _).mono ?_; rintro e w' ⟨rfl, rfl⟩; rw [HK.out]))
    go_ret
    exact ⟨by unfold faultB; rw [HK.out]; rfl, by (repeat' first | with_reducible exact Below.refl _ _ | with_reducible refine Below.alloc ?_ ?_ _ | with_reducible refine Below.setCell ?_ ?_ _ | with_reducible refine Below.drew ?_ | with_reducible refine Below.drewN' ?_ _ | with_reducible (refine Below.trans ?_ (Below.mono (by assumption) ?_)) | exact Nat.le_refl _ | (simp; done) | (simp; omega) | omega)⟩
  · have HK := Lib.hid hk
    clear hk
    have hA : ∀ w', Calls Tryd.prog 32 #[.int .i64 a, .int .i64 0, .int .i64 1499] w' fun e w'' => e = .returned (.bool (faultB k a)) ∧ w' = w'' := fun w' => (within_any a 0 1499 w').mono fun _ _ h => ⟨by rw [h.1]; unfold faultB; rw [HK.out, Bool.true_and], h.2⟩
    go_enter Tryd.func19, Tryd.ntmps19
    go_wp2_with (first
      | (go_at_call_of 32 (Value.int .i64 a); refine (hA _).mono ?_; rintro e w' ⟨rfl, rfl⟩)
      | (go_at_call 32; refine (within_any _ _ _ _).mono ?_; rintro e w' ⟨rfl, rfl⟩; rw [HK.out]))
    go_ret
    exact ⟨rfl, by (repeat' first | with_reducible exact Below.refl _ _ | with_reducible refine Below.alloc ?_ ?_ _ | with_reducible refine Below.setCell ?_ ?_ _ | with_reducible refine Below.drew ?_ | with_reducible refine Below.drewN' ?_ _ | with_reducible (refine Below.trans ?_ (Below.mono (by assumption) ?_)) | exact Nat.le_refl _ | (simp; done) | (simp; omega) | omega)⟩
end Go.Proofs.YtpgmkkepbnonmaaDoor
