/- Walks: whether a state is valid, by the reference and by the program. No condition but the bounds. -/
import Derived.Test.YtpgmkkepbnonmaaGreatDoorOpsOkSA
import Derived.Test.YtpgmkkepbnonmaaGreatDoorChartH
import Derived.Test.YtpgmkkepbnonmaaGreatDoorBraidOk
import Derived.Test.YtpgmkkepbnonmaaGreatDoorStudioLaw
import Derived.RegionTactic
namespace Go.Proofs.YtpgmkkepbnonmaaGreatDoor
open Go.RowKit
set_option maxRecDepth 20000

/-- A state is valid. -/
def studioB (x : Int) (n : Nat) (d c : Nat → Int) (ns : Nat → Nat) (z : Nat → Nat → Int) (m : Nat) (o : Nat → Int) (s : Int) (l : Nat) (b : Nat → Int) : Bool :=
  inB x 1 8 && ((decide (n = 0) || chartB x n d c ns z) && (progB 24 o m && braidB s l b))
theorem specValidChart_any (cols : Int) (A : Option Addr) (n q : Nat) (d c : Nat → Int) (As : Nat → Option Addr) (ns cs : Nat → Nat) (z : Nat → Nat → Int) (w : World) (ha : RdRows A n d c As ns cs z w) (hn : n ≤ 1048576) (hns : ∀ j, j < n → ns j ≤ 1048576) :
    Calls Tryz.prog 27 #[.agg #[.int .i64 cols, .slice A n q]] w fun e w' => e = .returned (.bool (chartB cols n d c ns z)) ∧ Below w.heap.size w w' := by
  have hL := (Below.refl w.heap.size w).alloc (Nat.le_refl _) (.cells #[.int .i64 cols, .slice A n q] 62)
  have HL := Lib.hid hL
  have hbx := box_new w #[.int .i64 cols, .slice A n q] 62
  have HAT := Lib.hid (show ChartAt (w.alloc (.cells #[.int .i64 cols, .slice A n q] 62)) w.heap.size 0 cols A n q from ⟨hbx 0, hbx 1⟩)
  have HA := Lib.hid ((rdRows_obj A n d c As ns cs z).below ha hL)
  have HNS := Lib.hid hns
  clear ha hL hbx hns
  go_enter Tryz.func27, Tryz.ntmps27
  go_wp2_with fail
  refine (l15Ok_any w.heap.size 0 cols A n q d c As ns cs z _ HAT HA.out hn HNS.out).mono ?_
  rintro e w1 ⟨rfl, hb1⟩
  have HB1 := Lib.hid (HL.out.trans (hb1.mono HL.out.size))
  clear hb1
  go_wp2_with fail
  go_ret
  exact ⟨rfl, HB1.out⟩
theorem l31Chart_b (g : Nat) (x : Int) (A : Option Addr) (n q : Nat) (w : World) (h0 : w.cell? ⟨g, 0, none⟩ = some (.int .i64 x)) (h1 : w.cell? ⟨g, 1, none⟩ = some (.slice A n q)) :
    Calls Tryz.prog 28 #[.pointer (some ⟨g, 0, none⟩)] w fun e w' => e = .returned (.agg #[.int .i64 x, .slice A n q]) ∧ Below w.heap.size w w' := by
  have hg := World.block_lt_of_cell? w _ h0
  have k0 := (World.cell?_alloc_lt w (.cells #[.int .i64 0, .slice none 0 0] 62) ⟨g, 0, none⟩ hg).trans h0
  have k1 := (World.cell?_alloc_lt w (.cells #[.int .i64 0, .slice none 0 0] 62) ⟨g, 1, none⟩ hg).trans h1
  go_enter Tryz.func28, Tryz.ntmps28
  go_wp2_with fail
  go_region
  all_goals
    go_wp2
    refine bodyPost_ret (v := .agg #[.int .i64 x, .slice A n q]) (by simp [results, Tryz.results28, go_sem]) rfl ⟨rfl, ?_⟩
    (repeat' first | with_reducible exact Below.refl _ _ | with_reducible refine Below.alloc ?_ ?_ _ | with_reducible refine Below.setCell ?_ ?_ _ | with_reducible refine Below.drew ?_ | with_reducible refine Below.drewN' ?_ _ | with_reducible (refine Below.trans ?_ (Below.mono (by assumption) ?_)) | exact Nat.le_refl _ | (simp; done) | (simp; omega) | omega)
theorem chart_b (x s : Int) (A O B : Option Addr) (n q m p l t : Nat) (w : World) :
    Calls Tryz.prog 36 #[.agg #[.int .i64 x, .slice A n q, .slice O m p, .int .i64 s, .slice B l t]] w fun e w' => e = .returned (.agg #[.int .i64 x, .slice A n q]) ∧ Below w.heap.size w w' := by
  go_enter Tryz.func36, Tryz.ntmps36
  go_wp2
  refine bodyPost_ret (v := .agg #[.int .i64 x, .slice A n q]) (by simp [results, Tryz.results36, go_sem]) rfl ⟨rfl, ?_⟩
  (repeat' first | with_reducible exact Below.refl _ _ | with_reducible refine Below.alloc ?_ ?_ _ | with_reducible refine Below.setCell ?_ ?_ _ | with_reducible refine Below.drew ?_ | with_reducible refine Below.drewN' ?_ _ | with_reducible (refine Below.trans ?_ (Below.mono (by assumption) ?_)) | exact Nat.le_refl _ | (simp; done) | (simp; omega) | omega)
set_option maxHeartbeats 1000000 in
theorem l03Ok_at (g o : Nat) (s : Int) (A : Option Addr) (n c : Nat) (z : Nat → Int) (w : World) (h0 : w.cell? ⟨g, o, none⟩ = some (.int .i64 s)) (h1 : w.cell? ⟨g, o + 1, none⟩ = some (.slice A n c)) (ha : Rd w A n (fun j => .int .i64 (z j))) (hn : n ≤ 1048576) :
    Calls Tryz.prog 30 #[.pointer (some ⟨g, o, none⟩)] w fun e w' => e = .returned (.bool (braidB s n z)) ∧ ∃ q, w' = w.drewN q := by
  have HA := Lib.hid ha
  clear ha
  cases hin : inB s 0 12
  · have hI : ∀ w', Calls Tryz.prog 26 #[.int .i64 s, .int .i64 0, .int .i64 12] w' fun e w'' => e = .returned (.bool false) ∧ w'' = w' := fun w' => (l00In_any s 0 12 w').mono fun _ _ h => ⟨h.1.trans (by rw [hin]), h.2.symm⟩
    have HIN := Lib.hid hin
    clear hin
    go_enter Tryz.func30, Tryz.ntmps30
    go_wp2_with fail
    go_quiet ((go_at_call 26; exact Calls.quiet_of_same (hI _)))
    go_wp2
    go_ret
    exact ⟨by simp [braidB, HIN.out], _, rfl⟩
  · have hI : ∀ w', Calls Tryz.prog 26 #[.int .i64 s, .int .i64 0, .int .i64 12] w' fun e w'' => e = .returned (.bool true) ∧ w'' = w' := fun w' => (l00In_any s 0 12 w').mono fun _ _ h => ⟨h.1.trans (by rw [hin]), h.2.symm⟩
    have hb := inB_true hin
    have HIN := Lib.hid hin
    clear hin
    by_cases hle : n ≤ 40
    · have hL : ∀ q, Calls Tryz.prog 46 #[.slice A n c, .int .i64 s] (w.drewN q) fun e w'' => e = .returned (.bool (lettersB s z n)) ∧ w'' = w.drewN q := fun q => (l03Letters_any A n c s z _ (HA.out.drewN q) hn hb.1 (by omega)).mono fun _ _ h => ⟨h.1, h.2.symm⟩
      have hle' : decide ((n : Int) ≤ 40) = true := by simp; omega
      go_enter Tryz.func30, Tryz.ntmps30
      go_wp2_with fail
      go_quiet (first | (go_at_call 26; exact Calls.quiet_of_same (hI _)) | (go_at_call 46; exact Calls.quiet_of_same (hL _)))
      go_wp2
      go_ret
      exact ⟨by simp [braidB, HIN.out, hle], _, rfl⟩
    · have hle' : decide ((n : Int) ≤ 40) = false := by simp; omega
      go_enter Tryz.func30, Tryz.ntmps30
      go_wp2_with fail
      go_quiet ((go_at_call 26; exact Calls.quiet_of_same (hI _)))
      go_wp2
      go_ret
      exact ⟨by simp [braidB, HIN.out, hle], _, rfl⟩

section
variable (x s : Int) (A O B : Option Addr) (n q m p l t : Nat) (d c : Nat → Int) (As : Nat → Option Addr) (ns cs : Nat → Nat) (z : Nat → Nat → Int) (o b : Nat → Int)
theorem studioB_false1 (h : inB x 1 8 = false) : studioB x n d c ns z m o s l b = false := by simp [studioB, h]
theorem studioB_false2 (h0 : ¬ n = 0) (h : chartB x n d c ns z = false) : studioB x n d c ns z m o s l b = false := by simp [studioB, h0, h]
theorem studioB_false3 (h : progB 24 o m = false) : studioB x n d c ns z m o s l b = false := by simp [studioB, h]
theorem studioB_last (h1 : inB x 1 8 = true) (h2 : n = 0 ∨ chartB x n d c ns z = true) (h3 : progB 24 o m = true) : studioB x n d c ns z m o s l b = braidB s l b := by
  rcases h2 with h2 | h2 <;> simp [studioB, h1, h2, h3]
set_option maxHeartbeats 4000000 in
theorem l31Ok_any (g : Nat) (ty : TypeId) (w : World) (H : Hid (Blk w g ty #[.int .i64 x, .slice A n q, .slice O m p, .int .i64 s, .slice B l t])) (ha : RdStudio A O B n m l d c As ns cs z o b w) (hn : n ≤ 1048576) (hns : ∀ j, j < n → ns j ≤ 1048576) (hm : m ≤ 1048576) (hl : l ≤ 1048576) :
    Calls Tryz.prog 12 #[.pointer (some ⟨g, 0, none⟩)] w fun e w' => e = .returned (.bool (studioB x n d c ns z m o s l b)) ∧ Below w.heap.size w w' := by
  have HA := Lib.hid ha
  have LA := Lib.hid (rdStudio_obj A O B n m l d c As ns cs z o b)
  have HNS := Lib.hid hns
  have hg := H.out.lt
  have x0 := fun i => H.out.cell i
  clear ha hns
  cases hI : inB x 1 8
  · have HF := Lib.hid (studioB_false1 x s n m l d c ns z o b hI)
    go_enter Tryz.func12, Tryz.ntmps12
    go_wp2_with ((go_at_call 26; refine (l00In_any _ _ _ _).mono ?_; rintro e w' ⟨rfl, rfl⟩))
    go_ret
    exact ⟨by rw [HF.out]; rfl, Below.refl _ _⟩
  · have HI := Lib.hid hI
    by_cases h0 : n = 0
    · subst h0
      go_enter Tryz.func12, Tryz.ntmps12
      go_wp2_with ((go_at_call 26; refine (l00In_any _ _ _ _).mono ?_; rintro e w' ⟨rfl, rfl⟩))
      refine (l07Ops_any 24 O m p o _ HA.out.2.1 hm).mono ?_
      rintro e w2 ⟨rfl, hb2⟩
      have HB2 := Lib.hid hb2
      cases hP : progB 24 o m
      · have HF := Lib.hid (studioB_false3 x s 0 m l d c ns z o b hP)
        clear hb2
        go_wp2_with fail
        go_ret
        exact ⟨by rw [HF.out]; rfl, HB2.out⟩
      · have HF := Lib.hid (studioB_last x s 0 m l d c ns z o b HI.out (.inl rfl) hP)
        have x2 := fun i => (H.out.below hb2 hg).cell i
        have h3 : w2.cell? ⟨g, 3, none⟩ = some (.int .i64 s) := x2 3
        have h4 : w2.cell? ⟨g, 3 + 1, none⟩ = some (.slice B l t) := x2 4
        clear hb2
        go_wp2_with fail
        refine (l03Ok_at g 3 s B l t b _ h3 h4 (LA.out.below HA.out HB2.out).2.2 hl).mono ?_
        rintro e w3 ⟨rfl, k3, rfl⟩
        go_wp2_with fail
        go_ret
        exact ⟨by rw [HF.out]; rfl, Below.drewN' HB2.out _⟩
    · have hpos : (0 : Int) < (n : Int) := by omega
      go_enter Tryz.func12, Tryz.ntmps12
      go_wp2_with ((go_at_call 26; refine (l00In_any _ _ _ _).mono ?_; rintro e w' ⟨rfl, rfl⟩))
      refine (l31Chart_b g x A n q _ (x0 0) (x0 1)).mono ?_
      rintro e w1 ⟨rfl, hb1⟩
      have HB1 := Lib.hid hb1
      have H1 := Lib.hid (H.out.below hb1 hg)
      have hg1 := H1.out.lt
      clear hb1
      go_wp2_with fail
      refine (specValidChart_any x A n q d c As ns cs z _ (LA.out.below HA.out HB1.out).1 hn HNS.out).mono ?_
      rintro e w2 ⟨rfl, hb2⟩
      have HB2 := Lib.hid (HB1.out.trans (hb2.mono HB1.out.size))
      have x2 := fun i => (H1.out.below hb2 hg1).cell i
      have H2 := Lib.hid (H1.out.below hb2 hg1)
      have hg2 := H2.out.lt
      clear hb2
      cases hC : chartB x n d c ns z
      · have HF := Lib.hid (studioB_false2 x s n m l d c ns z o b h0 hC)
        go_wp2_with fail
        go_ret
        exact ⟨by rw [HF.out]; rfl, HB2.out⟩
      · have HC := Lib.hid hC
        go_wp2_with fail
        refine (l07Ops_any 24 O m p o _ (LA.out.below HA.out HB2.out).2.1 hm).mono ?_
        rintro e w3 ⟨rfl, hb3⟩
        have HB3 := Lib.hid (HB2.out.trans (hb3.mono HB2.out.size))
        cases hP : progB 24 o m
        · have HF := Lib.hid (studioB_false3 x s n m l d c ns z o b hP)
          clear hb3
          go_wp2_with fail
          go_ret
          exact ⟨by rw [HF.out]; rfl, HB3.out⟩
        · have HF := Lib.hid (studioB_last x s n m l d c ns z o b HI.out (.inr HC.out) hP)
          have x3 := fun i => (H2.out.below hb3 hg2).cell i
          have h3 : w3.cell? ⟨g, 3, none⟩ = some (.int .i64 s) := x3 3
          have h4 : w3.cell? ⟨g, 3 + 1, none⟩ = some (.slice B l t) := x3 4
          clear hb3 x2
          go_wp2_with fail
          refine (l03Ok_at g 3 s B l t b _ h3 h4 (LA.out.below HA.out HB3.out).2.2 hl).mono ?_
          rintro e w4 ⟨rfl, k4, rfl⟩
          go_wp2_with fail
          go_ret
          exact ⟨by rw [HF.out]; rfl, Below.drewN' HB3.out _⟩
set_option maxHeartbeats 4000000 in
theorem implValidStudio_any (w : World) (ha : RdStudio A O B n m l d c As ns cs z o b w) (hn : n ≤ 1048576) (hns : ∀ j, j < n → ns j ≤ 1048576) (hm : m ≤ 1048576) (hl : l ≤ 1048576) :
    Calls Tryz.prog 18 #[.agg #[.int .i64 x, .slice A n q, .slice O m p, .int .i64 s, .slice B l t]] w fun e w' => e = .returned (.bool (studioB x n d c ns z m o s l b)) ∧ Below w.heap.size w w' := by
  have hL := (Below.refl w.heap.size w).alloc (Nat.le_refl _) (.cells #[.int .i64 x, .slice A n q, .slice O m p, .int .i64 s, .slice B l t] 35)
  have HL := Lib.hid hL
  have H := Lib.hid (Blk.at_ w 35 #[.int .i64 x, .slice A n q, .slice O m p, .int .i64 s, .slice B l t] rfl)
  have HA := Lib.hid ((rdStudio_obj A O B n m l d c As ns cs z o b).below ha hL)
  have LA := Lib.hid (rdStudio_obj A O B n m l d c As ns cs z o b)
  have HNS := Lib.hid hns
  have hg := H.out.lt
  clear ha hL hns
  cases hI : inB x 1 8
  · have HF := Lib.hid (studioB_false1 x s n m l d c ns z o b hI)
    go_enter Tryz.func18, Tryz.ntmps18
    go_wp2_with ((go_at_call 34; refine (within_any _ _ _ _).mono ?_; rintro e w' ⟨rfl, rfl⟩))
    go_ret
    exact ⟨by rw [HF.out]; rfl, HL.out⟩
  · have HI := Lib.hid hI
    by_cases h0 : n = 0
    · subst h0
      go_enter Tryz.func18, Tryz.ntmps18
      go_wp2_with ((go_at_call 34; refine (within_any _ _ _ _).mono ?_; rintro e w' ⟨rfl, rfl⟩))
      refine (validFor_any 24 O m p o _ HA.out.2.1 hm).mono ?_
      rintro e w2 ⟨rfl, hb2⟩
      have HB2 := Lib.hid (HL.out.trans (hb2.mono HL.out.size))
      cases hP : progB 24 o m
      · have HF := Lib.hid (studioB_false3 x s 0 m l d c ns z o b hP)
        clear hb2
        go_wp2_with fail
        go_ret
        exact ⟨by rw [HF.out]; rfl, HB2.out⟩
      · have HF := Lib.hid (studioB_last x s 0 m l d c ns z o b HI.out (.inl rfl) hP)
        have x2 := fun i => (H.out.below hb2 hg).cell i
        have HA2 := Lib.hid (LA.out.below HA.out hb2)
        clear hb2
        go_wp2_with fail
        refine (validBraid_any s B l t b _ HA2.out.2.2 hl).mono ?_
        rintro e w3 ⟨rfl, hb3⟩
        have HB3 := Lib.hid (HB2.out.trans (hb3.mono HB2.out.size))
        clear hb3
        go_wp2_with fail
        go_ret
        exact ⟨by rw [HF.out]; rfl, HB3.out⟩
    · have hz : ((n : Int) == 0) = false := by simp; omega
      go_enter Tryz.func18, Tryz.ntmps18
      go_wp2_with ((go_at_call 34; refine (within_any _ _ _ _).mono ?_; rintro e w' ⟨rfl, rfl⟩))
      refine (chart_b x s A O B n q m p l t _).mono ?_
      rintro e w1 ⟨rfl, hb1⟩
      have HB1 := Lib.hid (HL.out.trans (hb1.mono HL.out.size))
      have H1 := Lib.hid (H.out.below hb1 hg)
      have hg1 := H1.out.lt
      have HA1 := Lib.hid (LA.out.below HA.out hb1)
      clear hb1
      go_wp2_with fail
      refine (implValidChart_any x A n q d c As ns cs z _ HA1.out.1 hn HNS.out).mono ?_
      rintro e w2 ⟨rfl, hb2⟩
      have HB2 := Lib.hid (HB1.out.trans (hb2.mono HB1.out.size))
      have x2 := fun i => (H1.out.below hb2 hg1).cell i
      have H2 := Lib.hid (H1.out.below hb2 hg1)
      have hg2 := H2.out.lt
      have HA2 := Lib.hid (LA.out.below HA1.out hb2)
      clear hb2
      cases hC : chartB x n d c ns z
      · have HF := Lib.hid (studioB_false2 x s n m l d c ns z o b h0 hC)
        go_wp2_with fail
        go_ret
        exact ⟨by rw [HF.out]; rfl, HB2.out⟩
      · have HC := Lib.hid hC
        go_wp2_with fail
        refine (validFor_any 24 O m p o _ HA2.out.2.1 hm).mono ?_
        rintro e w3 ⟨rfl, hb3⟩
        have HB3 := Lib.hid (HB2.out.trans (hb3.mono HB2.out.size))
        cases hP : progB 24 o m
        · have HF := Lib.hid (studioB_false3 x s n m l d c ns z o b hP)
          clear hb3
          go_wp2_with fail
          go_ret
          exact ⟨by rw [HF.out]; rfl, HB3.out⟩
        · have HF := Lib.hid (studioB_last x s n m l d c ns z o b HI.out (.inr HC.out) hP)
          have x3 := fun i => (H2.out.below hb3 hg2).cell i
          have HA3 := Lib.hid (LA.out.below HA2.out hb3)
          clear hb3 x2
          go_wp2_with fail
          refine (validBraid_any s B l t b _ HA3.out.2.2 hl).mono ?_
          rintro e w4 ⟨rfl, hb4⟩
          have HB4 := Lib.hid (HB3.out.trans (hb4.mono HB3.out.size))
          clear hb4
          go_wp2_with fail
          go_ret
          exact ⟨by rw [HF.out]; rfl, HB4.out⟩
end
end Go.Proofs.YtpgmkkepbnonmaaGreatDoor
