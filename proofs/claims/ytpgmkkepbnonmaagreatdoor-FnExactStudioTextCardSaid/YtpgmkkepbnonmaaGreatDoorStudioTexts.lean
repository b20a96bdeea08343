/- Walks: the text of a braid and of a state, by the reference and by the program. No condition but the bounds and strconv's table. (Printed by wip/stgen.py.) -/
import Derived.Test.YtpgmkkepbnonmaaGreatDoorDecI
import Derived.Test.YtpgmkkepbnonmaaGreatDoorValidStudios
import Derived.Deep.RegionHeld3
import Derived.Deep.RegionWith
import Derived.Deep.DrawnRows
namespace Go.Proofs.YtpgmkkepbnonmaaGreatDoor
open Go.RowKit
set_option maxRecDepth 20000
attribute [local go_sem ↓] Go.wp_at_zero Go.wp_at_succ

def TextR (w : World) (s : ByteArray) (e : Ending) (w' : World) : Prop := e = .returned (.string s) ∧ Below w.heap.size w w'
def i64B (n : Int) : Prop := -9223372036854775808 ≤ n ∧ n ≤ 9223372036854775807
/-- The text of a braid up to its first j letters. -/
def brTo (s : Int) (z : Nat → Int) : Nat → ByteArray
  | 0 => dec s ++ (⟨#[58]⟩ : ByteArray)
  | j + 1 => brTo s z j ++ ((⟨#[32]⟩ : ByteArray) ++ dec (z j))
theorem brTo_zero (s : Int) (z : Nat → Int) : brTo s z 0 = dec s ++ (⟨#[58]⟩ : ByteArray) := rfl
theorem brTo_next (s : Int) (z : Nat → Int) (j : Nat) : brTo s z (j + 1) = brTo s z j ++ ((⟨#[32]⟩ : ByteArray) ++ dec (z j)) := rfl
theorem brTo_size {s : Int} {z : Nat → Int} (hs : i64B s) : ∀ {n : Nat}, (∀ j, j < n → i64B (z j)) → (brTo s z n).size ≤ 21 + 21 * n := by
  intro n
  induction n with
  | zero =>
    intro _
    have h := dec_size s hs.1 hs.2
    rw [brTo_zero]
    simp only [ByteArray.size_append]
    have : (⟨#[58]⟩ : ByteArray).size = 1 := rfl
    omega
  | succ n ih =>
    intro hz
    have h1 := ih fun j hj => hz j (by omega)
    have hn := hz n (by omega)
    have h := dec_size (z n) hn.1 hn.2
    rw [brTo_next]
    simp only [ByteArray.size_append]
    have : (⟨#[32]⟩ : ByteArray).size = 1 := rfl
    omega
theorem braidB_i64 {s : Int} {n : Nat} {z : Nat → Int} (h : braidB s n z = true) : i64B s ∧ n ≤ 40 ∧ ∀ j, j < n → i64B (z j) := by
  simp only [braidB, Bool.and_eq_true, decide_eq_true_eq] at h
  have h1 := inB_true h.1.1
  unfold i64B
  refine ⟨by omega, h.1.2, fun j hj => ?_⟩
  have := lettersB_all h.2 j hj
  omega
/-- The text of a state. -/
def studioT (x : Int) (n m : Nat) (s : Int) (l : Nat) (b : Nat → Int) : ByteArray :=
  (((((((⟨#[99, 111, 108, 117, 109, 110, 115, 32]⟩ : ByteArray) ++ dec x) ++ (⟨#[32, 114, 111, 119, 115, 32]⟩ : ByteArray)) ++ dec (n : Int)) ++ (⟨#[32, 111, 112, 115, 32]⟩ : ByteArray)) ++ dec (m : Int)) ++ (⟨#[32, 98, 114, 97, 105, 100, 32]⟩ : ByteArray)) ++ brTo s b l
def studioS (x : Int) (n : Nat) (d c : Nat → Int) (ns : Nat → Nat) (z : Nat → Nat → Int) (m : Nat) (o : Nat → Int) (s : Int) (l : Nat) (b : Nat → Int) : ByteArray :=
  if studioB x n d c ns z m o s l b then studioT x n m s l b else ⟨#[]⟩
theorem studioS_no {x : Int} {n : Nat} {d c : Nat → Int} {ns : Nat → Nat} {z : Nat → Nat → Int} {m : Nat} {o : Nat → Int} {s : Int} {l : Nat} {b : Nat → Int} (h : studioB x n d c ns z m o s l b = false) : studioS x n d c ns z m o s l b = ⟨#[]⟩ := by unfold studioS; rw [if_neg (by simp [h])]
theorem studioS_yes {x : Int} {n : Nat} {d c : Nat → Int} {ns : Nat → Nat} {z : Nat → Nat → Int} {m : Nat} {o : Nat → Int} {s : Int} {l : Nat} {b : Nat → Int} (h : studioB x n d c ns z m o s l b = true) : studioS x n d c ns z m o s l b = studioT x n m s l b := by unfold studioS; rw [if_pos h]
theorem studioB_parts {x : Int} {n : Nat} {d c : Nat → Int} {ns : Nat → Nat} {z : Nat → Nat → Int} {m : Nat} {o : Nat → Int} {s : Int} {l : Nat} {b : Nat → Int} (h : studioB x n d c ns z m o s l b = true) : i64B x ∧ i64B s ∧ l ≤ 40 ∧ ∀ j, j < l → i64B (b j) := by
  simp only [studioB, Bool.and_eq_true] at h
  have h1 := inB_true h.1
  have h2 := braidB_i64 h.2.2.2
  exact ⟨by unfold i64B; omega, h2.1, h2.2.1, h2.2.2⟩

set_option maxHeartbeats 2000000 in
theorem l03Text_any (g o : Nat) (s : Int) (A : Option Addr) (n c : Nat) (z : Nat → Int) (w : World) (h0 : w.cell? ⟨g, o, none⟩ = some (.int .i64 s)) (h1 : w.cell? ⟨g, o + 1, none⟩ = some (.slice A n c)) (ha : Rd w A n (fun j => .int .i64 (z j))) (hn : n ≤ 1048576) (hs : i64B s) (hz : ∀ j, j < n → i64B (z j)) :
    Calls Tryz.prog 14 #[.pointer (some ⟨g, o, none⟩)] w (TextR w (brTo s z n)) := by
  have HA := Lib.hid ha
  have HZ := Lib.hid hz
  have HGW := Lib.hid (World.block_lt_of_cell? w _ h0)
  have HC0 := Lib.hid h0
  have HC1 := Lib.hid h1
  have hds := dec_size s hs.1 hs.2
  have hq0 : ¬ 9223372036854775807 < (dec s).size + 1 := by omega
  have HSB := Lib.hid hs
  clear ha hz hs h1
  go_enter Tryz.func14, Tryz.ntmps14
  go_wp2_with fail
  refine (l01Dec_any s HSB.out.1 HSB.out.2 _).mono ?_
  rintro e w1 ⟨rfl, hb1⟩
  have HB1 := Lib.hid hb1
  clear hb1 h0
  go_wp2_with fail
  clear hq0
  go_loopw [3, 4] (fun a i wr => ∃ (j : Nat) (u : ByteArray), j ≤ n ∧ i = .int .i64 j ∧ a = .string u ∧ Hid (u = brTo s z j) ∧ u.size ≤ 21 + 21 * j ∧ Below w.heap.size w wr) (fun a i _ => n - (intOf i).toNat)
  case atStart => exact ⟨0, _, Nat.zero_le _, rfl, rfl, rfl, by have := hds; simp only [ByteArray.size_append]; have : (⟨#[58]⟩ : ByteArray).size = 1 := rfl; omega, HB1.out⟩
  case round =>
    obtain ⟨j, u, hj, rfl, rfl, HS, hu, hb⟩ := hrel
    have HB := Lib.hid hb
    have hg := HGW.out
    have h0 := ((bcell HB.out).1 _ _ hg).trans HC0.out
    have h1 := ((bcell HB.out).1 _ _ hg).trans HC1.out
    clear hb
    by_cases hlt : j < n
    · obtain ⟨ga, a0, rfl, hga, hra⟩ := HA.out (by omega)
      have hcw := ((bcell HB.out).1 _ _ hga).trans (hra j hlt)
      clear hra
      obtain ⟨y, hy⟩ : ∃ y, y = z j := ⟨_, rfl⟩
      have hyb := HZ.out j hlt
      simp only [← hy] at hcw hyb
      have HY := Lib.hid hy
      have hdy := dec_size y hyb.1 hyb.2
      have HYB := Lib.hid hyb
      clear hy hyb
      have b1 : (0 : Int) ≤ (j : Int) := by omega
      have b2 : (j : Int) < (n : Int) := by omega
      go_wp2_with (go_at_call 13; refine (l01Dec_any y HYB.out.1 HYB.out.2 _).mono ?_; rintro e w2 ⟨rfl, hb2⟩; have HB2 := Lib.hid (HB.out.trans (hb2.mono HB.out.size)); clear hb2)
      go_roundw
      case rel => exact ⟨j + 1, _, by omega, by go_num, rfl, by show _ = _; rw [brTo_next, ← HS.out, ← HY.out], by simp only [ByteArray.size_append]; have : (⟨#[32]⟩ : ByteArray).size = 1 := rfl; omega, HB2.out⟩
      case measure => simp [intOf] <;> omega
    · obtain rfl : n = j := by omega
      go_wp2
      go_ret
      exact ⟨by rw [← HS.out]; rfl, HB.out⟩

set_option maxHeartbeats 2000000 in
theorem braidText_any (s : Int) (A : Option Addr) (n c : Nat) (z : Nat → Int) (w : World) (ha : Rd w A n (fun j => .int .i64 (z j))) (hn : n ≤ 1048576) (hs : i64B s) (hz : ∀ j, j < n → i64B (z j)) (htab : Tab w) :
    Calls Tryz.prog 20 #[.agg #[.int .i64 s, .slice A n c]] w (TextR w (brTo s z n)) := by
  have hb0 : Below w.heap.size w (w.alloc (.cells #[.int .i64 s, .slice A n c] 33)) := (Below.refl _ _).alloc (Nat.le_refl _) _
  have HA := Lib.hid (ha.below hb0)
  have HW := Lib.hid hb0
  have HTB := Lib.hid (htab.below hb0)
  have HGW := Lib.hid (show w.heap.size < (w.alloc (.cells #[.int .i64 s, .slice A n c] 33)).heap.size from by simp)
  have BX := Lib.hid (box_new w #[.int .i64 s, .slice A n c] 33)
  have hx0 : ∀ q, (w.alloc (.cells #[.int .i64 s, .slice A n c] 33)).cell? ⟨w.heap.size, q, none⟩ = (#[.int .i64 s, .slice A n c] : Array Value)[q]? := BX.out
  have HZ := Lib.hid hz
  have hds := dec_size s hs.1 hs.2
  have hq0 : ¬ 9223372036854775807 < (dec s).size + 1 := by omega
  have HSB := Lib.hid hs
  clear ha hz hs hb0 htab
  go_enter Tryz.func20, Tryz.ntmps20
  go_wp2_with fail
  refine (Decimal_any s HSB.out.1 HSB.out.2 _ HTB.out).mono ?_
  rintro e w1 ⟨rfl, hb1⟩
  have HB1 := Lib.hid hb1
  have hx1 : ∀ q, w1.cell? ⟨w.heap.size, q, none⟩ = (#[.int .i64 s, .slice A n c] : Array Value)[q]? := fun q => ((bcell HB1.out).1 _ q HGW.out).trans (BX.out q)
  clear hb1 hx0
  go_wp2_with fail
  clear hq0 hx1
  go_loopw [3, 5, 13] (fun a _ i wr => ∃ (j : Nat) (u : ByteArray), j ≤ n ∧ i = .int .i64 j ∧ a = .string u ∧ Hid (u = brTo s z j) ∧ u.size ≤ 21 + 21 * j ∧ Below (w.alloc (.cells #[.int .i64 s, .slice A n c] 33)).heap.size (w.alloc (.cells #[.int .i64 s, .slice A n c] 33)) wr) (fun a _ i _ => n - (intOf i).toNat)
  case atStart => exact ⟨0, _, Nat.zero_le _, rfl, rfl, rfl, by have := hds; simp only [ByteArray.size_append]; have : (⟨#[58]⟩ : ByteArray).size = 1 := rfl; omega, HB1.out⟩
  case round =>
    obtain ⟨j, u, hj, rfl, rfl, HS, hu, hb⟩ := hrel
    have HB := Lib.hid hb
    clear hb
    by_cases hlt : j < n
    · obtain ⟨ga, a0, rfl, hga, hra⟩ := HA.out (by omega)
      have hcw := ((bcell HB.out).1 _ _ hga).trans (hra j hlt)
      clear hra
      obtain ⟨y, hy⟩ : ∃ y, y = z j := ⟨_, rfl⟩
      have hyb := HZ.out j hlt
      simp only [← hy] at hcw hyb
      have HY := Lib.hid hy
      have hdy := dec_size y hyb.1 hyb.2
      have HYB := Lib.hid hyb
      clear hy hyb
      have b1 : (0 : Int) ≤ (j : Int) := by omega
      have b2 : (j : Int) < (n : Int) := by omega
      go_wp2_with (go_at_call 19; refine (Decimal_any y HYB.out.1 HYB.out.2 _ (HTB.out.below HB.out)).mono ?_; rintro e w2 ⟨rfl, hb2⟩; have HB2 := Lib.hid (HB.out.trans (hb2.mono HB.out.size)); clear hb2)
      go_roundw
      case rel => exact ⟨j + 1, _, by omega, by go_num, rfl, by show _ = _; rw [brTo_next, ← HS.out, ← HY.out], by simp only [ByteArray.size_append]; have : (⟨#[32]⟩ : ByteArray).size = 1 := rfl; omega, HB2.out⟩
      case measure => simp [intOf] <;> omega
    · obtain rfl : n = j := by omega
      go_wp2
      go_ret
      exact ⟨by rw [← HS.out]; rfl, HW.out.trans (HB.out.mono HW.out.size)⟩

set_option maxHeartbeats 4000000 in
theorem specStudioText_any (x s : Int) (A O B : Option Addr) (n q m p l t : Nat) (d c : Nat → Int) (As : Nat → Option Addr) (ns cs : Nat → Nat) (z : Nat → Nat → Int) (o b : Nat → Int) (w : World) (ha : RdStudio A O B n m l d c As ns cs z o b w) (hn : n ≤ 1048576) (hns : ∀ j, j < n → ns j ≤ 1048576) (hm : m ≤ 1048576) (hl : l ≤ 1048576) :
    Calls Tryz.prog 5 #[.agg #[.int .i64 x, .slice A n q, .slice O m p, .int .i64 s, .slice B l t]] w (TextR w (studioS x n d c ns z m o s l b)) := by
  have hb0 : Below w.heap.size w (w.alloc (.cells #[.int .i64 x, .slice A n q, .slice O m p, .int .i64 s, .slice B l t] 35)) := (Below.refl _ _).alloc (Nat.le_refl _) _
  have HK := Lib.hid (Blk.at_ w 35 #[.int .i64 x, .slice A n q, .slice O m p, .int .i64 s, .slice B l t] rfl)
  have hx0 : ∀ kk, (w.alloc (.cells #[.int .i64 x, .slice A n q, .slice O m p, .int .i64 s, .slice B l t] 35)).cell? ⟨w.heap.size, kk, none⟩ = (#[.int .i64 x, .slice A n q, .slice O m p, .int .i64 s, .slice B l t] : Array Value)[kk]? := fun i => HK.out.cell i
  have HW := Lib.hid hb0
  have HA0 := Lib.hid ((rdStudio_obj A O B n m l d c As ns cs z o b).below ha hb0)
  have LS := Lib.hid (rdStudio_obj A O B n m l d c As ns cs z o b)
  have LA := Lib.hid (rd_obj B l (fun j => .int .i64 (b j)))
  have HNS := Lib.hid hns
  clear ha hb0 hns
  cases hv : studioB x n d c ns z m o s l b
  · have HV := Lib.hid hv
    clear hv
    go_enter Tryz.func5, Tryz.ntmps5
    go_wp2_with fail
    refine (l31Ok_any x s A O B n q m p l t d c As ns cs z o b w.heap.size _ _ HK HA0.out hn HNS.out hm hl).mono ?_
    rintro e w' ⟨rfl, hb⟩
    have HB := Lib.hid hb
    clear hb hx0
    rw [HV.out]
    go_wp2
    go_ret
    exact ⟨by rw [studioS_no HV.out]; rfl, HW.out.trans (HB.out.mono HW.out.size)⟩
  · obtain ⟨hx, hs, hl40, hz⟩ := studioB_parts hv
    have hdx := dec_size x hx.1 hx.2
    have hnn : i64B (n : Int) := by unfold i64B; omega
    have hmm : i64B (m : Int) := by unfold i64B; omega
    have hdn := dec_size n hnn.1 hnn.2
    have hdm := dec_size m hmm.1 hmm.2
    have hbr := brTo_size hs hz
    have HV := Lib.hid hv
    have HX := Lib.hid hx
    have HN := Lib.hid hnn
    have HM := Lib.hid hmm
    have HSB := Lib.hid hs
    have HZB := Lib.hid hz
    clear hv hx hs hz hnn hmm
    go_enter Tryz.func5, Tryz.ntmps5
    go_wp2_with fail
    refine (l31Ok_any x s A O B n q m p l t d c As ns cs z o b w.heap.size _ _ HK HA0.out hn HNS.out hm hl).mono ?_
    rintro e WV ⟨rfl, hb⟩
    have HB := Lib.hid hb
    have HGV := Lib.hid (HK.out.below HB.out (by simp)).lt
    have hx1 : ∀ kk, WV.cell? ⟨w.heap.size, kk, none⟩ = (#[.int .i64 x, .slice A n q, .slice O m p, .int .i64 s, .slice B l t] : Array Value)[kk]? := fun i => (HK.out.below HB.out (by simp)).cell i
    have BV := Lib.hid hx1
    have HA := Lib.hid (LS.out.below HA0.out HB.out).2.2
    clear hb hx0
    rw [HV.out]
    have hq0 : ¬ 9223372036854775807 < 8 + (dec x).size := by omega
    have hq1 : ¬ 9223372036854775807 < 8 + (dec x).size + 6 := by omega
    have hq2 : ¬ 9223372036854775807 < 8 + (dec x).size + 6 + (dec (n : Int)).size := by omega
    have hq3 : ¬ 9223372036854775807 < 8 + (dec x).size + 6 + (dec (n : Int)).size + 5 := by omega
    have hq4 : ¬ 9223372036854775807 < 8 + (dec x).size + 6 + (dec (n : Int)).size + 5 + (dec (m : Int)).size := by omega
    have hq5 : ¬ 9223372036854775807 < 8 + (dec x).size + 6 + (dec (n : Int)).size + 5 + (dec (m : Int)).size + 7 := by omega
    have hq6 : ¬ 9223372036854775807 < 8 + (dec x).size + 6 + (dec (n : Int)).size + 5 + (dec (m : Int)).size + 7 + (brTo s b l).size := by omega
    go_wp2_with fail
    go_region_held3 (fun w' => ∀ kk, w'.cell? ⟨w.heap.size, kk, none⟩ = (#[.int .i64 x, .slice A n q, .slice O m p, .int .i64 s, .slice B l t] : Array Value)[kk]?) (go_keep) (first
      | (go_at_call_of 13 (Value.int .i64 x); refine (l01Dec_any x HX.out.1 HX.out.2 _).mono ?_; rintro e w1 ⟨rfl, hb1⟩; have HB1 : Hid (Below WV.heap.size WV w1) := Lib.hid ((Below.refl _ _).drew.trans (hb1.mono (by first | (simp; done)))); clear hb1; have kx1 : ∀ kk, w1.cell? ⟨w.heap.size, kk, none⟩ = (#[.int .i64 x, .slice A n q, .slice O m p, .int .i64 s, .slice B l t] : Array Value)[kk]? := (fun q => ((bcell HB1.out).1 _ q HGV.out).trans (BV.out q)))
      | (go_at_call_of 13 (Value.int .i64 (n : Int)); refine (l01Dec_any (n : Int) HN.out.1 HN.out.2 _).mono ?_; rintro e w2 ⟨rfl, hb2⟩; have HB2 : Hid (Below WV.heap.size WV w2) := Lib.hid (HB1.out.trans (hb2.mono (by first | (simp; done) | exact HB1.out.size))); clear hb2; have kx2 : ∀ kk, w2.cell? ⟨w.heap.size, kk, none⟩ = (#[.int .i64 x, .slice A n q, .slice O m p, .int .i64 s, .slice B l t] : Array Value)[kk]? := (fun q => ((bcell HB2.out).1 _ q HGV.out).trans (BV.out q)))
      | (go_at_call_of 13 (Value.int .i64 (m : Int)); refine (l01Dec_any (m : Int) HM.out.1 HM.out.2 _).mono ?_; rintro e w3 ⟨rfl, hb3⟩; have HB3 : Hid (Below WV.heap.size WV w3) := Lib.hid (HB2.out.trans (hb3.mono (by first | (simp; done) | exact HB2.out.size))); clear hb3; have kx3 : ∀ kk, w3.cell? ⟨w.heap.size, kk, none⟩ = (#[.int .i64 x, .slice A n q, .slice O m p, .int .i64 s, .slice B l t] : Array Value)[kk]? := (fun q => ((bcell HB3.out).1 _ q HGV.out).trans (BV.out q)))
      | (go_at_call 14; refine (l03Text_any w.heap.size 3 s B l t b _ (kx3 3) (kx3 4) (LA.out.below HA.out HB3.out) hl HSB.out HZB.out).mono ?_; rintro e w4 ⟨rfl, hb4⟩; have HB4 : Hid (Below WV.heap.size WV w4) := Lib.hid (HB3.out.trans (hb4.mono HB3.out.size)); clear hb4; have kx4 : ∀ kk, w4.cell? ⟨w.heap.size, kk, none⟩ = (#[.int .i64 x, .slice A n q, .slice O m p, .int .i64 s, .slice B l t] : Array Value)[kk]? := (fun q => ((bcell HB4.out).1 _ q HGV.out).trans (BV.out q))))
    rename_i hHeld
    clear hHeld
    go_wp2
    go_ret
    exact ⟨by rw [studioS_yes HV.out]; rfl, HW.out.trans (HB.out.trans (HB4.out.mono HB.out.size) |>.mono HW.out.size)⟩

set_option maxHeartbeats 4000000 in
theorem implStudioText_any (x s : Int) (A O B : Option Addr) (n q m p l t : Nat) (d c : Nat → Int) (As : Nat → Option Addr) (ns cs : Nat → Nat) (z : Nat → Nat → Int) (o b : Nat → Int) (w : World) (ha : RdStudio A O B n m l d c As ns cs z o b w) (hn : n ≤ 1048576) (hns : ∀ j, j < n → ns j ≤ 1048576) (hm : m ≤ 1048576) (hl : l ≤ 1048576) (htab : Tab w) :
    Calls Tryz.prog 7 #[.agg #[.int .i64 x, .slice A n q, .slice O m p, .int .i64 s, .slice B l t]] w (TextR w (studioS x n d c ns z m o s l b)) := by
  have hb0 : Below w.heap.size w (w.alloc (.cells #[.int .i64 x, .slice A n q, .slice O m p, .int .i64 s, .slice B l t] 35)) := (Below.refl _ _).alloc (Nat.le_refl _) _
  have HK := Lib.hid (Blk.at_ w 35 #[.int .i64 x, .slice A n q, .slice O m p, .int .i64 s, .slice B l t] rfl)
  have hx0 : ∀ kk, (w.alloc (.cells #[.int .i64 x, .slice A n q, .slice O m p, .int .i64 s, .slice B l t] 35)).cell? ⟨w.heap.size, kk, none⟩ = (#[.int .i64 x, .slice A n q, .slice O m p, .int .i64 s, .slice B l t] : Array Value)[kk]? := fun i => HK.out.cell i
  have HW := Lib.hid hb0
  have HA0 := Lib.hid ((rdStudio_obj A O B n m l d c As ns cs z o b).below ha hb0)
  have HTBW := Lib.hid (htab.below hb0)
  have LS := Lib.hid (rdStudio_obj A O B n m l d c As ns cs z o b)
  have LA := Lib.hid (rd_obj B l (fun j => .int .i64 (b j)))
  have HNS := Lib.hid hns
  clear ha hb0 hns htab
  cases hv : studioB x n d c ns z m o s l b
  · have HV := Lib.hid hv
    clear hv
    go_enter Tryz.func7, Tryz.ntmps7
    go_wp2_with fail
    refine (implValidStudio_any x s A O B n q m p l t d c As ns cs z o b _ HA0.out hn HNS.out hm hl).mono ?_
    rintro e w' ⟨rfl, hb⟩
    have HB := Lib.hid hb
    clear hb hx0
    rw [HV.out]
    go_wp2
    go_ret
    exact ⟨by rw [studioS_no HV.out]; rfl, HW.out.trans (HB.out.mono HW.out.size)⟩
  · obtain ⟨hx, hs, hl40, hz⟩ := studioB_parts hv
    have hdx := dec_size x hx.1 hx.2
    have hnn : i64B (n : Int) := by unfold i64B; omega
    have hmm : i64B (m : Int) := by unfold i64B; omega
    have hdn := dec_size n hnn.1 hnn.2
    have hdm := dec_size m hmm.1 hmm.2
    have hbr := brTo_size hs hz
    have HV := Lib.hid hv
    have HX := Lib.hid hx
    have HN := Lib.hid hnn
    have HM := Lib.hid hmm
    have HSB := Lib.hid hs
    have HZB := Lib.hid hz
    clear hv hx hs hz hnn hmm
    go_enter Tryz.func7, Tryz.ntmps7
    go_wp2_with fail
    refine (implValidStudio_any x s A O B n q m p l t d c As ns cs z o b _ HA0.out hn HNS.out hm hl).mono ?_
    rintro e WV ⟨rfl, hb⟩
    have HB := Lib.hid hb
    have HGV := Lib.hid (HK.out.below HB.out (by simp)).lt
    have hx1 : ∀ kk, WV.cell? ⟨w.heap.size, kk, none⟩ = (#[.int .i64 x, .slice A n q, .slice O m p, .int .i64 s, .slice B l t] : Array Value)[kk]? := fun i => (HK.out.below HB.out (by simp)).cell i
    have BV := Lib.hid hx1
    have HA := Lib.hid (LS.out.below HA0.out HB.out).2.2
    have HTB0 := Lib.hid (HTBW.out.below HB.out)
    clear hb hx0
    rw [HV.out]
    have hq0 : ¬ 9223372036854775807 < 8 + (dec x).size := by omega
    have hq1 : ¬ 9223372036854775807 < 8 + (dec x).size + 6 := by omega
    have hq2 : ¬ 9223372036854775807 < 8 + (dec x).size + 6 + (dec (n : Int)).size := by omega
    have hq3 : ¬ 9223372036854775807 < 8 + (dec x).size + 6 + (dec (n : Int)).size + 5 := by omega
    have hq4 : ¬ 9223372036854775807 < 8 + (dec x).size + 6 + (dec (n : Int)).size + 5 + (dec (m : Int)).size := by omega
    have hq5 : ¬ 9223372036854775807 < 8 + (dec x).size + 6 + (dec (n : Int)).size + 5 + (dec (m : Int)).size + 7 := by omega
    have hq6 : ¬ 9223372036854775807 < 8 + (dec x).size + 6 + (dec (n : Int)).size + 5 + (dec (m : Int)).size + 7 + (brTo s b l).size := by omega
    go_wp2_with fail
    go_region_held3 (fun w' => ∀ kk, w'.cell? ⟨w.heap.size, kk, none⟩ = (#[.int .i64 x, .slice A n q, .slice O m p, .int .i64 s, .slice B l t] : Array Value)[kk]?) (go_keep) (first
      | (go_at_call_of 19 (Value.int .i64 x); refine (Decimal_any x HX.out.1 HX.out.2 _ (by first | exact HTB0.out | exact HTB0.out.drewN 1)).mono ?_; rintro e w1 ⟨rfl, hb1⟩; have HB1 : Hid (Below WV.heap.size WV w1) := Lib.hid ((Below.refl _ _).drew.trans (hb1.mono (by first | (simp; done)))); clear hb1; have HTB1 := Lib.hid (HTB0.out.below HB1.out); have kx1 : ∀ kk, w1.cell? ⟨w.heap.size, kk, none⟩ = (#[.int .i64 x, .slice A n q, .slice O m p, .int .i64 s, .slice B l t] : Array Value)[kk]? := (fun q => ((bcell HB1.out).1 _ q HGV.out).trans (BV.out q)))
      | (go_at_call_of 19 (Value.int .i64 (n : Int)); refine (Decimal_any (n : Int) HN.out.1 HN.out.2 _ (by first | exact HTB1.out | exact HTB1.out.drewN 1)).mono ?_; rintro e w2 ⟨rfl, hb2⟩; have HB2 : Hid (Below WV.heap.size WV w2) := Lib.hid (HB1.out.trans (hb2.mono (by first | (simp; done) | exact HB1.out.size))); clear hb2; have HTB2 := Lib.hid (HTB0.out.below HB2.out); have kx2 : ∀ kk, w2.cell? ⟨w.heap.size, kk, none⟩ = (#[.int .i64 x, .slice A n q, .slice O m p, .int .i64 s, .slice B l t] : Array Value)[kk]? := (fun q => ((bcell HB2.out).1 _ q HGV.out).trans (BV.out q)))
      | (go_at_call_of 19 (Value.int .i64 (m : Int)); refine (Decimal_any (m : Int) HM.out.1 HM.out.2 _ (by first | exact HTB2.out | exact HTB2.out.drewN 1)).mono ?_; rintro e w3 ⟨rfl, hb3⟩; have HB3 : Hid (Below WV.heap.size WV w3) := Lib.hid (HB2.out.trans (hb3.mono (by first | (simp; done) | exact HB2.out.size))); clear hb3; have HTB3 := Lib.hid (HTB0.out.below HB3.out); have kx3 : ∀ kk, w3.cell? ⟨w.heap.size, kk, none⟩ = (#[.int .i64 x, .slice A n q, .slice O m p, .int .i64 s, .slice B l t] : Array Value)[kk]? := (fun q => ((bcell HB3.out).1 _ q HGV.out).trans (BV.out q)))
      | (go_at_call 20; refine (braidText_any s B l t b _ (LA.out.below HA.out HB3.out) hl HSB.out HZB.out (by first | exact HTB3.out | exact HTB3.out.drewN 1)).mono ?_; rintro e w4 ⟨rfl, hb4⟩; have HB4 : Hid (Below WV.heap.size WV w4) := Lib.hid (HB3.out.trans (hb4.mono HB3.out.size)); clear hb4; have kx4 : ∀ kk, w4.cell? ⟨w.heap.size, kk, none⟩ = (#[.int .i64 x, .slice A n q, .slice O m p, .int .i64 s, .slice B l t] : Array Value)[kk]? := (fun q => ((bcell HB4.out).1 _ q HGV.out).trans (BV.out q))))
    rename_i hHeld
    clear hHeld
    go_wp2
    go_ret
    exact ⟨by rw [studioS_yes HV.out]; rfl, HW.out.trans (HB.out.trans (HB4.out.mono HB.out.size) |>.mono HW.out.size)⟩
end Go.Proofs.YtpgmkkepbnonmaaGreatDoor
