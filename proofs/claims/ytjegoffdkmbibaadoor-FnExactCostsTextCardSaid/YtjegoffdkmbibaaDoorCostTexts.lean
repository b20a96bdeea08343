/- Walks: the text of costs, by the reference and by the program. No condition but the bounds and strconv's table. (Printed by wip/costsgen.py.) -/
import Derived.Test.YtjegoffdkmbibaaDoorDecI
import Derived.Deep.RegionHeld3
import Derived.Deep.RegionWith
import Derived.Deep.DrawnRows
namespace Go.Proofs.YtjegoffdkmbibaaDoor
open Go.RowKit
set_option maxRecDepth 20000
attribute [local go_sem ↓] Go.wp_at_zero Go.wp_at_succ

def TextR (w : World) (s : ByteArray) (e : Ending) (w' : World) : Prop := e = .returned (.string s) ∧ Below w.heap.size w w'
def costHead (o p r k t : Int) : ByteArray := ((((((((((⟨#[111, 112, 115, 32]⟩ : ByteArray) ++ dec o) ++ (⟨#[32, 112, 97, 115, 115, 101, 115, 32]⟩ : ByteArray)) ++ dec p) ++ (⟨#[32, 114, 101, 116, 117, 114, 110, 115, 32]⟩ : ByteArray)) ++ dec r) ++ (⟨#[32, 114, 97, 99, 107, 115, 32]⟩ : ByteArray)) ++ dec k) ++ (⟨#[32, 116, 105, 109, 101, 32]⟩ : ByteArray)) ++ dec t) ++ (⟨#[32, 121, 97, 114, 110]⟩ : ByteArray)
/-- The text of costs up to the first j of the yarn. -/
def costTo (o p r k t : Int) (z : Nat → Int) : Nat → ByteArray
  | 0 => costHead o p r k t
  | j + 1 => costTo o p r k t z j ++ ((⟨#[32]⟩ : ByteArray) ++ dec (z j))
def i64B (n : Int) : Prop := -9223372036854775808 ≤ n ∧ n ≤ 9223372036854775807
theorem costTo_zero (o p r k t : Int) (z : Nat → Int) : costTo o p r k t z 0 = costHead o p r k t := rfl
theorem costTo_next (o p r k t : Int) (z : Nat → Int) (j : Nat) : costTo o p r k t z (j + 1) = costTo o p r k t z j ++ ((⟨#[32]⟩ : ByteArray) ++ dec (z j)) := rfl
theorem costHead_size {o p r k t : Int} (ho : i64B o) (hp : i64B p) (hr : i64B r) (hk : i64B k) (ht : i64B t) : (costHead o p r k t).size ≤ 160 := by
  have h1 := dec_size o ho.1 ho.2
  have h2 := dec_size p hp.1 hp.2
  have h3 := dec_size r hr.1 hr.2
  have h4 := dec_size k hk.1 hk.2
  have h5 := dec_size t ht.1 ht.2
  unfold costHead
  simp only [ByteArray.size_append, ByteArray.size_mk']
  simp only [Array.size, List.length_cons, List.length_nil]
  omega

set_option maxHeartbeats 4000000 in
theorem specCostsText_any (o p r k t : Int) (A : Option Addr) (n c : Nat) (z : Nat → Int) (w : World) (ha : Rd w A n (fun j => .int .i64 (z j))) (hn : n ≤ 1048576) (ho : i64B o) (hp : i64B p) (hr : i64B r) (hk : i64B k) (ht : i64B t) (hz : ∀ j, j < n → i64B (z j)) :
    Calls Tryd.prog 13 #[.agg #[.int .i64 o, .int .i64 p, .int .i64 r, .int .i64 k, .int .i64 t, .slice A n c]] w (TextR w (costTo o p r k t z n)) := by
  have hb0 : Below w.heap.size w (w.alloc (.cells #[.int .i64 o, .int .i64 p, .int .i64 r, .int .i64 k, .int .i64 t, .slice A n c] 39)) := (Below.refl _ _).alloc (Nat.le_refl _) _
  have HA := Lib.hid (ha.below hb0)
  have HW := Lib.hid hb0
  have HH := Lib.hid (costHead_size ho hp hr hk ht)
  have HZ := Lib.hid hz
  have hdo := dec_size o ho.1 ho.2
  have hdp := dec_size p hp.1 hp.2
  have hdr := dec_size r hr.1 hr.2
  have hdk := dec_size k hk.1 hk.2
  have hdt := dec_size t ht.1 ht.2
  have hq0 : ¬ 9223372036854775807 < 4 + (dec o).size := by omega
  have hq1 : ¬ 9223372036854775807 < 4 + (dec o).size + 8 := by omega
  have hq2 : ¬ 9223372036854775807 < 4 + (dec o).size + 8 + (dec p).size := by omega
  have hq3 : ¬ 9223372036854775807 < 4 + (dec o).size + 8 + (dec p).size + 9 := by omega
  have hq4 : ¬ 9223372036854775807 < 4 + (dec o).size + 8 + (dec p).size + 9 + (dec r).size := by omega
  have hq5 : ¬ 9223372036854775807 < 4 + (dec o).size + 8 + (dec p).size + 9 + (dec r).size + 7 := by omega
  have hq6 : ¬ 9223372036854775807 < 4 + (dec o).size + 8 + (dec p).size + 9 + (dec r).size + 7 + (dec k).size := by omega
  have hq7 : ¬ 9223372036854775807 < 4 + (dec o).size + 8 + (dec p).size + 9 + (dec r).size + 7 + (dec k).size + 6 := by omega
  have hq8 : ¬ 9223372036854775807 < 4 + (dec o).size + 8 + (dec p).size + 9 + (dec r).size + 7 + (dec k).size + 6 + (dec t).size := by omega
  have hq9 : ¬ 9223372036854775807 < 4 + (dec o).size + 8 + (dec p).size + 9 + (dec r).size + 7 + (dec k).size + 6 + (dec t).size + 5 := by omega
  have HO := Lib.hid ho
  have HP := Lib.hid hp
  have HR := Lib.hid hr
  have HK := Lib.hid hk
  have HT := Lib.hid ht
  have BX := Lib.hid (box_new w #[.int .i64 o, .int .i64 p, .int .i64 r, .int .i64 k, .int .i64 t, .slice A n c] 39)
  have hx0 : ∀ q, (w.alloc (.cells #[.int .i64 o, .int .i64 p, .int .i64 r, .int .i64 k, .int .i64 t, .slice A n c] 39)).cell? ⟨w.heap.size, q, none⟩ = (#[.int .i64 o, .int .i64 p, .int .i64 r, .int .i64 k, .int .i64 t, .slice A n c] : Array Value)[q]? := BX.out
  clear ha hb0 hz ho hp hr hk ht
  go_enter Tryd.func13, Tryd.ntmps13
  go_wp2_with fail
  go_region_held3 (fun w' => ∀ q, w'.cell? ⟨w.heap.size, q, none⟩ = (#[.int .i64 o, .int .i64 p, .int .i64 r, .int .i64 k, .int .i64 t, .slice A n c] : Array Value)[q]?) (go_keep) (first
    | (go_at_call_of 18 (Value.int .i64 o); refine (l01Dec_any o HO.out.1 HO.out.2 _).mono ?_; rintro e w1 ⟨rfl, hb1⟩; have HB1 : Hid (Below (w.alloc (.cells #[.int .i64 o, .int .i64 p, .int .i64 r, .int .i64 k, .int .i64 t, .slice A n c] 39)).heap.size (w.alloc (.cells #[.int .i64 o, .int .i64 p, .int .i64 r, .int .i64 k, .int .i64 t, .slice A n c] 39)) w1) := Lib.hid (((Below.refl _ _).drew).trans (hb1.mono (by first | (simp; done)))); clear hb1; have kx1 : ∀ q, w1.cell? ⟨w.heap.size, q, none⟩ = (#[.int .i64 o, .int .i64 p, .int .i64 r, .int .i64 k, .int .i64 t, .slice A n c] : Array Value)[q]? := (fun q => ((bcell HB1.out).1 _ q (by simp)).trans (BX.out q)))
    | (go_at_call_of 18 (Value.int .i64 p); refine (l01Dec_any p HP.out.1 HP.out.2 _).mono ?_; rintro e w2 ⟨rfl, hb2⟩; have HB2 : Hid (Below (w.alloc (.cells #[.int .i64 o, .int .i64 p, .int .i64 r, .int .i64 k, .int .i64 t, .slice A n c] 39)).heap.size (w.alloc (.cells #[.int .i64 o, .int .i64 p, .int .i64 r, .int .i64 k, .int .i64 t, .slice A n c] 39)) w2) := Lib.hid (HB1.out.trans (hb2.mono (by first | (simp; done) | exact HB1.out.size))); clear hb2; have kx2 : ∀ q, w2.cell? ⟨w.heap.size, q, none⟩ = (#[.int .i64 o, .int .i64 p, .int .i64 r, .int .i64 k, .int .i64 t, .slice A n c] : Array Value)[q]? := (fun q => ((bcell HB2.out).1 _ q (by simp)).trans (BX.out q)))
    | (go_at_call_of 18 (Value.int .i64 r); refine (l01Dec_any r HR.out.1 HR.out.2 _).mono ?_; rintro e w3 ⟨rfl, hb3⟩; have HB3 : Hid (Below (w.alloc (.cells #[.int .i64 o, .int .i64 p, .int .i64 r, .int .i64 k, .int .i64 t, .slice A n c] 39)).heap.size (w.alloc (.cells #[.int .i64 o, .int .i64 p, .int .i64 r, .int .i64 k, .int .i64 t, .slice A n c] 39)) w3) := Lib.hid (HB2.out.trans (hb3.mono (by first | (simp; done) | exact HB2.out.size))); clear hb3; have kx3 : ∀ q, w3.cell? ⟨w.heap.size, q, none⟩ = (#[.int .i64 o, .int .i64 p, .int .i64 r, .int .i64 k, .int .i64 t, .slice A n c] : Array Value)[q]? := (fun q => ((bcell HB3.out).1 _ q (by simp)).trans (BX.out q)))
    | (go_at_call_of 18 (Value.int .i64 k); refine (l01Dec_any k HK.out.1 HK.out.2 _).mono ?_; rintro e w4 ⟨rfl, hb4⟩; have HB4 : Hid (Below (w.alloc (.cells #[.int .i64 o, .int .i64 p, .int .i64 r, .int .i64 k, .int .i64 t, .slice A n c] 39)).heap.size (w.alloc (.cells #[.int .i64 o, .int .i64 p, .int .i64 r, .int .i64 k, .int .i64 t, .slice A n c] 39)) w4) := Lib.hid (HB3.out.trans (hb4.mono (by first | (simp; done) | exact HB3.out.size))); clear hb4; have kx4 : ∀ q, w4.cell? ⟨w.heap.size, q, none⟩ = (#[.int .i64 o, .int .i64 p, .int .i64 r, .int .i64 k, .int .i64 t, .slice A n c] : Array Value)[q]? := (fun q => ((bcell HB4.out).1 _ q (by simp)).trans (BX.out q)))
    | (go_at_call_of 18 (Value.int .i64 t); refine (l01Dec_any t HT.out.1 HT.out.2 _).mono ?_; rintro e w5 ⟨rfl, hb5⟩; have HB5 : Hid (Below (w.alloc (.cells #[.int .i64 o, .int .i64 p, .int .i64 r, .int .i64 k, .int .i64 t, .slice A n c] 39)).heap.size (w.alloc (.cells #[.int .i64 o, .int .i64 p, .int .i64 r, .int .i64 k, .int .i64 t, .slice A n c] 39)) w5) := Lib.hid (HB4.out.trans (hb5.mono (by first | (simp; done) | exact HB4.out.size))); clear hb5; have kx5 : ∀ q, w5.cell? ⟨w.heap.size, q, none⟩ = (#[.int .i64 o, .int .i64 p, .int .i64 r, .int .i64 k, .int .i64 t, .slice A n c] : Array Value)[q]? := (fun q => ((bcell HB5.out).1 _ q (by simp)).trans (BX.out q))))
  rename_i hHeld
  clear hHeld kx1 kx2 kx3 kx4 HB1 HB2 HB3 HB4
  go_wp2_with fail
  clear kx5 hdo hdp hdr hdk hdt hq0 hq1 hq2 hq3 hq4 hq5 hq6 hq7 hq8 hq9
  go_loopw [3, 4] (fun a i wr => ∃ (j : Nat) (s : ByteArray), j ≤ n ∧ i = .int .i64 j ∧ a = .string s ∧ Hid (s = costTo o p r k t z j) ∧ s.size ≤ 160 + 21 * j ∧ Below (w.alloc (.cells #[.int .i64 o, .int .i64 p, .int .i64 r, .int .i64 k, .int .i64 t, .slice A n c] 39)).heap.size (w.alloc (.cells #[.int .i64 o, .int .i64 p, .int .i64 r, .int .i64 k, .int .i64 t, .slice A n c] 39)) wr) (fun a i _ => n - (intOf i).toNat)
  case atStart => exact ⟨0, _, Nat.zero_le _, rfl, rfl, rfl, by have := HH.out; unfold costHead at this; omega, HB5.out⟩
  case round =>
    obtain ⟨j, s, hj, rfl, rfl, HS, hs, hb⟩ := hrel
    have HB := Lib.hid hb
    have hbx : ∀ q, wr.cell? ⟨w.heap.size, q, none⟩ = (#[.int .i64 o, .int .i64 p, .int .i64 r, .int .i64 k, .int .i64 t, .slice A n c] : Array Value)[q]? := fun q => ((bcell HB.out).1 _ q (by simp)).trans (BX.out q)
    clear hb
    by_cases hlt : j < n
    · obtain ⟨g, a0, rfl, hg, hra⟩ := HA.out (by omega)
      have hcw := ((bcell HB.out).1 _ _ hg).trans (hra j hlt)
      clear hra
      obtain ⟨x, hx⟩ : ∃ x, x = z j := ⟨_, rfl⟩
      have hxb := HZ.out j hlt
      simp only [← hx] at hcw hxb
      have HX := Lib.hid hx
      have hds := dec_size x hxb.1 hxb.2
      have HXB := Lib.hid hxb
      clear hx hxb
      have b1 : (0 : Int) ≤ (j : Int) := by omega
      have b2 : (j : Int) < (n : Int) := by omega
      go_wp2_with (go_at_call 18; refine (l01Dec_any x HXB.out.1 HXB.out.2 _).mono ?_; rintro e w2 ⟨rfl, hb2⟩; have HB2 := Lib.hid (HB.out.trans (hb2.mono HB.out.size)); clear hb2)
      go_roundw
      case rel => exact ⟨j + 1, _, by omega, by go_num, rfl, by show _ = _; rw [costTo_next, ← HS.out, ← HX.out], by simp only [ByteArray.size_append]; have : (⟨#[32]⟩ : ByteArray).size = 1 := rfl; omega, HB2.out⟩
      case measure => simp [intOf] <;> omega
    · obtain rfl : n = j := by omega
      go_wp2
      go_ret
      exact ⟨by rw [← HS.out]; rfl, HW.out.trans (HB.out.mono HW.out.size)⟩

set_option maxHeartbeats 4000000 in
theorem implCostsText_any (o p r k t : Int) (A : Option Addr) (n c : Nat) (z : Nat → Int) (w : World) (ha : Rd w A n (fun j => .int .i64 (z j))) (hn : n ≤ 1048576) (ho : i64B o) (hp : i64B p) (hr : i64B r) (hk : i64B k) (ht : i64B t) (hz : ∀ j, j < n → i64B (z j)) (htab : Tab w) :
    Calls Tryd.prog 15 #[.agg #[.int .i64 o, .int .i64 p, .int .i64 r, .int .i64 k, .int .i64 t, .slice A n c]] w (TextR w (costTo o p r k t z n)) := by
  have hb0 : Below w.heap.size w (w.alloc (.cells #[.int .i64 o, .int .i64 p, .int .i64 r, .int .i64 k, .int .i64 t, .slice A n c] 39)) := (Below.refl _ _).alloc (Nat.le_refl _) _
  have HA := Lib.hid (ha.below hb0)
  have HW := Lib.hid hb0
  have HTB := Lib.hid (htab.below hb0)
  have HH := Lib.hid (costHead_size ho hp hr hk ht)
  have HZ := Lib.hid hz
  have hdo := dec_size o ho.1 ho.2
  have hdp := dec_size p hp.1 hp.2
  have hdr := dec_size r hr.1 hr.2
  have hdk := dec_size k hk.1 hk.2
  have hdt := dec_size t ht.1 ht.2
  have hq0 : ¬ 9223372036854775807 < 4 + (dec o).size := by omega
  have hq1 : ¬ 9223372036854775807 < 4 + (dec o).size + 8 := by omega
  have hq2 : ¬ 9223372036854775807 < 4 + (dec o).size + 8 + (dec p).size := by omega
  have hq3 : ¬ 9223372036854775807 < 4 + (dec o).size + 8 + (dec p).size + 9 := by omega
  have hq4 : ¬ 9223372036854775807 < 4 + (dec o).size + 8 + (dec p).size + 9 + (dec r).size := by omega
  have hq5 : ¬ 9223372036854775807 < 4 + (dec o).size + 8 + (dec p).size + 9 + (dec r).size + 7 := by omega
  have hq6 : ¬ 9223372036854775807 < 4 + (dec o).size + 8 + (dec p).size + 9 + (dec r).size + 7 + (dec k).size := by omega
  have hq7 : ¬ 9223372036854775807 < 4 + (dec o).size + 8 + (dec p).size + 9 + (dec r).size + 7 + (dec k).size + 6 := by omega
  have hq8 : ¬ 9223372036854775807 < 4 + (dec o).size + 8 + (dec p).size + 9 + (dec r).size + 7 + (dec k).size + 6 + (dec t).size := by omega
  have hq9 : ¬ 9223372036854775807 < 4 + (dec o).size + 8 + (dec p).size + 9 + (dec r).size + 7 + (dec k).size + 6 + (dec t).size + 5 := by omega
  have HO := Lib.hid ho
  have HP := Lib.hid hp
  have HR := Lib.hid hr
  have HK := Lib.hid hk
  have HT := Lib.hid ht
  have BX := Lib.hid (box_new w #[.int .i64 o, .int .i64 p, .int .i64 r, .int .i64 k, .int .i64 t, .slice A n c] 39)
  have hx0 : ∀ q, (w.alloc (.cells #[.int .i64 o, .int .i64 p, .int .i64 r, .int .i64 k, .int .i64 t, .slice A n c] 39)).cell? ⟨w.heap.size, q, none⟩ = (#[.int .i64 o, .int .i64 p, .int .i64 r, .int .i64 k, .int .i64 t, .slice A n c] : Array Value)[q]? := BX.out
  clear ha hb0 hz ho hp hr hk ht htab
  go_enter Tryd.func15, Tryd.ntmps15
  go_wp2_with fail
  go_region_held3 (fun w' => ∀ q, w'.cell? ⟨w.heap.size, q, none⟩ = (#[.int .i64 o, .int .i64 p, .int .i64 r, .int .i64 k, .int .i64 t, .slice A n c] : Array Value)[q]?) (go_keep) (first
    | (go_at_call_of 28 (Value.int .i64 o); refine (Decimal_any o HO.out.1 HO.out.2 _ (by first | exact HTB.out | exact HTB.out.drewN 1)).mono ?_; rintro e w1 ⟨rfl, hb1⟩; have HB1 : Hid (Below (w.alloc (.cells #[.int .i64 o, .int .i64 p, .int .i64 r, .int .i64 k, .int .i64 t, .slice A n c] 39)).heap.size (w.alloc (.cells #[.int .i64 o, .int .i64 p, .int .i64 r, .int .i64 k, .int .i64 t, .slice A n c] 39)) w1) := Lib.hid (((Below.refl _ _).drew).trans (hb1.mono (by first | (simp; done)))); clear hb1; have HTB1 := Lib.hid (HTB.out.below HB1.out); have kx1 : ∀ q, w1.cell? ⟨w.heap.size, q, none⟩ = (#[.int .i64 o, .int .i64 p, .int .i64 r, .int .i64 k, .int .i64 t, .slice A n c] : Array Value)[q]? := (fun q => ((bcell HB1.out).1 _ q (by simp)).trans (BX.out q)))
    | (go_at_call_of 28 (Value.int .i64 p); refine (Decimal_any p HP.out.1 HP.out.2 _ (by first | exact HTB1.out | exact HTB1.out.drewN 1)).mono ?_; rintro e w2 ⟨rfl, hb2⟩; have HB2 : Hid (Below (w.alloc (.cells #[.int .i64 o, .int .i64 p, .int .i64 r, .int .i64 k, .int .i64 t, .slice A n c] 39)).heap.size (w.alloc (.cells #[.int .i64 o, .int .i64 p, .int .i64 r, .int .i64 k, .int .i64 t, .slice A n c] 39)) w2) := Lib.hid (HB1.out.trans (hb2.mono (by first | (simp; done) | exact HB1.out.size))); clear hb2; have HTB2 := Lib.hid (HTB.out.below HB2.out); have kx2 : ∀ q, w2.cell? ⟨w.heap.size, q, none⟩ = (#[.int .i64 o, .int .i64 p, .int .i64 r, .int .i64 k, .int .i64 t, .slice A n c] : Array Value)[q]? := (fun q => ((bcell HB2.out).1 _ q (by simp)).trans (BX.out q)))
    | (go_at_call_of 28 (Value.int .i64 r); refine (Decimal_any r HR.out.1 HR.out.2 _ (by first | exact HTB2.out | exact HTB2.out.drewN 1)).mono ?_; rintro e w3 ⟨rfl, hb3⟩; have HB3 : Hid (Below (w.alloc (.cells #[.int .i64 o, .int .i64 p, .int .i64 r, .int .i64 k, .int .i64 t, .slice A n c] 39)).heap.size (w.alloc (.cells #[.int .i64 o, .int .i64 p, .int .i64 r, .int .i64 k, .int .i64 t, .slice A n c] 39)) w3) := Lib.hid (HB2.out.trans (hb3.mono (by first | (simp; done) | exact HB2.out.size))); clear hb3; have HTB3 := Lib.hid (HTB.out.below HB3.out); have kx3 : ∀ q, w3.cell? ⟨w.heap.size, q, none⟩ = (#[.int .i64 o, .int .i64 p, .int .i64 r, .int .i64 k, .int .i64 t, .slice A n c] : Array Value)[q]? := (fun q => ((bcell HB3.out).1 _ q (by simp)).trans (BX.out q)))
    | (go_at_call_of 28 (Value.int .i64 k); refine (Decimal_any k HK.out.1 HK.out.2 _ (by first | exact HTB3.out | exact HTB3.out.drewN 1)).mono ?_; rintro e w4 ⟨rfl, hb4⟩; have HB4 : Hid (Below (w.alloc (.cells #[.int .i64 o, .int .i64 p, .int .i64 r, .int .i64 k, .int .i64 t, .slice A n c] 39)).heap.size (w.alloc (.cells #[.int .i64 o, .int .i64 p, .int .i64 r, .int .i64 k, .int .i64 t, .slice A n c] 39)) w4) := Lib.hid (HB3.out.trans (hb4.mono (by first | (simp; done) | exact HB3.out.size))); clear hb4; have HTB4 := Lib.hid (HTB.out.below HB4.out); have kx4 : ∀ q, w4.cell? ⟨w.heap.size, q, none⟩ = (#[.int .i64 o, .int .i64 p, .int .i64 r, .int .i64 k, .int .i64 t, .slice A n c] : Array Value)[q]? := (fun q => ((bcell HB4.out).1 _ q (by simp)).trans (BX.out q)))
    | (go_at_call_of 28 (Value.int .i64 t); refine (Decimal_any t HT.out.1 HT.out.2 _ (by first | exact HTB4.out | exact HTB4.out.drewN 1)).mono ?_; rintro e w5 ⟨rfl, hb5⟩; have HB5 : Hid (Below (w.alloc (.cells #[.int .i64 o, .int .i64 p, .int .i64 r, .int .i64 k, .int .i64 t, .slice A n c] 39)).heap.size (w.alloc (.cells #[.int .i64 o, .int .i64 p, .int .i64 r, .int .i64 k, .int .i64 t, .slice A n c] 39)) w5) := Lib.hid (HB4.out.trans (hb5.mono (by first | (simp; done) | exact HB4.out.size))); clear hb5; have HTB5 := Lib.hid (HTB.out.below HB5.out); have kx5 : ∀ q, w5.cell? ⟨w.heap.size, q, none⟩ = (#[.int .i64 o, .int .i64 p, .int .i64 r, .int .i64 k, .int .i64 t, .slice A n c] : Array Value)[q]? := (fun q => ((bcell HB5.out).1 _ q (by simp)).trans (BX.out q))))
  rename_i hHeld
  clear hHeld kx1 kx2 kx3 kx4 HB1 HB2 HB3 HB4 HTB1 HTB2 HTB3 HTB4 HTB5
  go_wp2_with fail
  clear kx5 hdo hdp hdr hdk hdt hq0 hq1 hq2 hq3 hq4 hq5 hq6 hq7 hq8 hq9
  go_loopw [3, 5, 34] (fun a _ i wr => ∃ (j : Nat) (s : ByteArray), j ≤ n ∧ i = .int .i64 j ∧ a = .string s ∧ Hid (s = costTo o p r k t z j) ∧ s.size ≤ 160 + 21 * j ∧ Below (w.alloc (.cells #[.int .i64 o, .int .i64 p, .int .i64 r, .int .i64 k, .int .i64 t, .slice A n c] 39)).heap.size (w.alloc (.cells #[.int .i64 o, .int .i64 p, .int .i64 r, .int .i64 k, .int .i64 t, .slice A n c] 39)) wr) (fun a _ i _ => n - (intOf i).toNat)
  case atStart => exact ⟨0, _, Nat.zero_le _, rfl, rfl, rfl, by have := HH.out; unfold costHead at this; omega, HB5.out⟩
  case round =>
    obtain ⟨j, s, hj, rfl, rfl, HS, hs, hb⟩ := hrel
    have HB := Lib.hid hb
    have hbx : ∀ q, wr.cell? ⟨w.heap.size, q, none⟩ = (#[.int .i64 o, .int .i64 p, .int .i64 r, .int .i64 k, .int .i64 t, .slice A n c] : Array Value)[q]? := fun q => ((bcell HB.out).1 _ q (by simp)).trans (BX.out q)
    clear hb
    by_cases hlt : j < n
    · obtain ⟨g, a0, rfl, hg, hra⟩ := HA.out (by omega)
      have hcw := ((bcell HB.out).1 _ _ hg).trans (hra j hlt)
      clear hra
      obtain ⟨x, hx⟩ : ∃ x, x = z j := ⟨_, rfl⟩
      have hxb := HZ.out j hlt
      simp only [← hx] at hcw hxb
      have HX := Lib.hid hx
      have hds := dec_size x hxb.1 hxb.2
      have HXB := Lib.hid hxb
      clear hx hxb
      have b1 : (0 : Int) ≤ (j : Int) := by omega
      have b2 : (j : Int) < (n : Int) := by omega
      go_wp2_with (go_at_call 28; refine (Decimal_any x HXB.out.1 HXB.out.2 _ (HTB.out.below HB.out)).mono ?_; rintro e w2 ⟨rfl, hb2⟩; have HB2 := Lib.hid (HB.out.trans (hb2.mono HB.out.size)); clear hb2)
      go_roundw
      case rel => exact ⟨j + 1, _, by omega, by go_num, rfl, by show _ = _; rw [costTo_next, ← HS.out, ← HX.out], by simp only [ByteArray.size_append]; have : (⟨#[32]⟩ : ByteArray).size = 1 := rfl; omega, HB2.out⟩
      case measure => simp [intOf] <;> omega
    · obtain rfl : n = j := by omega
      go_wp2
      go_ret
      exact ⟨by rw [← HS.out]; rfl, HW.out.trans (HB.out.mono HW.out.size)⟩
end Go.Proofs.YtjegoffdkmbibaaDoor
