/- Walks of the laws' helpers on texts: markText, eqStringS, markStringS, heldStringS. -/
import Derived.Test.YtfncdogbpmiomaaBase
import Derived.Deep.RegionHeld3
import Derived.Deep.QuietTactic
import Derived.BigQuiet
import Derived.Laws.BytesArg
import Derived.Lib.Hide
namespace Go.Proofs.Ytfncdogbpmiomaa
open Go.RowKit

/-- The decimal digits of n ahead of s. -/
def mtGo : Nat → Nat → ByteArray → ByteArray
  | 0, _, s => s
  | f + 1, n, s => if n = 0 then s else mtGo f (n / 10) (strOfNums [48 + (n : Int) % 10] ++ s)
/-- The text that the laws mark a place with. -/
def mtS (k : Int) : ByteArray := if k ≤ 0 then ⟨#[109, 48]⟩ else ⟨#[109]⟩ ++ mtGo k.toNat k.toNat ⟨#[]⟩
theorem mtGo_zero (f : Nat) (s : ByteArray) : mtGo f 0 s = s := by cases f <;> simp [mtGo]
theorem mtGo_step {f n : Nat} {s : ByteArray} (hn : 0 < n) : mtGo (f + 1) n s = mtGo f (n / 10) (strOfNums [48 + (n : Int) % 10] ++ s) := by
  rw [mtGo, if_neg (by omega)]

/-- 'string([]byte{x})' of a row that was just laid. -/
theorem conv_one (W : World) (x : Int) : (convert 58 9 (.slice (some ⟨W.heap.size, 0, none⟩) 1 1)).run Try.prog (W.alloc (.cells #[.int .u8 x] 5)) = .ok (.string (strOfNums [x])) (W.alloc (.cells #[.int .u8 x] 5)) :=
  run_convert_bytes_arg (P := Try.prog) _ 58 5 Try.underlying58 Try.underlying5 W.heap.size 0 1 1 [x] rfl (fun i hi => by
    obtain rfl : i = 0 := by omega
    simp [World.cell?_alloc_at]) 9 Try.underlying9

set_option maxHeartbeats 400000 in
theorem markText_any (k : Int) (hk : k ≤ 1000000000000000000) (w : World) :
    Calls Try.prog 79 #[.int .i64 k] w fun e w' => e = .returned (.string (mtS k)) ∧ Below w.heap.size w w' := by
  by_cases h : k ≤ 0
  · go_enter Try.func79, Try.ntmps79
    go_wp2
    go_ret
    exact ⟨by simp [mtS, h], Below.refl _ _⟩
  · obtain ⟨K, rfl⟩ : ∃ K : Nat, k = K := ⟨k.toNat, by omega⟩
    have hfin : ∀ s, mtGo K K ⟨#[]⟩ = s → ({ data := #[109] } ++ s : ByteArray) = mtS (K : Int) := fun s hs => by
      rw [mtS, if_neg h, Int.toNat_natCast, hs]
    have HF := Lib.hid hfin
    clear hfin
    have kc := conv_one
    go_enter Try.func79, Try.ntmps79
    go_wp2
    go_loopw [0, 3] (fun kk out wr => ∃ n f : Nat, ∃ s : ByteArray, kk = .int .i64 n ∧ n ≤ f ∧ n + s.size ≤ K ∧ out = .string s ∧ Below w.heap.size w wr ∧ Hid (mtGo K K ⟨#[]⟩ = mtGo f n s)) (fun kk _ _ => (intOf kk).toNat)
    case atStart => exact ⟨K, K, ⟨#[]⟩, rfl, Nat.le_refl _, Nat.le_refl K, rfl, Below.refl _ _, rfl⟩
    case round =>
      obtain ⟨n, f, s, rfl, hf, hs, rfl, hb, HS⟩ := hrel
      by_cases hz : 0 < n
      · have hsz : (strOfNums [48 + (n : Int) % 10]).size = 1 := strOfNums_size _
        go_wp2
        go_roundw
        case rel => 
          obtain ⟨f', rfl⟩ : ∃ f', f = f' + 1 := ⟨f - 1, by omega⟩
          have e := HS.out
          rw [mtGo_step hz] at e
          exact ⟨n / 10, f', _, by go_num, by omega, by simp [strOfNums_size]; omega, rfl, hb.alloc hb.size _, e⟩
        case measure => simp [intOf]; omega
      · go_wp2
        obtain rfl : n = 0 := by omega
        have e := HS.out
        rw [mtGo_zero] at e
        go_ret
        exact ⟨ret_str (HF.out s e), hb⟩
set_option maxHeartbeats 400000 in
theorem eqStringS_any (A A' : Option Addr) (n c c' : Nat) (s : Nat → ByteArray) (w : World) (ha : Rd w A n (fun j => .string (s j))) (hb : Rd w A' n (fun j => .string (s j))) (hn : n ≤ 1000000000) :
    Calls Try.prog 20 #[.slice A n c, .slice A' n c'] w fun e w' => e = .returned (.bool true) ∧ Below w.heap.size w w' := by
  have HA := Lib.hid ha
  have HB := Lib.hid hb
  clear ha hb
  go_enter Try.func20, Try.ntmps20
  go_wp2
  go_loopw [5] (fun i wr => ∃ k : Nat, k ≤ n ∧ i = .int .i64 k ∧ ∃ q, wr = w.drewN q) (fun i _ => n - (intOf i).toNat)
  case atStart => exact ⟨0, Nat.zero_le _, rfl, 0, rfl⟩
  case round =>
    obtain ⟨k, hk, rfl, q, rfl⟩ := hrel
    by_cases hlt : k < n
    · obtain ⟨g, o, rfl, hc⟩ := HA.out.row hlt
      obtain ⟨g', o', rfl, hc'⟩ := HB.out.row hlt
      obtain ⟨x, hx⟩ : ∃ x, x = s k := ⟨_, rfl⟩
      rw [← hx] at hc hc'
      clear hx
      go_wp2
      go_quiet (fail)
      go_wp2
      go_roundw
      case rel => exact ⟨k + 1, by omega, by go_num, q + nq, rfl⟩
      case measure => simp [intOf]; omega
    · obtain rfl : k = n := by omega
      go_wp2
      go_ret
      exact ⟨rfl, Below.drewN' (Below.refl _ _) q⟩

set_option maxHeartbeats 400000 in
theorem markStringS_any (A : Option Addr) (n c : Nat) (k : Int) (w : World) (h : Wr w A n) (hn : n ≤ 1000000000) (h0 : 0 ≤ k) (hk : k ≤ 1000000000) :
    Calls Try.prog 23 #[.slice A n c, .int .i64 k] w (MarkP w A n (k + n) (fun j => .string (mtS (k + j)))) := by
  by_cases hz : n = 0
  · subst hz
    go_enter Try.func23, Try.ntmps23
    go_wp2
    go_loop [1, 5] (fun kk i => kk = .int .i64 k ∧ i = .int .i64 0) (fun _ _ => 0)
    case atStart => exact ⟨rfl, rfl⟩
    case round =>
      obtain ⟨rfl, rfl⟩ := hrel
      go_wp2
      go_ret
      exact ⟨ret_int (by simp), Nat.le_refl _, fun _ => rfl, fun _ _ _ h => absurd h (by omega)⟩
  · obtain ⟨g, o, rfl, hw⟩ := h (by omega)
    clear h
    have hg := hw.lt (by omega)
    have HW := Lib.hid hw
    clear hw
    go_enter Try.func23, Try.ntmps23
    go_wp2
    go_loopw [1, 5] (fun kk i wr => ∃ q : Nat, q ≤ n ∧ i = .int .i64 q ∧ kk = .int .i64 (k + q) ∧ g < wr.heap.size ∧ Only w wr g ∧ RowW wr g o n ∧ RowR wr g o q (fun j => .string (mtS (k + j)))) (fun _ i _ => n - (intOf i).toNat)
    case atStart => exact ⟨0, Nat.zero_le _, rfl, by simp, hg, Only.refl _ _, HW.out, fun j hj => absurd hj (by omega)⟩
    case round =>
      obtain ⟨q, hq, rfl, rfl, hgr, ho, hw, hr⟩ := hrel
      have HO := Lib.hid ho
      have HW' := Lib.hid hw
      have HR := Lib.hid hr
      clear ho hw hr
      by_cases hlt : q < n
      · go_wp2_with fail
        refine (markText_any (k + q) (by omega) _).mono ?_
        rintro e w1 ⟨rfl, hb1⟩
        have hw1 := HW'.out.below hb1
        obtain ⟨⟨u, hu⟩, hf⟩ := hw1 q hlt
        have hg1 : g < w1.heap.size := blt hb1 hgr
        have HW1 := Lib.hid hw1
        have HB1 := Lib.hid hb1
        clear hw1 hb1
        go_wp2
        go_roundw
        case rel =>
          refine ⟨q + 1, by omega, by go_num, by go_num, by simp; exact hg1, (HO.out.below HB1.out).set _ _, HW1.out.set _ _, fun j hj => ?_⟩
          by_cases hjq : j = q
          · subst hjq
            exact World.cell?_setCell_same _ _ _ hu
          · exact ((HR.out.below hgr HB1.out).set (Nat.le_refl _) _) j (by omega)
        case measure => simp [intOf]; omega
      · obtain rfl : q = n := by omega
        go_wp2
        go_ret
        exact ⟨rfl, HO.out.size, fun h => absurd h hz, fun g' o' e _ => by injection e with e; injection e with e1 e2; subst e1 e2; exact ⟨HO.out, HW'.out, HR.out⟩⟩

set_option maxHeartbeats 400000 in
theorem heldStringS_any (A : Option Addr) (n c : Nat) (k : Int) (w : World) (h : Rd w A n (fun j => .string (mtS (k + j)))) (hn : n ≤ 1000000000) (h0 : 0 ≤ k) (hk : k ≤ 1000000000) :
    Calls Try.prog 24 #[.slice A n c, .int .i64 k] w fun e w' => e = .returned (.int .i64 (k + n)) ∧ Below w.heap.size w w' := by
  have H := Lib.hid h
  clear h
  go_enter Try.func24, Try.ntmps24
  go_wp2
  go_loopw [1, 5] (fun kk i wr => ∃ q : Nat, q ≤ n ∧ i = .int .i64 q ∧ kk = .int .i64 (k + q) ∧ Below w.heap.size w wr) (fun _ i _ => n - (intOf i).toNat)
  case atStart => exact ⟨0, Nat.zero_le _, rfl, by simp, Below.refl _ _⟩
  case round =>
    obtain ⟨q, hq, rfl, rfl, hb⟩ := hrel
    by_cases hlt : q < n
    · obtain ⟨g, o, rfl, hg, hr⟩ := H.out (by omega)
      have hgr : g < wr.heap.size := blt hb hg
      have hc : wr.cell? ⟨g, o + q, none⟩ = some (.string (mtS (k + q))) := ((bcell hb).1 _ _ hg).trans (hr q hlt)
      have HB := Lib.hid hb
      clear hr hb
      have hi1 : (0 : Int) ≤ (q : Int) := by omega
      have hi2 : (q : Int) < (n : Int) := by omega
      go_wp2
      go_region_held3 (fun w' => w'.cell? ⟨g, o + q, none⟩ = some (.string (mtS (k + q)))) (first | go_keep | (rw [hk1]; assumption)) (first | (go_at_call 79; refine (markText_any (k + q) (by omega) _).mono ?_; rintro e w1 ⟨rfl, hb1⟩; have hk1 := (bcell hb1).1 g (o + q) (by simpa using hgr)))
      go_wp2
      go_roundw
      case rel => exact ⟨q + 1, by omega, by go_num, by go_num, (Below.drewN' HB.out 1).trans (hb1.mono HB.out.size)⟩
      case measure => simp [intOf]; omega
    · obtain rfl : q = n := by omega
      go_wp2
      go_ret
      exact ⟨rfl, hb⟩

/-- What the count of a text slice's size says: it ran out, or the slice is not long and no text in it is. -/
def SzS (n : Nat) (s : Nat → ByteArray) (r : Int) : Prop := r < 0 ∨ (n ≤ 1048576 ∧ ∀ j, j < n → (s j).size ≤ 1048576)
def SzSP (w : World) (n : Nat) (s : Nat → ByteArray) (e : Ending) (w' : World) : Prop := ∃ r : Int, SzS n s r ∧ e = .returned (.int .i64 r) ∧ w = w'

theorem infoString : (Try.prog.info? 9).map (fun i => (i.zero, i.size, i.bytes)) = some (some (.string ByteArray.empty), 1, 16) := by kernel_rfl
theorem infoByte : (Try.prog.info? 5).map (fun i => (i.zero, i.size, i.bytes)) = some (some (.int .u8 0), 1, 1) := by kernel_rfl

/-- A function that hands back a new slice of n elements without spare room, whose N cells read as f. -/
def FullP (w : World) (n N : Nat) (f : Nat → Value) (e : Ending) (w' : World) : Prop := ∃ A, e = .returned (.slice A n n) ∧ New w w' A N f
end Go.Proofs.Ytfncdogbpmiomaa
