/- Walks: the front picture of a chart, by the program. No condition but the bounds. -/
import Derived.Test.YtacppheedleamaaFrontS
import Derived.Test.YtacppheedleamaaAppStep
import Derived.Test.YtacppheedleamaaConv
namespace Go.Proofs.Ytacppheedleamaa
open Go.RowKit
set_option maxRecDepth 20000

def fpN (cols : Int) (n : Nat) (d c : Nat → Int) (ns : Nat → Nat) (z : Nat → Nat → Int) : Nat := if chartB cols n d c ns z then n else 0
def fpC (cols : Int) (n : Nat) (d c : Nat → Int) (ns : Nat → Nat) (z : Nat → Nat → Int) : Int := if chartB cols n d c ns z then 0 else 1
def bys (l : List Int) : List Value := l.map (Value.int .u8)
theorem bys_app (l m : List Int) : bys (l ++ m) = bys l ++ bys m := List.map_append
theorem bys_rep (m : Nat) (x : Int) : (List.range (m * 1)).map (fun _ => Value.int .u8 x) = bys (List.replicate m x) := by
  rw [Nat.mul_one]
  simp [bys, List.map_const']
/-- What the call owns reads as its bytes. -/
theorem own_rd8 {w : World} {B : Nat} {e : TypeId} {A : Option Addr} {n c : Nat} {l : List Int} (h : w.ownsRow B e 1 (.slice A n c) n (bys l)) : Rd w A n (fun j => .int .u8 (l.getD j 0)) := by
  obtain ⟨A', c', e', hn⟩ := own_row h
  injection e' with e1 _ e3
  subst e1
  rw [Nat.mul_one] at hn
  have hl := h.1
  simp [bys] at hl
  exact hn.2.2.congr fun j hj => by
    unfold bys
    rw [getD_map l _ 0 j (by omega)]
theorem strF_list (l : List Int) (n : Nat) (hn : l.length = n) : strF n (fun j => l.getD j 0) = strOfNums l := by
  unfold strF
  congr 1
  apply List.ext_getElem
  · simp [hn]
  · intro i h1 h2
    simp [h2]
theorem sym_at (m : Nat) (h : m < 12) (h0 : 0 < m) : ((⟨#[32, 86, 45, 79, 47, 92, 85, 124, 120, 121, 88, 89]⟩ : ByteArray)[m]'h).toNat = syB m := by
  have : m = 1 ∨ m = 2 ∨ m = 3 ∨ m = 4 ∨ m = 5 ∨ m = 6 ∨ m = 7 ∨ m = 8 ∨ m = 9 ∨ m = 10 ∨ m = 11 := by omega
  rcases this with rfl | rfl | rfl | rfl | rfl | rfl | rfl | rfl | rfl | rfl | rfl <;> rfl
theorem oneCell_u8 (x : Int) : (Value.int .u8 x).oneCell' = true := rfl
set_option maxHeartbeats 8000000 in
theorem implFrontPicture_any (cols : Int) (A : Option Addr) (n q : Nat) (d c : Nat → Int) (As : Nat → Option Addr) (ns cs : Nat → Nat) (z : Nat → Nat → Int) (w : World) (ha : RdRows A n d c As ns cs z w) (hn : n ≤ 1048576) (hns : ∀ j, j < n → ns j ≤ 1048576) :
    Calls Try.prog 17 #[.agg #[.int .i64 cols, .slice A n q]] w (NewP2 w (fpN cols n d c ns z) (fpN cols n d c ns z) (fun j => .string (fpT n ns z j)) (fpC cols n d c ns z)) := by
  obtain ⟨i0, hi, iz, is, ib⟩ := info_parts infoString
  obtain ⟨j0, hj0, jz, js, jb⟩ := info_parts infoByte
  have hL := (Below.refl w.heap.size w).alloc (Nat.le_refl _) (.cells #[.int .i64 cols, .slice A n q] 26)
  have HL := Lib.hid hL
  have hbx := box_new w #[.int .i64 cols, .slice A n q] 26
  have HAT := Lib.hid (show ChartAt (w.alloc (.cells #[.int .i64 cols, .slice A n q] 26)) w.heap.size 0 cols A n q from ⟨hbx 0, hbx 1⟩)
  have HA := Lib.hid ((rdRows_obj A n d c As ns cs z).below ha hL)
  have LA := Lib.hid (rdRows_obj A n d c As ns cs z)
  have HNS := Lib.hid hns
  clear ha hL hbx hns
  go_enter Try.func17, Try.ntmps17
  go_wp2_with fail
  refine (implValidChart_any cols A n q d c As ns cs z _ HA.out hn HNS.out).mono ?_
  rintro e w1 ⟨rfl, hb1⟩
  have HB1 := Lib.hid (HL.out.trans (hb1.mono HL.out.size))
  cases hv : chartB cols n d c ns z
  · clear hb1
    go_wp2
    go_ret2
    exact ⟨none, 0, by simp [fpN, fpC, hv], by simp only [fpN, hv]; exact New.none_ HB1.out _⟩
  obtain ⟨_, _, _, hn8, hk⟩ := chartB_of hv
  have hat1 := HAT.out.below hb1
  have HAT1 := Lib.hid hat1
  have HA1 := Lib.hid (LA.out.below HA.out hb1)
  have HK := Lib.hid hk
  have HV := Lib.hid hv
  have hs1 := hb1.size
  simp only [World.size_alloc] at hs1
  have hlt1 : w.heap.size < w1.heap.size := by omega
  have h1 := hat1.c1
  clear hb1 hk hv hat1
  go_wp2
  clear h1
  go_loopg [4, 5] n (fun qq v iv wr => ∃ k : Nat, k ≤ n ∧ qq + k = n ∧ (∃ i' : Int, iv = .int .i64 i' ∧ Hid (i' = (n : Int) - 1 - k) ∧ -1 ≤ i' ∧ i' ≤ 8) ∧ wr.ownsRow w1.heap.size 9 1 v k (fpV n ns z k) ∧ Below w1.heap.size w1 wr)
  case atStart => exact ⟨0, Nat.zero_le _, rfl, ⟨_, rfl, Lib.hid (by omega), by omega, by omega⟩, World.ownsRow_made _ #[] 0 (Nat.le_refl _) (by unfold maxLen; omega) rfl, (Below.refl _ _).alloc (Nat.le_refl _) _⟩
  case round =>
    obtain ⟨k, hkn, hq, ⟨i', rfl, HI, hi1, hi2⟩, hown, hbl⟩ := hrel
    obtain ⟨W1, rfl⟩ : ∃ W1 : World, W1 = wr := ⟨_, rfl⟩
    have HB := Lib.hid hbl
    have HOWN := Lib.hid hown
    have hsW := hbl.size
    clear hown hbl
    by_cases hlt : k < n
    · obtain ⟨r, rfl⟩ := Int.eq_ofNat_of_zero_le (show 0 ≤ i' by have := HI.out; omega)
      have hr : r = n - 1 - k := by have := HI.out; omega
      have hrn : r < n := by omega
      have HR := Lib.hid hr
      obtain ⟨hm16, hzk⟩ := stitchesB_of (HK.out r hrn)
      have HZK := Lib.hid hzk
      have hwx : w.heap.size < W1.heap.size := by omega
      have h1 := (HAT1.out.below HB.out).c1
      have hrr := LA.out.below HA1.out HB.out
      obtain ⟨gA, oA, rfl, hgA, _, _, r2⟩ := RdRows.row hrr hrn
      have HZ := Lib.hid (hrr.2 r hrn)
      have b1 : (0 : Int) ≤ (r : Int) := by omega
      have b2 : (r : Int) < (n : Int) := by omega
      clear hr hzk hrr
      go_wp2_with fail
      clear h1 r2
      go_loopg [6, 29] (ns r) (fun q2 v kk wi => ∃ j : Nat, j ≤ ns r ∧ q2 + j = ns r ∧ kk = .int .i64 j ∧ wi.ownsRow W1.heap.size 5 1 v (segM (z r) j) (bys (lnL (z r) j)) ∧ Below W1.heap.size W1 wi)
      case atStart => exact ⟨0, Nat.zero_le _, rfl, rfl, World.ownsRow_made _ #[] 0 (Nat.le_refl _) (by unfold maxLen; omega) rfl, (Below.refl _ _).alloc (Nat.le_refl _) _⟩
      case round =>
        obtain ⟨j, hj, hqj, rfl, hown2, hb2⟩ := hrel
        have HB2 := Lib.hid hb2
        have HOWN2 := Lib.hid hown2
        have hs2 := hb2.size
        clear hb2 hown2
        have hsm := segM_le (z r) j
        by_cases hltj : j < ns r
        · obtain ⟨gz, oz, ez, hgz, hrz⟩ := HZ.out.below HB2.out (by omega)
          rw [ez]
          have hcz := hrz j hltj
          have hzk := HZK.out j hltj
          have HLN := Lib.hid (show lnL (z r) (j + 1) = lnL (z r) j ++ List.replicate (mkN (z r j)) (syB (z r j)) from rfl)
          have HSM := Lib.hid (show segM (z r) (j + 1) = segM (z r) j + mkN (z r j) from rfl)
          have hmk := mkN_le (z r j)
          clear hrz
          obtain ⟨y, hy⟩ : ∃ y, y = z r j := ⟨_, rfl⟩
          simp only [← hy] at hcz hzk HLN hmk HSM
          clear hy
          have hmp : 0 < mkN y := by
            unfold mkN
            repeat' split
            all_goals omega
          have h11 := kinds_11 hzk
          clear h11
          obtain ⟨m, rfl⟩ := Int.eq_ofNat_of_zero_le (show 0 ≤ y by omega)
          have hm12 : m < 12 := by omega
          have hm0 : 0 < m := by omega
          go_wp2_with fail
          go_region_held3 (fun _ => True) (trivial) (first
            | (go_at_call 41; refine (implColumnsMade_any _ _ (by omega)).mono ?_; rintro e w' ⟨rfl, rfl⟩)
            | (go_at_call 40; refine (repeat_any wr.heap.size _ _ (wr.drew.alloc _) (cell_alloc_at rfl 0) (by omega)).mono ?_; rintro e w3 ⟨A3, c3, rfl, hn3⟩; obtain ⟨g3, o3, rfl, hg3, hg3', hr3, _⟩ := new_row hn3 hmp; have hb3 : Below wr.heap.size wr w3 := Below.trans (((Below.drewN' (Below.refl _ _) 1).alloc (Nat.le_refl _) _)) (hn3.bl.mono (by simp)); have hown3 := own_below HOWN2.out hb3)
            | (refine step_appR w3 rfl (.tmp 33) (.tmp 39) _ rfl W1.heap.size 5 j0 _ 1 1 Try.underlying22 hj0 jz js jb rfl (by omega) u6 (segM (z r) j) (bys (lnL (z r) j)) rfl hown3 g3 o3 _ _ _ rfl (by rw [Nat.mul_one]; exact hr3) (fun _ => oneCell_u8 _) (by unfold maxLen; omega) (by omega) (by have := hb3.size; omega) ?_; intro v' w' hown' hf'))
          all_goals
            have HB4 := Lib.hid (HB2.out.trans ((hb3.mono HB2.out.size).trans (hf'.own hown3 (by have := hb3.size; omega))))
            rw [sym_at m hm12 hm0, bys_rep, ← bys_app, ← HLN.out, ← HSM.out] at hown'
            have HOWN4 := Lib.hid hown'
            clear hown' hf' hb3 hown3 hn3 hr3 hg3 hg3'
            go_wp2
            rw [← ez]
            go_roundg (ns r - (j + 1))
            case measure => omega
            case rel => exact ⟨j + 1, by omega, by omega, by go_num, HOWN4.out, HB4.out⟩
        · obtain rfl : j = ns r := by omega
          obtain ⟨A6, c6, rfl, _⟩ := own_row HOWN2.out
          have kc' := conv_rd (c := c6) (own_rd8 HOWN2.out)
          obtain ⟨T, hT⟩ : ∃ T, T = fpT n ns z k := ⟨_, rfl⟩
          rw [strF_list _ _ (lnL_length _ _), show strOfNums (lnL (z r) (ns r)) = T from by rw [hT, fpT, ← HR.out]] at kc'
          have kc := kc'
          have HT := Lib.hid hT
          have HB4 := Lib.hid (HB.out.trans (HB2.out.mono (by omega)))
          have HOWN4 := Lib.hid (own_below HOWN.out HB2.out)
          clear hT kc'
          go_wp2_with (at_builtin; go_must (refine wpList_app wr rfl (.tmp 42) (.tmp 45) _ rfl w1.heap.size 9 i0 _ 1 16 Try.underlying46 hi iz is ib rfl (by omega) u4 k (fpV n ns z k) rfl HOWN4.out _ 1 1 _ rfl rfl (by simp [Value.oneCell']) (by unfold maxLen; omega) (by omega) HB4.out.size ?_); intro v' w' hown' hb'; have HOWN' := Lib.hid hown'; have HB' := Lib.hid (HB4.out.trans hb'); clear hown' hb')
          go_roundg (n - (k + 1))
          case measure => omega
          case rel => exact ⟨k + 1, by omega, by omega, ⟨_, rfl, Lib.hid (by have := HI.out; omega), by omega, by omega⟩, by rw [fpV_next, ← HT.out]; exact HOWN'.out, HB'.out⟩
    · have hi0 : i' < 0 := by have := HI.out; omega
      obtain rfl : n = k := by omega
      obtain ⟨A4, c4, rfl, hnew⟩ := New.of_own (w := w1) HB.out HOWN.out
      have HN := Lib.hid (hnew.under HB1.out)
      clear hnew
      go_wp2
      go_ret2
      have e1 : fpN cols n d c ns z = n := by simp [fpN, HV.out]
      rw [e1]
      refine ⟨A4, c4, by simp [fpC, HV.out], ?_⟩
      have := HN.out
      rw [Nat.mul_one] at this
      exact this.congr fun j hj => by simp [fpV, List.getD, hj]
end Go.Proofs.Ytacppheedleamaa
