/- Walks: the stacks behind a row of stitches, by the reference. No condition but the bounds. -/
import Derived.Test.YtacppheedleamaaChartB
import Derived.Deep.LoopGhost
import Derived.Deep.QuietTactic
import Derived.BigQuiet
namespace Go.Proofs.Ytacppheedleamaa
open Go.RowKit
set_option maxRecDepth 20000

theorem at_below {B : Nat} {w w' : World} {g o : Nat} {v : Value} (hb : Below B w w') (hg : g < B) (h : w.cell? ⟨g, o, none⟩ = some v) : w'.cell? ⟨g, o, none⟩ = some v := ((bcell hb).1 g o hg).trans h
theorem New.then {w w1 w2 : World} {A : Option Addr} {N : Nat} {f : Nat → Value} (h : New w w1 A N f) (hb : Below w1.heap.size w1 w2) : New w w2 A N f :=
  ⟨h.bl.trans (hb.mono h.bl.size), h.ab, h.bb.mono hb.size, h.wr.below hb, h.rd.below hb⟩
theorem i64c {a b : Int} (h : a = b) : Value.int .i64 a = .int .i64 b := by rw [h]
set_option maxHeartbeats 4000000 in
theorem l14After_any (A : Option Addr) (n c : Nat) (A2 : Option Addr) (m c2 : Nat) (s z : Nat → Int) (w : World) (ha : Rd w A n (fun j => .int .i64 (s j))) (hb : Rd w A2 m (fun j => .int .i64 (z j))) (hs : stacksB s n = true) (hz : stitchesB z m = true) (ht : segT z m = n) :
    Calls Try.prog 88 #[.slice A n c, .slice A2 m c2] w (NewPC w (segM z m) (segM z m) (fun j => .int .i64 ((aft s z m).getD j 0))) := by
  obtain ⟨i0, hi, iz, is, ib⟩ := info_parts info64
  have HA := Lib.hid ha
  have HZ := Lib.hid hb
  obtain ⟨hm16, hzk⟩ := stitchesB_of hz
  obtain ⟨hn8, hsk⟩ := stacksB_of hs
  have HZK := Lib.hid hzk
  have HSK := Lib.hid hsk
  have HT := Lib.hid ht
  clear ha hb hzk hsk hs hz ht
  go_enter Try.func88, Try.ntmps88
  go_wp2
  go_loopg [5, 6, 7] m (fun q v at_ i wr => ∃ k : Nat, k ≤ m ∧ q + k = m ∧ i = .int .i64 k ∧ at_ = .int .i64 (segT z k) ∧ wr.ownsRow w.heap.size 2 1 v (segM z k) (ints (aft s z k)) ∧ Below w.heap.size w wr)
  case atStart => exact ⟨0, Nat.zero_le _, rfl, rfl, rfl, World.ownsRow_made _ #[] 0 (Nat.le_refl _) (by unfold maxLen; omega) rfl, (Below.refl _ _).alloc (Nat.le_refl _) _⟩
  case round =>
    obtain ⟨k, hk, hq, rfl, rfl, hown, hbl⟩ := hrel
    have HB := Lib.hid hbl
    have HOWN := Lib.hid hown
    clear hbl hown
    have hTk := segT_le z k
    have hMk := segM_le z k
    by_cases hlt : k < m
    · obtain ⟨gz, oz, rfl, hgz, hrz⟩ := HZ.out (by omega)
      have HZ0 := Lib.hid (hrz k hlt)
      have hcz := at_below HB.out hgz HZ0.out
      have hzk := HZK.out k hlt
      clear hrz
      have HT2 := Lib.hid (show segT z (k + 1) = segT z k + tkN (z k) from rfl)
      have HM2 := Lib.hid (show segM z (k + 1) = segM z k + mkN (z k) from rfl)
      have HA2 := Lib.hid (show aft s z (k + 1) = aft s z k ++ madeL (z k) (s (segT z k)) from rfl)
      have hTk1 : segT z k + tkN (z k) ≤ n := by
        have := segT_mono z (show k + 1 ≤ m by omega)
        have := HT.out
        have := HT2.out
        omega
      have htk := tkN_le (z k)
      have hmk := mkN_le (z k)
      by_cases h6 : z k = 6
      · have ht1 : tkN (z k) = 1 := by rw [h6]; rfl
        have hm1 : mkN (z k) = 1 := by rw [h6]; rfl
        obtain ⟨g, o, rfl, hg, hr⟩ := HA.out (by omega)
        have hcs := at_below HB.out hg (hr (segT z k) (by omega))
        have hsb := HSK.out (segT z k) (by omega)
        have HA3 := Lib.hid (show madeL (z k) (s (segT z k)) = [s (segT z k) + 1] by unfold madeL; rw [if_pos h6])
        obtain ⟨x, hx⟩ : ∃ x, x = s (segT z k) := ⟨_, rfl⟩
        simp only [← hx] at hcs hsb HA3
        have HX := Lib.hid hx
        simp only [h6] at hcz
        have hz0' := HZ0.out
        simp only [h6] at hz0'
        replace HZ0 := Lib.hid hz0'
        clear hz0'
        have HT1 := Lib.hid ht1
        have HM1 := Lib.hid hm1
        have hTkn : segT z k < n := by omega
        have ht6 := tkN_le 6
        clear hr h6 hx ht1 hm1
        go_wp2_with (at_builtin; go_must (refine wpList_app wr rfl (.tmp 34) (.tmp 40) _ rfl w.heap.size 2 i0 _ 1 8 Try.underlying38 hi iz is ib rfl (by omega) u5 (segM z k) (ints (aft s z k)) rfl HOWN.out _ 1 1 _ rfl rfl (by simp [Value.oneCell']) (by unfold maxLen; omega) (by omega) HB.out.size ?_); intro v' w' hown' hb'; have HOWN' := Lib.hid hown'; have HB' := Lib.hid (HB.out.trans hb'); have hcz' := at_below HB'.out hgz HZ0.out; clear hown' hb')
        with_reducible refine (specColumnsTaken_any 6 _ (by omega)).mono ?_
        rintro e w2 ⟨rfl, hb2⟩
        have HB2 := Lib.hid (HB'.out.trans (hb2.mono HB'.out.size))
        have HOWN2 := Lib.hid (own_below HOWN'.out hb2)
        clear hb2 hcz hcz' hcs
        go_wp2
        go_roundg (gk - 1)
        case measure => omega
        case rel =>
          exact ⟨k + 1, by omega, by omega, by go_num, i64c (by rw [HT2.out, HT1.out, show tkN 6 = 1 from rfl]; simp), by rw [HM2.out, HM1.out, HA2.out, ← HX.out, HA3.out, ints_app]; exact HOWN2.out, HB2.out⟩
      by_cases h7 : z k = 7
      · have ht1 : tkN (z k) = 1 := by rw [h7]; rfl
        have hm1 : mkN (z k) = 1 := by rw [h7]; rfl
        obtain ⟨g, o, rfl, hg, hr⟩ := HA.out (by omega)
        have hcs := at_below HB.out hg (hr (segT z k) (by omega))
        have hsb := HSK.out (segT z k) (by omega)
        have HA3 := Lib.hid (show madeL (z k) (s (segT z k)) = [s (segT z k)] by unfold madeL; rw [if_neg h6, if_pos h7])
        obtain ⟨x, hx⟩ : ∃ x, x = s (segT z k) := ⟨_, rfl⟩
        simp only [← hx] at hcs hsb HA3
        have HX := Lib.hid hx
        simp only [h7] at hcz
        have hz0' := HZ0.out
        simp only [h7] at hz0'
        replace HZ0 := Lib.hid hz0'
        clear hz0'
        have HT1 := Lib.hid ht1
        have HM1 := Lib.hid hm1
        have hTkn : segT z k < n := by omega
        have ht6 := tkN_le 7
        clear hr h7 hx ht1 hm1
        go_wp2_with (at_builtin; go_must (refine wpList_app wr rfl (.tmp 44) (.tmp 49) _ rfl w.heap.size 2 i0 _ 1 8 Try.underlying38 hi iz is ib rfl (by omega) u5 (segM z k) (ints (aft s z k)) rfl HOWN.out _ 1 1 _ rfl rfl (by simp [Value.oneCell']) (by unfold maxLen; omega) (by omega) HB.out.size ?_); intro v' w' hown' hb'; have HOWN' := Lib.hid hown'; have HB' := Lib.hid (HB.out.trans hb'); have hcz' := at_below HB'.out hgz HZ0.out; clear hown' hb')
        with_reducible refine (specColumnsTaken_any 7 _ (by omega)).mono ?_
        rintro e w2 ⟨rfl, hb2⟩
        have HB2 := Lib.hid (HB'.out.trans (hb2.mono HB'.out.size))
        have HOWN2 := Lib.hid (own_below HOWN'.out hb2)
        clear hb2 hcz hcz' hcs
        go_wp2
        go_roundg (gk - 1)
        case measure => omega
        case rel =>
          exact ⟨k + 1, by omega, by omega, by go_num, i64c (by rw [HT2.out, HT1.out, show tkN 7 = 1 from rfl]; simp), by rw [HM2.out, HM1.out, HA2.out, ← HX.out, HA3.out, ints_app]; exact HOWN2.out, HB2.out⟩
      have HA3 := Lib.hid (show madeL (z k) (s (segT z k)) = List.replicate (mkN (z k)) 1 by unfold madeL; rw [if_neg h6, if_neg h7])
      obtain ⟨y, hy⟩ : ∃ y, y = z k := ⟨_, rfl⟩
      simp only [← hy] at hcz hzk h6 h7 HT2 HM2 HA2 HA3 hTk1 htk hmk HZ0
      have HY := Lib.hid hy
      clear hy
      go_wp2_with fail
      with_reducible refine (specColumnsMade_any y _ hzk).mono ?_
      rintro e w1 ⟨rfl, hb1⟩
      have HB1 := Lib.hid (HB.out.trans (hb1.mono HB.out.size))
      have HOWN1 := Lib.hid (own_below HOWN.out hb1)
      clear hb1 hcz
      go_wp2_with fail
      go_loopg [5, 8] (mkN y) (fun q v kk wi => ∃ j : Nat, j ≤ mkN y ∧ q + j = mkN y ∧ kk = .int .i64 ((mkN y - j : Nat) : Int) ∧ wi.ownsRow w.heap.size 2 1 v (segM z k + j) (ints (aft s z k) ++ ints (List.replicate j 1)) ∧ Below w.heap.size w wi)
      case atStart => exact ⟨0, Nat.zero_le _, rfl, rfl, by simpa [ints] using HOWN1.out, HB1.out⟩
      case round =>
        obtain ⟨j, hj, hq2, rfl, hown2, hbl2⟩ := hrel
        have HB2 := Lib.hid hbl2
        have HOWN2 := Lib.hid hown2
        clear hown2 hbl2
        by_cases hlt2 : j < mkN y
        · have b1 : (0 : Int) < ((mkN y - j : Nat) : Int) := by omega
          go_wp2_with (at_builtin; go_must (refine wpList_app wr rfl (.tmp 29) (.tmp 30) _ rfl w.heap.size 2 i0 _ 1 8 Try.underlying38 hi iz is ib rfl (by omega) u5 (segM z k + j) (ints (aft s z k) ++ ints (List.replicate j 1)) rfl HOWN2.out _ 1 1 _ rfl rfl (by simp [Value.oneCell']) (by unfold maxLen; omega) (by omega) HB2.out.size ?_); intro v' w' hown' hb'; have HOWN' := Lib.hid hown'; have HB' := Lib.hid (HB2.out.trans hb'); clear hown' hb')
          go_roundg (mkN y - (j + 1))
          case measure => omega
          case rel => exact ⟨j + 1, by omega, by omega, i64c (by omega), by have := HOWN'.out; rw [List.replicate_succ', ints_app, ← List.append_assoc]; exact this, HB'.out⟩
        · obtain rfl : j = mkN y := by omega
          have hcz := at_below HB2.out hgz HZ0.out
          go_wp2_with fail
          with_reducible refine (specColumnsTaken_any y _ hzk).mono ?_
          rintro e w3 ⟨rfl, hb3⟩
          have HB3 := Lib.hid (HB2.out.trans (hb3.mono HB2.out.size))
          have HOWN3 := Lib.hid (own_below HOWN2.out hb3)
          clear hb3 hcz
          go_wp2
          go_roundg (m - (k + 1))
          case measure => omega
          case rel => exact ⟨k + 1, by omega, by omega, by go_num, i64c (by rw [HT2.out]; omega), by rw [HM2.out, HA2.out, HA3.out, ints_app]; exact HOWN3.out, HB3.out⟩
    · obtain rfl : m = k := by omega
      obtain ⟨A4, c4, rfl, hc4, hnew⟩ := New.of_own_c (w := w) HB.out HOWN.out
      have HN := Lib.hid hnew
      clear hnew
      go_wp2
      go_ret
      refine ⟨A4, c4, rfl, hc4, ?_⟩
      have := HN.out
      rw [Nat.mul_one] at this
      exact this.congr fun j hj => by rw [← ints_get (aft s z m) (segM z m) (aft_length HZK.out (Nat.le_refl _))]; simp [List.getD, hj]

/-- Two columns that are knitted together are too thick. -/
def twoB (k a b : Int) : Bool := (k == 4 || k == 5) && decide (4 < a + b)
def thB (s z : Nat → Int) : Nat → Bool
  | 0 => false
  | i + 1 => thB s z i || twoB (z i) (s (segT z i)) (s (segT z i + 1))
theorem thB_true {s z : Nat → Int} {i m : Nat} (hi : i < m) (h : twoB (z i) (s (segT z i)) (s (segT z i + 1)) = true) : thB s z m = true := by
  induction m with
  | zero => omega
  | succ m ih =>
    simp only [thB]
    by_cases him : i = m
    · subst him; rw [h]; simp
    · rw [ih (by omega)]; rfl
theorem allB_list (p : Int → Bool) (l : List Int) (n : Nat) (hn : n ≤ l.length) : allB p (fun j => l.getD j 0) n = (l.take n).all p := by
  induction n with
  | zero => simp [allB]
  | succ n ih =>
    simp only [allB]
    rw [ih (by omega), List.take_succ_eq_append_getElem (show n < l.length by omega), List.all_append]
    simp [List.getD, List.getElem?_eq_getElem (show n < l.length by omega)]
theorem madeL_all {k t b : Int} (hk : 1 ≤ k ∧ k ≤ 11) (ht : 0 < tkN k → 1 ≤ t ∧ t ≤ 4) : ((madeL k t).all stackB && !twoB k t b) = oneB k t b := by
  unfold madeL oneB twoB
  by_cases h6 : k = 6
  · subst h6
    have := ht (by decide)
    rw [if_pos rfl, if_pos rfl, Bool.eq_iff_iff]
    simp [stackB, inB]
    exact ⟨fun h => by omega, fun h => by omega⟩
  · rw [if_neg h6, if_neg h6]
    by_cases h7 : k = 7
    · subst h7
      have := ht (by decide)
      simp [stackB, inB, this.1, this.2]
    · rw [if_neg h7]
      have h1 : (List.replicate (mkN k) (1 : Int)).all stackB = true := by simp [List.all_replicate, stackB, inB]
      rw [h1]
      by_cases h45 : k = 4 ∨ k = 5
      · rw [if_pos h45]
        rcases h45 with rfl | rfl
        all_goals
          rw [Bool.eq_iff_iff]
          simp
      · rw [if_neg h45]
        simp only [not_or] at h45
        simp [h45.1, h45.2]
theorem fit_iff {s z : Nat → Int} {n m : Nat} (hs : stacksB s n = true) (hz : stitchesB z m = true) (ht : segT z m = n) {i : Nat} (hi : i ≤ m) : ((aft s z i).all stackB && !thB s z i) = fitB s z i := by
  obtain ⟨_, hzk⟩ := stitchesB_of hz
  obtain ⟨_, hsk⟩ := stacksB_of hs
  induction i with
  | zero => rfl
  | succ i ih =>
    have h1 := madeL_all (k := z i) (t := s (segT z i)) (b := s (segT z i + 1)) (hzk i (by omega)) (fun h0 => hsk _ (by
      have := segT_mono z (show i + 1 ≤ m by omega)
      simp only [segT] at this
      omega))
    simp only [aft, thB, fitB, List.all_append]
    rw [← ih (by omega), ← h1]
    cases (aft s z i).all stackB <;> cases (madeL (z i) (s (segT z i))).all stackB <;> cases thB s z i <;> cases twoB (z i) (s (segT z i)) (s (segT z i + 1)) <;> rfl
theorem stacks_fit {s z : Nat → Int} {n m : Nat} (hs : stacksB s n = true) (hz : stitchesB z m = true) (ht : segT z m = n) : (stacksB (fun j => (aft s z m).getD j 0) (segM z m) && !thB s z m) = (fitB s z m && decide (segM z m ≤ 8)) := by
  have hl := aft_length (s := s) (stitchesB_of hz).2 (Nat.le_refl m)
  unfold stacksB
  rw [allB_list stackB (aft s z m) (segM z m) (by omega), List.take_of_length_le (by omega), ← fit_iff hs hz ht (Nat.le_refl m)]
  cases decide (segM z m ≤ 8) <;> cases (aft s z m).all stackB <;> cases thB s z m <;> rfl

set_option maxHeartbeats 4000000 in
theorem l14Thick_any (A : Option Addr) (n c : Nat) (A2 : Option Addr) (m c2 : Nat) (s z : Nat → Int) (w : World) (ha : Rd w A n (fun j => .int .i64 (s j))) (hb : Rd w A2 m (fun j => .int .i64 (z j))) (hs : stacksB s n = true) (hz : stitchesB z m = true) (ht : segT z m = n) :
    Calls Try.prog 89 #[.slice A n c, .slice A2 m c2] w fun e w' => e = .returned (.bool (thB s z m)) ∧ Below w.heap.size w w' := by
  have HA := Lib.hid ha
  have HZ := Lib.hid hb
  obtain ⟨hm16, hzk⟩ := stitchesB_of hz
  obtain ⟨hn8, hsk⟩ := stacksB_of hs
  have HZK := Lib.hid hzk
  have HSK := Lib.hid hsk
  have HT := Lib.hid ht
  clear ha hb hzk hsk hs hz ht
  go_enter Try.func89, Try.ntmps89
  go_wp2
  go_loopw [5, 6] (fun at_ i wr => ∃ k : Nat, k ≤ m ∧ i = .int .i64 k ∧ at_ = .int .i64 (segT z k) ∧ Hid (thB s z k = false) ∧ Below w.heap.size w wr) (fun _ i _ => m - (intOf i).toNat)
  case atStart => exact ⟨0, Nat.zero_le _, rfl, rfl, Lib.hid rfl, Below.refl _ _⟩
  case round =>
    obtain ⟨k, hk, rfl, rfl, HTH, hbl⟩ := hrel
    have HB := Lib.hid hbl
    clear hbl
    have hTk := segT_le z k
    by_cases hlt : k < m
    · obtain ⟨gz, oz, rfl, hgz, hrz⟩ := HZ.out (by omega)
      have HZ0 := Lib.hid (hrz k hlt)
      have hzk := HZK.out k hlt
      clear hrz
      have HT2 := Lib.hid (show segT z (k + 1) = segT z k + tkN (z k) from rfl)
      have HH2 := Lib.hid (show thB s z (k + 1) = (thB s z k || twoB (z k) (s (segT z k)) (s (segT z k + 1))) from rfl)
      have HTT := Lib.hid (fun h => thB_true (s := s) (z := z) hlt h)
      have hTk1 : segT z k + tkN (z k) ≤ n := by
        have := segT_mono z (show k + 1 ≤ m by omega)
        have := HT.out
        have := HT2.out
        omega
      have htk := tkN_le (z k)
      obtain ⟨y, hy⟩ : ∃ y, y = z k := ⟨_, rfl⟩
      simp only [← hy] at HZ0 hzk HT2 HH2 HTT hTk1 htk
      clear hy
      have hcz := at_below HB.out hgz HZ0.out
      have b1 : (0 : Int) ≤ (k : Int) := by omega
      have b2 : (k : Int) < (m : Int) := by omega
      by_cases h45 : y = 4 ∨ y = 5
      · have ht2 : tkN y = 2 := by rcases h45 with rfl | rfl <;> rfl
        obtain ⟨g, o, rfl, hg, hr⟩ := HA.out (by omega)
        have hc0 := at_below HB.out hg (hr (segT z k) (by omega))
        have hc1 := at_below HB.out hg (hr (segT z k + 1) (by omega))
        have hs0 := HSK.out (segT z k) (by omega)
        have hs1 := HSK.out (segT z k + 1) (by omega)
        obtain ⟨x0, hx0⟩ : ∃ x, x = s (segT z k) := ⟨_, rfl⟩
        obtain ⟨x1, hx1⟩ : ∃ x, x = s (segT z k + 1) := ⟨_, rfl⟩
        simp only [← hx0, ← hx1] at hc0 hc1 hs0 hs1 HH2 HTT
        clear hr hx0 hx1
        have b3 : (0 : Int) ≤ (segT z k : Int) := by omega
        have b4 : (segT z k : Int) < (n : Int) := by omega
        have b5 : (segT z k : Int) + 1 < (n : Int) := by omega
        by_cases h4 : 4 < x0 + x1
        · have hc1' : wr.cell? ⟨g, o + (segT z k + 1), none⟩ = some (.int .i64 x1) := hc1
          have s1 : IntKind.i64.wrap ((segT z k : Int) + 1) = segT z k + 1 := IntWalk.i64_in _ (by omega)
          have s2 : IntKind.i64.wrap (x0 + x1) = x0 + x1 := IntWalk.i64_in _ (by omega)
          rcases h45 with rfl | rfl
          all_goals
            go_wp2
            go_quiet (fail)
            go_wp2
            go_ret
            exact ⟨ret_bool (HTT.out (by simp [twoB, h4])).symm, Below.drewN' HB.out _⟩
        · have hc1' : wr.cell? ⟨g, o + (segT z k + 1), none⟩ = some (.int .i64 x1) := hc1
          have s1 : IntKind.i64.wrap ((segT z k : Int) + 1) = segT z k + 1 := IntWalk.i64_in _ (by omega)
          have s2 : IntKind.i64.wrap (x0 + x1) = x0 + x1 := IntWalk.i64_in _ (by omega)
          rcases h45 with rfl | rfl
          all_goals
            go_wp2
            go_quiet (fail)
            clear s1 s2 hc0 hc1 hc1'
            go_wp2_with fail
            have hcz2 := at_below (Below.drewN' HB.out nq) hgz HZ0.out
            with_reducible refine (specColumnsTaken_any _ _ hzk).mono ?_
            rintro e w3 ⟨rfl, hb3⟩
            have HB3 := Lib.hid ((Below.drewN' HB.out nq).trans (hb3.mono (Below.drewN' HB.out nq).size))
            clear hb3 hcz2 hcz
            go_wp2
            go_roundw
            case rel => exact ⟨k + 1, by omega, by go_num, i64c (by rw [HT2.out]; omega), Lib.hid (by rw [HH2.out, HTH.out]; simp [twoB, h4]), HB3.out⟩
            case measure => simp [intOf] <;> omega
      · have hb4 : (y == 4) = false := by simp; omega
        have hb5 : (y == 5) = false := by simp; omega
        have h4 : ¬ y = 4 := fun h => h45 (.inl h)
        have h5 : ¬ y = 5 := fun h => h45 (.inr h)
        clear h45
        go_wp2
        go_quiet (fail)
        go_wp2_with fail
        have hcz2 := at_below (Below.drewN' HB.out nq) hgz HZ0.out
        with_reducible refine (specColumnsTaken_any _ _ hzk).mono ?_
        rintro e w3 ⟨rfl, hb3⟩
        have HB3 := Lib.hid ((Below.drewN' HB.out nq).trans (hb3.mono (Below.drewN' HB.out nq).size))
        clear hb3 hcz2 hcz
        go_wp2
        go_roundw
        case rel => exact ⟨k + 1, by omega, by go_num, i64c (by rw [HT2.out]; omega), Lib.hid (by rw [HH2.out, HTH.out]; simp [twoB, h4, h5]), HB3.out⟩
        case measure => simp [intOf] <;> omega
    · obtain rfl : m = k := by omega
      go_wp2
      go_ret
      exact ⟨ret_bool HTH.out.symm, HB.out⟩

set_option maxHeartbeats 2000000 in
theorem specStacksAfter_any (A : Option Addr) (n c : Nat) (A2 : Option Addr) (m c2 : Nat) (s z : Nat → Int) (w : World) (ha : Rd w A n (fun j => .int .i64 (s j))) (hb : Rd w A2 m (fun j => .int .i64 (z j))) (hn : n ≤ 1048576) (hm : m ≤ 1048576) :
    Calls Try.prog 57 #[.slice A n c, .slice A2 m c2] w (NewPC2 w (saN s n z m) (saN s n z m) (fun j => .int .i64 ((aft s z m).getD j 0)) (saC s n z m)) := by
  have HA := Lib.hid ha
  have HZ := Lib.hid hb
  clear ha hb
  cases hs : stacksB s n
  · have hcode : saC s n z m = 1 := by simp [saC, hs]
    have HC := Lib.hid hcode
    have HS := Lib.hid hs
    clear hs hcode
    go_enter Try.func57, Try.ntmps57
    go_wp2_with (first | (go_at_call 86; refine (l14Stacks_any _ _ _ s _ HA.out hn).mono ?_; rintro e w' ⟨rfl, rfl⟩; rw [HS.out]) | fail)
    go_ret2
    rw [saN, HC.out]
    exact ⟨none, 0, rfl, cap0, New.none_ (Below.refl _ _) _⟩
  have HS := Lib.hid hs
  cases hz : stitchesB z m
  · have hcode : saC s n z m = 1 := by simp [saC, hz]
    have HC := Lib.hid hcode
    have HZB := Lib.hid hz
    clear hs hz hcode
    go_enter Try.func57, Try.ntmps57
    go_wp2_with (first | (go_at_call 86; refine (l14Stacks_any _ _ _ s _ HA.out hn).mono ?_; rintro e w' ⟨rfl, rfl⟩; rw [HS.out]) | (go_at_call 85; refine (l14Ok_any _ _ _ z _ HZ.out hm).mono ?_; rintro e w' ⟨rfl, rfl⟩; rw [HZB.out]) | fail)
    go_ret2
    rw [saN, HC.out]
    exact ⟨none, 0, rfl, cap0, New.none_ (Below.refl _ _) _⟩
  have HZB := Lib.hid hz
  obtain ⟨hm16, _⟩ := stitchesB_of hz
  obtain ⟨hn8, _⟩ := stacksB_of hs
  have hT := segT_le z m
  have hM := segM_le z m
  by_cases ht : segT z m = n
  case neg =>
    have hcode : saC s n z m = 10 := by simp [saC, hz, hs, ht]
    have HC := Lib.hid hcode
    have htb : ((segT z m : Int) != (n : Int)) = true := by simp; omega
    clear hs hz hcode
    go_enter Try.func57, Try.ntmps57
    go_wp2_with (first | (go_at_call 86; refine (l14Stacks_any _ _ _ s _ HA.out hn).mono ?_; rintro e w' ⟨rfl, rfl⟩; rw [HS.out]) | (go_at_call 85; refine (l14Ok_any _ _ _ z _ HZ.out hm).mono ?_; rintro e w' ⟨rfl, rfl⟩; rw [HZB.out]) | fail)
    refine (specTakenBy_any _ _ _ z _ HZ.out HZB.out).mono ?_
    rintro e w1 ⟨rfl, hb1⟩
    have HB1 := Lib.hid hb1
    clear hb1
    go_wp2
    go_ret2
    rw [saN, HC.out]
    exact ⟨none, 0, rfl, cap0, New.none_ HB1.out _⟩
  have hcode : saC s n z m = if fitB s z m && decide (segM z m ≤ 8) then 0 else 5 := by simp [saC, hz, hs, ht]
  rw [← stacks_fit hs hz ht] at hcode
  have HC := Lib.hid hcode
  have HT := Lib.hid ht
  clear hs hz hcode ht
  go_enter Try.func57, Try.ntmps57
  go_wp2_with (first | (go_at_call 86; refine (l14Stacks_any _ _ _ s _ HA.out hn).mono ?_; rintro e w' ⟨rfl, rfl⟩; rw [HS.out]) | (go_at_call 85; refine (l14Ok_any _ _ _ z _ HZ.out hm).mono ?_; rintro e w' ⟨rfl, rfl⟩; rw [HZB.out]) | fail)
  refine (specTakenBy_any _ _ _ z _ HZ.out HZB.out).mono ?_
  rintro e w1 ⟨rfl, hb1⟩
  rw [HT.out]
  have HB1 := Lib.hid hb1
  clear hb1
  go_wp2_with fail
  refine (l14After_any A n c A2 m c2 s z _ (HA.out.below HB1.out) (HZ.out.below HB1.out) HS.out HZB.out HT.out).mono ?_
  rintro e w2 ⟨A3, c3, rfl, hc3, hn2⟩
  have HN2 := Lib.hid (hn2.under HB1.out)
  clear hn2
  cases h1 : stacksB (fun j => (aft s z m).getD j 0) (segM z m)
  · have H1 := Lib.hid h1
    clear h1
    go_wp2_with ((go_at_call 86; refine (l14Stacks_any A3 (segM z m) c3 (fun j => (aft s z m).getD j 0) _ HN2.out.rd (by omega)).mono ?_; rintro e w' ⟨rfl, rfl⟩; rw [H1.out]))
    go_ret2
    have hc5 : saC s n z m = 5 := by rw [HC.out, H1.out]; rfl
    rw [saN, hc5]
    exact ⟨none, 0, rfl, cap0, New.none_ HN2.out.bl _⟩
  have H1 := Lib.hid h1
  clear h1
  go_wp2_with ((go_at_call 86; refine (l14Stacks_any A3 (segM z m) c3 (fun j => (aft s z m).getD j 0) _ HN2.out.rd (by omega)).mono ?_; rintro e w' ⟨rfl, rfl⟩; rw [H1.out]))
  refine (l14Thick_any A n c A2 m c2 s z _ (HA.out.below HN2.out.bl) (HZ.out.below HN2.out.bl) HS.out HZB.out HT.out).mono ?_
  rintro e w3 ⟨rfl, hb3⟩
  have HB3 := Lib.hid hb3
  clear hb3
  cases h2 : thB s z m
  · have H2 := Lib.hid h2
    clear h2
    go_wp2
    go_ret2
    have hc0 : saC s n z m = 0 := by rw [HC.out, H1.out, H2.out]; rfl
    have hN : saN s n z m = segM z m := by rw [saN, if_pos hc0]
    rw [hN, hc0]
    exact ⟨A3, c3, rfl, hc3, (HN2.out.then HB3.out)⟩
  · have H2 := Lib.hid h2
    clear h2
    go_wp2
    go_ret2
    have hc5 : saC s n z m = 5 := by rw [HC.out, H1.out, H2.out]; rfl
    rw [saN, hc5]
    exact ⟨none, 0, rfl, cap0, New.none_ (HN2.out.bl.trans (HB3.out.mono HN2.out.bl.size)) _⟩
end Go.Proofs.Ytacppheedleamaa
