/- Walks: the stacks that a stitch makes, and those behind a row of stitches, by the program. No condition but the bounds. -/
import Derived.Test.YtacppheedleamaaChartA
import Derived.Test.YtacppheedleamaaRepeat64
import Derived.Test.YtacppheedleamaaAppR
import Derived.RegionTactic
set_option linter.unusedVariables false
set_option linter.unusedSimpArgs false
namespace Go.Proofs.Ytacppheedleamaa
open Go.RowKit
set_option maxRecDepth 20000

/-- The stacks that a stitch of kind k makes of columns the first of which holds t. -/
def madeL (k t : Int) : List Int := if k = 6 then [t + 1] else if k = 7 then [t] else List.replicate (mkN k) 1
theorem madeL_length {k : Int} (t : Int) (_h : 1 ≤ k ∧ k ≤ 11) : (madeL k t).length = mkN k := by
  unfold madeL
  by_cases h6 : k = 6
  · subst h6; rfl
  · rw [if_neg h6]
    by_cases h7 : k = 7
    · subst h7; rfl
    · rw [if_neg h7]; simp
/-- No stack becomes too great. -/
def oneB (k a b : Int) : Bool := if k = 6 then decide (a < 4) else if k = 4 ∨ k = 5 then decide (a + b ≤ 4) else true
/-- The stacks behind the first i stitches. -/
def aft (s z : Nat → Int) : Nat → List Int
  | 0 => []
  | i + 1 => aft s z i ++ madeL (z i) (s (segT z i))
theorem aft_length {s z : Nat → Int} {m : Nat} (hz : ∀ j, j < m → 1 ≤ z j ∧ z j ≤ 11) {i : Nat} (hi : i ≤ m) : (aft s z i).length = segM z i := by
  induction i with
  | zero => rfl
  | succ i ih =>
    simp only [aft, segM, List.length_append]
    rw [ih (by omega), madeL_length _ (hz i (by omega))]
def fitB (s z : Nat → Int) : Nat → Bool
  | 0 => true
  | i + 1 => fitB s z i && oneB (z i) (s (segT z i)) (s (segT z i + 1))
theorem fitB_false {s z : Nat → Int} {i m : Nat} (hi : i < m) (h : oneB (z i) (s (segT z i)) (s (segT z i + 1)) = false) : fitB s z m = false := by
  induction m with
  | zero => omega
  | succ m ih =>
    simp only [fitB]
    by_cases him : i = m
    · subst him; rw [h]; simp
    · rw [ih (by omega)]; rfl
/-- The code of a row of stitches on stacks. -/
def saC (s : Nat → Int) (n : Nat) (z : Nat → Int) (m : Nat) : Int := if stacksB s n && stitchesB z m then (if segT z m = n then (if fitB s z m && decide (segM z m ≤ 8) then 0 else 5) else 10) else 1
def saN (s : Nat → Int) (n : Nat) (z : Nat → Int) (m : Nat) : Nat := if saC s n z m = 0 then segM z m else 0

def MadeP (k a b : Int) (w : World) (e : Ending) (w' : World) : Prop := ∃ A c, e = .returned (.tuple #[.slice A (mkN k) c, .bool (oneB k a b)]) ∧ New w w' A (mkN k) (fun j => .int .i64 ((madeL k a).getD j 0))
theorem ret_sb {A : Option Addr} {n n' c : Nat} {x x' : Bool} (h1 : n = n') (h2 : x = x') : Ending.returned (.tuple #[.slice A n c, .bool x]) = .returned (.tuple #[.slice A n' c, .bool x']) := by rw [h1, h2]
set_option maxHeartbeats 4000000 in
theorem madeStacks_any (k : Int) (A : Option Addr) (c : Nat) (s : Nat → Int) (w : World) (ha : Rd w A (tkN k) (fun j => .int .i64 (s j))) (hk : 1 ≤ k ∧ k ≤ 11) (hs : ∀ j, j < tkN k → 1 ≤ s j ∧ s j ≤ 4) :
    Calls Try.prog 99 #[.int .i64 k, .slice A (tkN k) c] w (MadeP k (s 0) (s 1) w) := by
  by_cases h6 : k = 6
  · subst h6
    obtain ⟨g, o, rfl, hg, hr⟩ := ha (by decide)
    have c0 := hr 0 (by decide)
    have s0 := hs 0 (by decide)
    obtain ⟨x, hx⟩ : ∃ x, x = s 0 := ⟨_, rfl⟩
    simp only [← hx, Nat.add_zero] at c0 s0 ⊢
    clear hr ha hx hs
    have hsum : IntKind.i64.wrap (x + 1) = x + 1 := IntWalk.i64_in _ (by omega)
    show Calls _ _ #[.int .i64 6, .slice (some ⟨g, o, none⟩) 1 c] w _
    go_enter Try.func99, Try.ntmps99
    go_wp2
    go_region
    go_wp2
    go_ret2
    exact ⟨_, _, ret_sb rfl (by simp [oneB]), (New.block w #[.int .i64 (x + 1)] _ 1 _ fun j hj => by obtain rfl : j = 0 := (by omega); rfl).drewN 1⟩
  by_cases h7 : k = 7
  · subst h7
    obtain ⟨g, o, rfl, hg, hr⟩ := ha (by decide)
    have c0 := hr 0 (by decide)
    obtain ⟨x, hx⟩ : ∃ x, x = s 0 := ⟨_, rfl⟩
    simp only [← hx, Nat.add_zero] at c0 ⊢
    clear hr ha hx hs
    show Calls _ _ #[.int .i64 7, .slice (some ⟨g, o, none⟩) 1 c] w _
    go_enter Try.func99, Try.ntmps99
    go_wp2
    go_ret2
    exact ⟨_, _, ret_sb rfl (by simp [oneB]), New.block w #[.int .i64 x] _ 1 _ fun j hj => by obtain rfl : j = 0 := (by omega); rfl⟩
  by_cases h45 : k = 4 ∨ k = 5
  · have ht : tkN k = 2 := by rcases h45 with rfl | rfl <;> rfl
    rw [ht] at ha hs ⊢
    obtain ⟨g, o, rfl, hg, hr⟩ := ha (by decide)
    have c0 := hr 0 (by decide)
    have c1 := hr 1 (by decide)
    have s0 := hs 0 (by decide)
    have s1 := hs 1 (by decide)
    obtain ⟨x, hx⟩ : ∃ x, x = s 0 := ⟨_, rfl⟩
    obtain ⟨y, hy⟩ : ∃ y, y = s 1 := ⟨_, rfl⟩
    simp only [← hx, ← hy, Nat.add_zero] at c0 s0 c1 s1 ⊢
    clear hr ha hx hy hs ht
    have hsum : IntKind.i64.wrap (x + y) = x + y := IntWalk.i64_in _ (by omega)
    rcases h45 with rfl | rfl
    all_goals
      go_enter Try.func99, Try.ntmps99
      go_wp2
      go_region
      go_wp2
      go_ret2
      exact ⟨_, _, ret_sb rfl (by simp [oneB]), (New.block w #[.int .i64 1] _ 1 _ fun j hj => by obtain rfl : j = 0 := (by omega); rfl).drewN 1⟩
  have hm : 0 < mkN k := by unfold mkN; (repeat' split); all_goals omega
  have hm4 := mkN_le k
  have hone : oneB k (s 0) (s 1) = true := by unfold oneB; rw [if_neg h6, if_neg h45]
  have hml : ∀ j, j < mkN k → (madeL k (s 0)).getD j 0 = 1 := fun j hj => by unfold madeL; rw [if_neg h6, if_neg h7]; simp [List.getD, hj]
  have HONE := Lib.hid hone
  have HML := Lib.hid hml
  have h4 : ¬ k = 4 := fun h => h45 (.inl h)
  have h5 : ¬ k = 5 := fun h => h45 (.inr h)
  clear hone hml h45 ha hs
  go_enter Try.func99, Try.ntmps99
  go_wp2_with (first | (go_at_call 41; refine (implColumnsMade_any _ _ hk).mono ?_; rintro e w' ⟨rfl, rfl⟩) | fail)
  refine (repeat64_any w.heap.size 1 (mkN k) _ (cell_alloc_at rfl 0) hm (by omega)).mono ?_
  rintro e w1 ⟨A1, c1, rfl, _, hn⟩
  have HN := Lib.hid (hn.under ((Below.refl _ _).alloc (Nat.le_refl _) _))
  clear hn
  go_wp2
  go_ret2
  exact ⟨_, _, ret_sb rfl HONE.out.symm, HN.out.congr fun j hj => by rw [HML.out j hj]⟩

theorem slice_eq {A : Option Addr} {n n' c c' : Nat} (h1 : n = n') (h2 : c = c') : Value.slice A n c = .slice A n' c' := by rw [h1, h2]
theorem oneCell_int (k : IntKind) (x : Int) : (Value.int k x).oneCell' = true := rfl
set_option maxHeartbeats 4000000 in
theorem implStacksAfter_any (g o n c : Nat) (A2 : Option Addr) (m c2 : Nat) (s z : Nat → Int) (w : World) (ha : Rd w (some ⟨g, o, none⟩) n (fun j => .int .i64 (s j))) (hb : Rd w A2 m (fun j => .int .i64 (z j))) (hn : n ≤ 1048576) (hm : m ≤ 1048576) (hc : n ≤ c) (hc2 : c ≤ maxLen) :
    Calls Try.prog 65 #[.slice (some ⟨g, o, none⟩) n c, .slice A2 m c2] w (NewPC2 w (saN s n z m) (saN s n z m) (fun j => .int .i64 ((aft s z m).getD j 0)) (saC s n z m)) := by
  obtain ⟨i0, hi, iz, is, ib⟩ := info_parts info64
  have HA := Lib.hid ha
  have HZ := Lib.hid hb
  unfold maxLen at hc2
  clear ha hb
  cases hs : stacksB s n
  · have hcode : saC s n z m = 1 := by simp [saC, hs]
    have HC := Lib.hid hcode
    have HS := Lib.hid hs
    clear hs hcode
    go_enter Try.func65, Try.ntmps65
    go_wp2_with (first | (go_at_call 62; refine (areStacks_any _ _ _ s _ HA.out hn).mono ?_; rintro e w' ⟨rfl, rfl⟩; rw [HS.out]) | fail)
    go_ret2
    rw [saN, HC.out]
    exact ⟨none, 0, rfl, cap0, New.none_ (Below.refl _ _) _⟩
  have HS := Lib.hid hs
  cases hz : stitchesB z m
  · have hcode : saC s n z m = 1 := by simp [saC, hz]
    have HC := Lib.hid hcode
    have HZB := Lib.hid hz
    clear hs hz hcode
    go_enter Try.func65, Try.ntmps65
    go_wp2_with (first | (go_at_call 62; refine (areStacks_any _ _ _ s _ HA.out hn).mono ?_; rintro e w' ⟨rfl, rfl⟩; rw [HS.out]) | (go_at_call 61; refine (areStitches_any _ _ _ z _ HZ.out hm).mono ?_; rintro e w' ⟨rfl, rfl⟩; rw [HZB.out]) | fail)
    go_ret2
    rw [saN, HC.out]
    exact ⟨none, 0, rfl, cap0, New.none_ (Below.refl _ _) _⟩
  have HZB := Lib.hid hz
  obtain ⟨hm16, hzk⟩ := stitchesB_of hz
  obtain ⟨hn8, hsk⟩ := stacksB_of hs
  have HZK := Lib.hid hzk
  have HSK := Lib.hid hsk
  have hT := segT_le z m
  clear hzk hsk
  by_cases ht : segT z m = n
  case neg =>
    have hcode : saC s n z m = 10 := by simp [saC, hz, hs, ht]
    have HC := Lib.hid hcode
    have htb : ((segT z m : Int) != (n : Int)) = true := by simp; omega
    clear hs hz hcode
    go_enter Try.func65, Try.ntmps65
    go_wp2_with (first | (go_at_call 62; refine (areStacks_any _ _ _ s _ HA.out hn).mono ?_; rintro e w' ⟨rfl, rfl⟩; rw [HS.out]) | (go_at_call 61; refine (areStitches_any _ _ _ z _ HZ.out hm).mono ?_; rintro e w' ⟨rfl, rfl⟩; rw [HZB.out]) | (go_at_call 64; refine (takenBy_any _ _ _ z _ HZ.out HZB.out).mono ?_; rintro e w' ⟨rfl, rfl⟩) | fail)
    go_ret2
    rw [saN, HC.out]
    exact ⟨none, 0, rfl, cap0, New.none_ (Below.refl _ _) _⟩
  have hcode : saC s n z m = if fitB s z m && decide (segM z m ≤ 8) then 0 else 5 := by simp [saC, hz, hs, ht]
  have HC := Lib.hid hcode
  have HT := Lib.hid ht
  clear hs hz hcode ht
  go_enter Try.func65, Try.ntmps65
  go_wp2_with (first | (go_at_call 62; refine (areStacks_any _ _ _ s _ HA.out hn).mono ?_; rintro e w' ⟨rfl, rfl⟩; rw [HS.out]) | (go_at_call 61; refine (areStitches_any _ _ _ z _ HZ.out hm).mono ?_; rintro e w' ⟨rfl, rfl⟩; rw [HZB.out]) | (go_at_call 64; refine (takenBy_any _ _ _ z _ HZ.out HZB.out).mono ?_; rintro e w' ⟨rfl, rfl⟩; rw [HT.out]) | fail)
  go_loopw [6, 7, 30] (fun v r i wr => ∃ k : Nat, k ≤ m ∧ i = .int .i64 k ∧ (∃ o', r = .slice (some ⟨g, o', none⟩) (n - segT z k) (c - segT z k) ∧ Hid (segT z k < c → o' = o + segT z k)) ∧ Hid (fitB s z k = true) ∧ wr.ownsRow w.heap.size 2 1 v (segM z k) (ints (aft s z k)) ∧ Below w.heap.size w wr) (fun _ _ i _ => m - (intOf i).toNat)
  case atStart => exact ⟨0, Nat.zero_le _, rfl, ⟨o, rfl, Lib.hid fun _ => rfl⟩, Lib.hid rfl, World.ownsRow_made _ #[] 0 (Nat.le_refl _) (by unfold maxLen; omega) rfl, (Below.refl _ _).alloc (Nat.le_refl _) _⟩
  case round =>
    obtain ⟨k, hk, rfl, ⟨o', rfl, HO⟩, HF, hown, hbl⟩ := hrel
    have HB := Lib.hid hbl
    have HOWN := Lib.hid hown
    clear hbl hown
    have hTk := segT_le z k
    have hMk := segM_le z k
    have hTm := segT_mono z hk
    have hT := HT.out
    by_cases hlt : k < m
    · obtain ⟨gz, oz, rfl, hgz, hrz⟩ := HZ.out.below HB.out (by omega)
      have hcz := hrz k hlt
      have hzk := HZK.out k hlt
      clear hrz
      have hTk1 : segT z k + tkN (z k) ≤ n := by
        have := segT_mono z (show k + 1 ≤ m by omega)
        simp only [segT] at this
        omega
      have htk := tkN_le (z k)
      have hrd : Rd wr (some ⟨g, o', none⟩) (tkN (z k)) (fun j => .int .i64 (s (segT z k + j))) := fun h0 => by
        obtain ⟨g1, o1, e1, hg1, hr1⟩ := HA.out.below HB.out (by omega)
        injection e1 with e1
        injection e1 with e1 e2
        subst e1 e2
        exact ⟨g, o', rfl, hg1, fun j hj => by
          have ho := HO.out (by omega)
          have := hr1 (segT z k + j) (by omega)
          rw [ho, Nat.add_assoc]
          exact this⟩
      have hst : ∀ j, j < tkN (z k) → 1 ≤ s (segT z k + j) ∧ s (segT z k + j) ≤ 4 := fun j hj => HSK.out _ (by omega)
      have HRD := Lib.hid hrd
      have HST := Lib.hid hst
      clear hrd hst
      obtain ⟨B, hB⟩ : ∃ B, B = oneB (z k) (s (segT z k)) (s (segT z k + 1)) := ⟨_, rfl⟩
      have hms : ∀ W, Below wr.heap.size wr W → Calls Try.prog 99 #[.int .i64 (z k), .slice (some ⟨g, o', none⟩) (tkN (z k)) (c - segT z k)] W (fun e w' => ∃ A c, e = .returned (.tuple #[.slice A (mkN (z k)) c, .bool B]) ∧ New W w' A (mkN (z k)) (fun j => .int .i64 ((madeL (z k) (s (segT z k))).getD j 0))) := fun W hW => by
        rw [hB]
        exact madeStacks_any (z k) (some ⟨g, o', none⟩) (c - segT z k) (fun j => s (segT z k + j)) W (HRD.out.below hW) hzk HST.out
      have HMS := Lib.hid hms
      have HBB := Lib.hid hB
      have b1 : (tkN (z k) : Int) ≤ ((c - segT z k : Nat) : Int) := by omega
      have b2 : (tkN (z k) : Int) ≤ ((n - segT z k : Nat) : Int) := by omega
      have hmk := mkN_le (z k)
      have hTk2 : segT z (k + 1) = segT z k + tkN (z k) := rfl
      have hMk2 : segM z (k + 1) = segM z k + mkN (z k) := rfl
      have HT2 := Lib.hid hTk2
      have HM2 := Lib.hid hMk2
      clear hms hB hTk2 hMk2
      go_wp2_with (first | (go_at_call 98; refine (implColumnsTaken_any _ _ hzk).mono ?_; rintro e w' ⟨rfl, rfl⟩) | fail)
      refine (HMS.out _ (Below.refl _ _)).mono ?_
      rintro e w1 ⟨A1, c1, rfl, hn1⟩
      have HN1 := Lib.hid hn1
      have HB1 := Lib.hid (HB.out.trans (hn1.bl.mono HB.out.size))
      have HOWN1 := Lib.hid (own_below HOWN.out hn1.bl)
      clear hn1 hcz
      cases B
      · have hfit := fitB_false hlt HBB.out.symm
        have HFIT := Lib.hid hfit
        clear hfit
        go_wp2
        go_ret2
        have hc5 : saC s n z m = 5 := by rw [HC.out, HFIT.out]; rfl
        rw [saN, hc5]
        exact ⟨none, 0, rfl, cap0, New.none_ HB1.out _⟩
      · have HFN := Lib.hid (show fitB s z (k + 1) = true by simp only [fitB]; rw [HF.out, ← HBB.out]; rfl)
        go_wp2_with (at_builtin; go_must (refine wpList_appR w1 rfl (.tmp 46) (.tmp 47) _ rfl w.heap.size 2 i0 _ 1 8 Try.underlying38 hi iz is ib rfl (by omega) u6 (segM z k) (ints (aft s z k)) rfl HOWN1.out A1 (mkN (z k)) c1 _ rfl (by rw [Nat.mul_one]; exact HN1.out.rd) (fun j => oneCell_int _ _) (by unfold maxLen; omega) (by omega) HB1.out.size ?_); intro v' w' hown' hf'; have HOWN' := Lib.hid hown'; have HB' := Lib.hid (HB1.out.trans (hf'.own HOWN1.out HB1.out.size)); clear hown' hf')
        by_cases hcap : c - segT z k = tkN (z k)
        · go_wp2
          go_roundw
          case rel => exact ⟨k + 1, by omega, by go_num, ⟨o', (by have := HT2.out; first | exact ⟨by omega, by omega⟩ | exact ⟨rfl, by omega, by omega⟩ | exact slice_eq (by omega) (by omega)), Lib.hid fun h => by rw [HT2.out] at h; omega⟩, HFN, by rw [HM2.out, show aft s z (k + 1) = aft s z k ++ madeL (z k) (s (segT z k)) from rfl, ints_app, ← ints_get (madeL (z k) (s (segT z k))) (mkN (z k)) (madeL_length _ hzk)]; have := HOWN'.out; rw [Nat.mul_one] at this; exact this, HB'.out⟩
          case measure => simp [intOf] <;> omega
        · go_wp2
          go_roundw
          case rel => exact ⟨k + 1, by omega, by go_num, ⟨o' + tkN (z k), (by have := HT2.out; first | exact ⟨by omega, by omega⟩ | exact ⟨rfl, by omega, by omega⟩ | exact slice_eq (by omega) (by omega)), Lib.hid fun h => by rw [HT2.out] at h ⊢; have := HO.out (by omega); omega⟩, HFN, by rw [HM2.out, show aft s z (k + 1) = aft s z k ++ madeL (z k) (s (segT z k)) from rfl, ints_app, ← ints_get (madeL (z k) (s (segT z k))) (mkN (z k)) (madeL_length _ hzk)]; have := HOWN'.out; rw [Nat.mul_one] at this; exact this, HB'.out⟩
          case measure => simp [intOf] <;> omega
    · obtain rfl : m = k := by omega
      obtain ⟨A4, c4, rfl, hc4, hnew⟩ := New.of_own_c (w := w) HB.out HOWN.out
      have HN := Lib.hid hnew
      clear hnew
      by_cases h8 : segM z m ≤ 8
      · have hc0 : saC s n z m = 0 := by rw [HC.out, HF.out]; simp [h8]
        have HC0 := Lib.hid hc0
        clear hc0
        go_wp2
        go_ret2
        have hN : saN s n z m = segM z m := by rw [saN, if_pos HC0.out]
        rw [hN, HC0.out]
        refine ⟨A4, c4, rfl, hc4, ?_⟩
        have := HN.out
        rw [Nat.mul_one] at this
        exact this.congr fun j hj => by rw [← ints_get (aft s z m) (segM z m) (aft_length HZK.out (Nat.le_refl _))]; simp [List.getD, hj]
      · have hc5 : saC s n z m = 5 := by rw [HC.out]; simp [h8]
        have HC5 := Lib.hid hc5
        clear hc5
        go_wp2
        go_ret2
        rw [saN, HC5.out]
        exact ⟨none, 0, rfl, cap0, New.none_ HB.out _⟩
end Go.Proofs.Ytacppheedleamaa
