/- Walks: whether a row keeps the limit, by the program; whether a row is valid. No condition but the bounds. -/
import Derived.Test.YtacppheedleamaaChartD
import Derived.Test.YtacppheedleamaaAccSS
import Derived.Deep.RegionHeld3
set_option linter.unusedVariables false
set_option linter.unusedSimpArgs false
namespace Go.Proofs.Ytacppheedleamaa
open Go.RowKit
set_option maxRecDepth 20000

/-- What stitch i adds to the loops. -/
def madeS (k t : Int) : Int := sumR (fun j => (madeL k t).getD j 0) 0 (mkN k)
def chg (s z : Nat → Int) (i : Nat) : Int := madeS (z i) (s (segT z i)) - sumR s (segT z i) (tkN (z i))
def keepS (s : Nat → Int) (n : Nat) (z : Nat → Int) (m : Nat) (d : Int) : Nat → Int
  | 0 => sumR s 0 n
  | i + 1 => keepS s n z m d i + chg s z (ordN d m i)
def keepB (s : Nat → Int) (n : Nat) (z : Nat → Int) (m : Nat) (d : Int) : Nat → Bool
  | 0 => true
  | i + 1 => keepB s n z m d i && decide (keepS s n z m d (i + 1) ≤ 12)
theorem keepB_false {s : Nat → Int} {n : Nat} {z : Nat → Int} {m : Nat} {d : Int} {i k : Nat} (hi : i < k) (h : ¬ keepS s n z m d (i + 1) ≤ 12) : keepB s n z m d k = false := by
  induction k with
  | zero => omega
  | succ k ih =>
    simp only [keepB]
    by_cases hik : i = k
    · subst hik; simp [h]
    · rw [ih (by omega)]; rfl
theorem madeS_bounds {k t : Int} (ht : 0 < tkN k → 1 ≤ t ∧ t ≤ 4) : 0 ≤ madeS k t ∧ madeS k t ≤ 5 := by
  unfold madeS madeL
  by_cases h6 : k = 6
  · subst h6
    have := ht (by decide)
    rw [if_pos rfl, show mkN 6 = 1 from rfl]
    simp [sumR]
    omega
  · rw [if_neg h6]
    by_cases h7 : k = 7
    · subst h7
      have := ht (by decide)
      rw [if_pos rfl, show mkN 7 = 1 from rfl]
      simp [sumR]
      omega
    · rw [if_neg h7]
      have : ∀ n, n ≤ mkN k → sumR (fun j => (List.replicate (mkN k) (1 : Int)).getD j 0) 0 n = n := by
        intro n hn
        induction n with
        | zero => rfl
        | succ n ih =>
          simp only [sumR]
          rw [ih (by omega)]
          simp [List.getD, show n < mkN k by omega]
      rw [this _ (Nat.le_refl _)]
      have := mkN_le k
      omega
theorem madeL_get {k t : Int} (hk : 1 ≤ k ∧ k ≤ 11) (ht : 0 < tkN k → 1 ≤ t ∧ t ≤ 4) (j : Nat) : -1000 ≤ (madeL k t).getD j 0 ∧ (madeL k t).getD j 0 ≤ 1000 := by
  have hall : ∀ x ∈ madeL k t, 0 ≤ x ∧ x ≤ 5 := by
    intro x hx
    unfold madeL at hx
    by_cases h6 : k = 6
    · subst h6
      have := ht (by decide)
      rw [if_pos rfl] at hx
      simp at hx
      omega
    · rw [if_neg h6] at hx
      by_cases h7 : k = 7
      · subst h7
        have := ht (by decide)
        rw [if_pos rfl] at hx
        simp at hx
        omega
      · rw [if_neg h7] at hx
        have := List.eq_of_mem_replicate hx
        omega
  by_cases hj : j < (madeL k t).length
  · have := hall _ (List.getElem_mem hj)
    simp [List.getD, List.getElem?_eq_getElem hj]
    omega
  · simp [List.getD, List.getElem?_eq_none (Nat.le_of_not_lt hj)]
theorem seg_bounds {s : Nat → Int} {n a c : Nat} (hs : ∀ j, j < n → 1 ≤ s j ∧ s j ≤ 4) (h : a + c ≤ n) : 0 ≤ sumR s a c ∧ sumR s a c ≤ 4 * c := by
  induction c with
  | zero => simp [sumR]
  | succ c ih =>
    have h1 := ih (by omega)
    have h2 := hs (a + c) (by omega)
    simp only [sumR]
    omega
theorem chg_bounds {s z : Nat → Int} {n m i : Nat} (hs : ∀ j, j < n → 1 ≤ s j ∧ s j ≤ 4) (ht : segT z m = n) (hi : i < m) : -16 ≤ chg s z i ∧ chg s z i ≤ 5 := by
  have h1 := segT_mono z (show i + 1 ≤ m by omega)
  simp only [segT] at h1
  have h2 := madeS_bounds (k := z i) (t := s (segT z i)) (fun h0 => hs _ (by omega))
  have h3 := seg_bounds hs (a := segT z i) (c := tkN (z i)) (by omega)
  have h4 := tkN_le (z i)
  unfold chg
  omega
theorem keepS_bounds {s z : Nat → Int} {n m : Nat} (d : Int) (hs : ∀ j, j < n → 1 ≤ s j ∧ s j ≤ 4) (ht : segT z m = n) {i : Nat} (hi : i ≤ m) : -16 * (i : Int) ≤ keepS s n z m d i ∧ keepS s n z m d i ≤ 4 * n + 5 * i := by
  induction i with
  | zero =>
    have := seg_bounds hs (a := 0) (c := n) (by omega)
    simp only [keepS]
    omega
  | succ i ih =>
    have h1 := ih (by omega)
    have h2 := chg_bounds hs ht (ordN_lt (d := d) (show i < m by omega))
    simp only [keepS]
    omega

/-- What the call owns reads as its numbers. -/
theorem own_rd {w : World} {B : Nat} {e : TypeId} {A : Option Addr} {n c : Nat} {f : Nat → Int} (h : w.ownsRow B e 1 (.slice A n c) n (ints ((List.range n).map f))) : Rd w A n (fun j => .int .i64 (f j)) := by
  obtain ⟨A', c', e', hn⟩ := own_row h
  injection e' with e1 _ e3
  subst e1
  rw [Nat.mul_one] at hn
  exact hn.2.2.congr fun j hj => by simp [ints, List.getD, hj]
set_option maxHeartbeats 2000000 in
theorem keepsLimit_any (d cc : Int) (A2 : Option Addr) (m c2 : Nat) (g o n c : Nat) (s z : Nat → Int) (w : World) (ha : Rd w (some ⟨g, o, none⟩) n (fun j => .int .i64 (s j))) (hb : Rd w A2 m (fun j => .int .i64 (z j))) (hc : n ≤ c) (hc2 : c ≤ maxLen) (hs : stacksB s n = true) (hz : stitchesB z m = true) (ht : segT z m = n) :
    Calls Try.prog 84 #[.agg #[.int .i64 d, .int .i64 cc, .slice A2 m c2], .slice (some ⟨g, o, none⟩) n c] w fun e w' => e = .returned (.bool (keepB s n z m d m)) ∧ Below w.heap.size w w' := by
  obtain ⟨i0, hi, iz, is, ib⟩ := info_parts info64
  have HA := Lib.hid ha
  have HZ := Lib.hid hb
  obtain ⟨hm16, hzk⟩ := stitchesB_of hz
  obtain ⟨hn8, hsk⟩ := stacksB_of hs
  have HZK := Lib.hid hzk
  have HSK := Lib.hid hsk
  have HT := Lib.hid ht
  unfold maxLen at hc2
  have HL := Lib.hid ((Below.refl w.heap.size w).alloc (Nat.le_refl _) (.cells #[.int .i64 d, .int .i64 cc, .slice A2 m c2] 40))
  have HX := Lib.hid (box_new w #[.int .i64 d, .int .i64 cc, .slice A2 m c2] 40)
  clear ha hb hzk hsk hs hz ht
  go_enter Try.func84, Try.ntmps84
  go_wp2_with ((go_at_call 63; refine (sumOf_any _ n c s _ (HA.out.below HL.out) (by omega) (fun j hj => by have := HSK.out j hj; omega)).mono ?_; rintro e w' ⟨rfl, rfl⟩))
  go_loopw [6, 7, 22] (fun v r i wr => ∃ k : Nat, k ≤ m ∧ i = .int .i64 k ∧ (∃ o', r = .slice (some ⟨g, o', none⟩) (n - segT z k) (c - segT z k) ∧ Hid (segT z k < c → o' = o + segT z k)) ∧ wr.ownsRow (w.heap.size + 1) 2 1 v k (ints ((List.range k).map (chg s z))) ∧ Below (w.heap.size + 1) (w.alloc (.cells #[.int .i64 d, .int .i64 cc, .slice A2 m c2] 40)) wr) (fun _ _ i _ => m - (intOf i).toNat)
  case atStart => exact ⟨0, Nat.zero_le _, rfl, ⟨o, rfl, Lib.hid fun _ => rfl⟩, by simpa [ints] using World.ownsRow_made (w.alloc (.cells #[.int .i64 d, .int .i64 cc, .slice A2 m c2] 40)) #[] (base := w.heap.size + 1) (e := 2) (size := 1) 0 (by simp) (by unfold maxLen; omega) rfl, (Below.refl _ _).alloc (by simp) _⟩
  case round =>
    obtain ⟨k, hk, rfl, ⟨o', rfl, HO⟩, hown, hbl⟩ := hrel
    have hbx : ∀ o, wr.cell? ⟨w.heap.size, o, none⟩ = (#[.int .i64 d, .int .i64 cc, .slice A2 m c2] : Array Value)[o]? := fun o => ((bcell hbl).1 _ o (by omega)).trans (HX.out o)
    have HB := Lib.hid hbl
    have HOWN := Lib.hid hown
    clear hbl hown
    have HB0 := Lib.hid (HL.out.trans (HB.out.mono (by omega)))
    have hTk := segT_le z k
    have hTm := segT_mono z hk
    have hT := HT.out
    by_cases hlt : k < m
    · obtain ⟨gz, oz, rfl, hgz, hrz⟩ := HZ.out (by omega)
      have hcz := at_below HB0.out hgz (hrz k hlt)
      have hzk := HZK.out k hlt
      clear hrz
      have hTk1 : segT z k + tkN (z k) ≤ n := by
        have := segT_mono z (show k + 1 ≤ m by omega)
        simp only [segT] at this
        omega
      have htk := tkN_le (z k)
      have hmk := mkN_le (z k)
      have hrd : Rd wr (some ⟨g, o', none⟩) (tkN (z k)) (fun j => .int .i64 (s (segT z k + j))) := fun h0 => by
        obtain ⟨g1, o1, e1, hg1, hr1⟩ := HA.out.below HB0.out (by omega)
        injection e1 with e1
        injection e1 with e1 e2
        subst e1 e2
        exact ⟨g, o', rfl, hg1, fun j hj => by
          have ho := HO.out (by omega)
          have := hr1 (segT z k + j) (by omega)
          rw [ho, Nat.add_assoc]
          exact this⟩
      have hst : ∀ j, j < tkN (z k) → 1 ≤ s (segT z k + j) ∧ s (segT z k + j) ≤ 4 := fun j hj => HSK.out _ (by omega)
      have HRD := Lib.hid hrd
      have HST := Lib.hid hst
      clear hrd hst
      have hms : ∀ W, Below wr.heap.size wr W → Calls Try.prog 99 #[.int .i64 (z k), .slice (some ⟨g, o', none⟩) (tkN (z k)) (c - segT z k)] W (MadeP (z k) (s (segT z k)) (s (segT z k + 1)) W) := fun W hW => madeStacks_any (z k) (some ⟨g, o', none⟩) (c - segT z k) (fun j => s (segT z k + j)) W (HRD.out.below hW) hzk HST.out
      have HMS := Lib.hid hms
      have b1 : (tkN (z k) : Int) ≤ ((c - segT z k : Nat) : Int) := by omega
      have b2 : (tkN (z k) : Int) ≤ ((n - segT z k : Nat) : Int) := by omega
      have b0 : (0 : Int) ≤ (tkN (z k) : Int) := by omega
      have HT2 := Lib.hid (show segT z (k + 1) = segT z k + tkN (z k) from rfl)
      have HMB := Lib.hid (madeS_bounds (k := z k) (t := s (segT z k)) fun h0 => HSK.out _ (by omega))
      have HSB := Lib.hid (seg_bounds HSK.out hTk1)
      clear hms
      go_wp2_with (first | (go_at_call 98; refine (implColumnsTaken_any _ _ hzk).mono ?_; rintro e w' ⟨rfl, rfl⟩) | fail)
      refine (HMS.out _ (Below.refl _ _)).mono ?_
      rintro e w1 ⟨A1, c1, rfl, hn1⟩
      have HN1 := Lib.hid hn1
      have hsz := HB.out.size
      simp only [World.size_alloc] at hsz
      have HB1 := Lib.hid (HB.out.trans (hn1.bl.mono hsz))
      have HOWN1 := Lib.hid (own_below HOWN.out hn1.bl)
      have hq1 : Calls Try.prog 63 #[.slice A1 (mkN (z k)) c1] w1.drew fun e w' => e = .returned (.int .i64 (madeS (z k) (s (segT z k)))) ∧ w1.drew = w' := sumOf_any A1 (mkN (z k)) c1 (fun j => (madeL (z k) (s (segT z k))).getD j 0) w1.drew (HN1.out.rd.drewN 1) (by omega) (fun j hj => madeL_get hzk (fun h0 => HSK.out _ (by omega)) j)
      have hq2 : Calls Try.prog 63 #[.slice (some ⟨g, o', none⟩) (tkN (z k)) (c - segT z k)] w1.drew fun e w' => e = .returned (.int .i64 (sumR s (segT z k) (tkN (z k)))) ∧ w1.drew = w' := (sumOf_any (some ⟨g, o', none⟩) (tkN (z k)) (c - segT z k) (fun j => s (segT z k + j)) w1.drew ((HRD.out.below hn1.bl).drewN 1) (by omega) (fun j hj => by have := HST.out j hj; omega)).mono fun _ _ h => ⟨h.1.trans (by rw [sumR_shift]; rfl), h.2⟩
      have HQ1 := Lib.hid hq1
      have HQ2 := Lib.hid hq2
      have hs0 := HB1.out.size
      simp only [World.size_alloc] at hs0
      clear hq1 hq2
      clear hn1 hcz
      go_wp2_with fail
      have s1 : IntKind.i64.wrap (madeS (z k) (s (segT z k)) - sumR s (segT z k) (tkN (z k))) = chg s z k := by
        have h1 := HMB.out
        have h2 := HSB.out
        exact IntWalk.i64_in _ (by omega)
      go_region_held3 (fun _ => True) (trivial) (first
        | (go_at_call_of 63 (Value.slice A1 (mkN (z k)) c1); refine HQ1.out.mono ?_; rintro e w' ⟨rfl, rfl⟩)
        | (go_at_call_of 63 (Value.slice (some ⟨g, o', none⟩) (tkN (z k)) (c - segT z k)); refine HQ2.out.mono ?_; rintro e w' ⟨rfl, rfl⟩)
        | (refine step_app w1.drew rfl (.tmp 36) (.tmp 44) _ rfl (w.heap.size + 1) 2 i0 _ 1 8 Try.underlying38 hi iz is ib rfl (by omega) u6 k (ints ((List.range k).map (chg s z))) rfl HOWN1.out _ 1 1 _ rfl rfl (by simp [Value.oneCell']) (by unfold maxLen; omega) (by omega) hs0 ?_; intro v' w' hown' hb'))
      have HOWN' := Lib.hid hown'
      have HB' := Lib.hid (HB1.out.drew.trans hb')
      clear hown' hb'
      clear s1
      by_cases hcap : c - segT z k = tkN (z k)
      · go_wp2
        go_roundw
        case rel => exact ⟨k + 1, by omega, by go_num, ⟨o', (by have := HT2.out; first | exact ⟨by omega, by omega⟩ | exact ⟨rfl, by omega, by omega⟩ | exact slice_eq (by omega) (by omega)), Lib.hid fun h => by rw [HT2.out] at h; omega⟩, by rw [List.range_succ, List.map_append, List.map_cons, List.map_nil, ints_app]; exact HOWN'.out, HB'.out⟩
        case measure => simp [intOf] <;> omega
      · go_wp2
        go_roundw
        case rel => exact ⟨k + 1, by omega, by go_num, ⟨o' + tkN (z k), (by have := HT2.out; first | exact ⟨by omega, by omega⟩ | exact ⟨rfl, by omega, by omega⟩ | exact slice_eq (by omega) (by omega)), Lib.hid fun h => by rw [HT2.out] at h ⊢; have := HO.out (by omega); omega⟩, by rw [List.range_succ, List.map_append, List.map_cons, List.map_nil, ints_app]; exact HOWN'.out, HB'.out⟩
        case measure => simp [intOf] <;> omega
    · obtain rfl : m = k := by omega
      have hs1 := HB.out.size
      simp only [World.size_alloc] at hs1
      obtain ⟨A3, c3, rfl⟩ := own_form HOWN.out
      have HN3 := Lib.hid (own_rd HOWN.out)
      go_wp2_with fail
      refine (order_any d cc A2 m c2 _ (by omega)).mono ?_
      rintro e w2 ⟨A4, c4, rfl, hn4⟩
      have HN4 := Lib.hid hn4
      have HB4 := Lib.hid (HB.out.trans (hn4.bl.mono hs1))
      have HOWN4 := Lib.hid (own_below HOWN.out hn4.bl)
      clear hn4 hbx
      go_wp2_with fail
      go_loop [5, 53] (fun sm i => ∃ k : Nat, k ≤ m ∧ i = .int .i64 k ∧ sm = .int .i64 (keepS s n z m d k) ∧ Hid (keepB s n z m d k = true)) (fun _ i => m - (intOf i).toNat)
      case atStart => exact ⟨0, Nat.zero_le _, rfl, rfl, Lib.hid rfl⟩
      case round =>
        obtain ⟨k, hk, rfl, rfl, HK⟩ := hrel
        have hkb := keepS_bounds d HSK.out HT.out hk
        by_cases hlt : k < m
        · have hol := ordN_lt (d := d) hlt
          have hcb := chg_bounds HSK.out HT.out hol
          obtain ⟨g4, o4, rfl, hg4, hr4⟩ := HN4.out.rd (by omega)
          have hc4 := hr4 k hlt
          obtain ⟨g3, o3, e3, hg3, hr3⟩ := (own_rd HOWN4.out) (by omega)
          subst e3
          have hc3 := hr3 (ordN d m k) hol
          have HS2 := Lib.hid (show keepS s n z m d (k + 1) = keepS s n z m d k + chg s z (ordN d m k) from rfl)
          clear hr4 hr3
          by_cases h12 : 12 < keepS s n z m d k + chg s z (ordN d m k)
          · go_wp2
            go_ret
            exact ⟨ret_bool (keepB_false hlt (by rw [HS2.out]; omega)).symm, HL.out.trans (HB4.out.mono (by omega))⟩
          · go_wp2
            go_round
            case rel => exact ⟨k + 1, by omega, by go_num, i64c HS2.out.symm, Lib.hid (by simp only [keepB]; rw [HK.out, HS2.out]; simp; omega)⟩
            case measure => simp [intOf] <;> omega
        · obtain rfl : m = k := by omega
          go_wp2
          go_ret
          exact ⟨ret_bool HK.out.symm, HL.out.trans (HB4.out.mono (by omega))⟩
theorem implValidRow_any (d cc : Int) (A2 : Option Addr) (m c2 : Nat) (z : Nat → Int) (w : World) (hb : Rd w A2 m (fun j => .int .i64 (z j))) (hm : m ≤ 1048576) :
    Calls Try.prog 37 #[.agg #[.int .i64 d, .int .i64 cc, .slice A2 m c2]] w fun e w' => e = .returned (.bool (dirB d && inB cc 1 4 && stitchesB z m)) ∧ Below w.heap.size w w' := by
  have HC := Lib.hid (areStitches_any A2 m c2 z _ (hb.below ((Below.refl w.heap.size w).alloc (Nat.le_refl _) (.cells #[.int .i64 d, .int .i64 cc, .slice A2 m c2] 40))) hm)
  clear hb
  go_enter Try.func37, Try.ntmps37
  go_wp2_with (first | (go_at_call 60; refine (isDir_any _ _).mono ?_; rintro e w' ⟨rfl, rfl⟩) | (go_at_call 35; refine (isCarrier_any _ _).mono ?_; rintro e w' ⟨rfl, rfl⟩) | (go_at_call 61; refine HC.out.mono ?_; rintro e w' ⟨rfl, rfl⟩))
  all_goals go_ret
  all_goals exact ⟨ret_bool (by simp_all), (Below.refl _ _).alloc (Nat.le_refl _) _⟩
end Go.Proofs.Ytacppheedleamaa
