/- Walks: the greatest numbers of loops, by the program. No condition but the bounds. Walks: the greatest numbers of loops over a run, by the program. No condition but the bounds. Walks: both PeakStack and both PeakLoops: the same numbers. No condition but the bounds. -/
import Derived.Test.YtpmfkpehmckgmaaMachZ
namespace Go.Proofs.Ytpmfkpehmckgmaa
open Go.RowKit
set_option maxRecDepth 20000

/-- How many loops list t of both beds has. -/
def lenAt (s : Mst) (t : Nat) : Nat := if t < s.W then s.f t else s.k (t - s.W)
def pq (s : Mst) (st : Nat) : Nat → Nat
  | 0 => st
  | t + 1 => max (pq s st t) (lenAt s t)
def sq (s : Mst) : Nat → Nat
  | 0 => 0
  | t + 1 => sq s t + lenAt s t
def fm (s : Mst) (st : Nat) : Nat → Nat
  | 0 => st
  | t + 1 => max (fm s st t) (s.f t)
def km (s : Mst) : Nat → Nat
  | 0 => 0
  | t + 1 => max (km s t) (s.k t)
theorem pq_f (s : Mst) (st i : Nat) (hi : i ≤ s.W) : pq s st i = fm s st i := by
  induction i with
  | zero => rfl
  | succ i ih => simp only [pq, fm]; rw [ih (by omega)]; unfold lenAt; rw [if_pos (by omega)]
theorem pq_k (s : Mst) (st i : Nat) (hi : i ≤ s.W) : pq s st (s.W + i) = max (fm s st s.W) (km s i) := by
  induction i with
  | zero => rw [Nat.add_zero, pq_f s st s.W (Nat.le_refl _)]; simp [km]
  | succ i ih =>
    show max (pq s st (s.W + i)) (lenAt s (s.W + i)) = _
    rw [ih (by omega)]
    unfold lenAt
    rw [if_neg (by omega), show s.W + i - s.W = i by omega]
    simp only [km]
    omega
theorem pkS_eq (s : Mst) (st i : Nat) : pkS s st i = max (fm s st i) (km s i) := by
  induction i with
  | zero => simp [pkS, fm, km]
  | succ i ih => simp only [pkS, fm, km]; omega
theorem pq_all (s : Mst) (st : Nat) : pq s st (s.W + s.W) = pkS s st s.W := by rw [pq_k s st s.W (Nat.le_refl _), pkS_eq]
def fs (s : Mst) : Nat → Nat
  | 0 => 0
  | t + 1 => fs s t + s.f t
def ks (s : Mst) : Nat → Nat
  | 0 => 0
  | t + 1 => ks s t + s.k t
theorem sq_f (s : Mst) (i : Nat) (hi : i ≤ s.W) : sq s i = fs s i := by
  induction i with
  | zero => rfl
  | succ i ih => simp only [sq, fs]; rw [ih (by omega)]; unfold lenAt; rw [if_pos (by omega)]
theorem sq_k (s : Mst) (i : Nat) (hi : i ≤ s.W) : sq s (s.W + i) = fs s s.W + ks s i := by
  induction i with
  | zero => rw [Nat.add_zero, sq_f s s.W (Nat.le_refl _)]; rfl
  | succ i ih =>
    show sq s (s.W + i) + lenAt s (s.W + i) = _
    rw [ih (by omega)]
    unfold lenAt
    rw [if_neg (by omega), show s.W + i - s.W = i by omega]
    simp only [ks]
    omega
theorem pkN_eq (s : Mst) (i : Nat) : pkN s i = fs s i + ks s i := by
  induction i with
  | zero => rfl
  | succ i ih => simp only [pkN, fs, ks]; omega
theorem sq_all (s : Mst) : sq s (s.W + s.W) = pkN s s.W := by rw [sq_k s s.W (Nat.le_refl _), pkN_eq]
theorem lenAt_le {s : Mst} {D : Nat} (hs : MOk s D) {t : Nat} (ht : t < s.W + s.W) : lenAt s t ≤ 4 := by
  unfold lenAt
  split
  · exact hs.fb _ ‹_›
  · exact hs.kb _ (by omega)
theorem pq_le {s : Mst} {D : Nat} (hs : MOk s D) {st : Nat} (h4 : st ≤ 4) (t : Nat) (ht : t ≤ s.W + s.W) : pq s st t ≤ 4 ∧ sq s t ≤ 4 * t := by
  induction t with
  | zero => exact ⟨h4, Nat.zero_le _⟩
  | succ t ih =>
    have h1 := ih (by omega)
    have h2 := lenAt_le hs (t := t) (by omega)
    simp only [pq, sq]
    omega
theorem growLL_nil (n : Nat) (w : World) (h0 : 0 < n) (hn : n ≤ 4000) :
    Calls Try.prog 99 #[.slice none 0 0, .int .i64 n] w fun e w' => ∃ v, e = .returned v ∧ w'.ownsRow w.heap.size 41 1 v 0 [] ∧ Below w.heap.size w w' := by
  obtain ⟨i0, hi, iz, is, ib⟩ := info_parts infoLL
  go_enter Try.func99, Try.ntmps99
  go_wp2_with (at_builtin; go_must (refine wpList_zeros _ rfl (.tmp 20) (.tmp 21) _ _ rfl 41 i0 _ 1 24 Try.underlying65 Try.underlying3 hi iz is ib rfl (by omega) n h0 (by unfold maxLen; omega) (by omega) rfl rfl ?_); intro c w' hown hc hb hlt)
  go_ret
  exact ⟨_, rfl, hown, hb⟩
set_option maxHeartbeats 1000000 in
theorem concatLL_any (g cp : Nat) (A1 A2 : Option Addr) (n1 n2 c1 c2 : Nat) (f1 f2 : Nat → Value) (w : World) (h0 : w.cell? ⟨g, 0, none⟩ = some (.slice A1 n1 c1)) (h1 : w.cell? ⟨g, 1, none⟩ = some (.slice A2 n2 c2))
    (o1 : Rd w A1 n1 f1) (o2 : Rd w A2 n2 f2) (q1 : ∀ j, (f1 j).oneCell' = true) (q2 : ∀ j, (f2 j).oneCell' = true) (hp : 0 < n1 + n2) (hn1 : n1 ≤ 1000) (hn2 : n2 ≤ 1000) :
    Calls Try.prog 65 #[.slice (some ⟨g, 0, none⟩) 2 cp] w fun e w' => ∃ v, e = .returned v ∧ w'.ownsRow w.heap.size 41 1 v (n1 + n2) ((List.range n1).map f1 ++ (List.range n2).map f2) ∧ Below w.heap.size w w' := by
  obtain ⟨i0, hi, iz, is, ib⟩ := info_parts infoLL
  have hg := World.block_lt_of_cell? w _ h0
  have H0 := Lib.hid h0
  have H1 := Lib.hid h1
  have O1 := Lib.hid o1
  have O2 := Lib.hid o2
  have Q1 := Lib.hid q1
  have Q2 := Lib.hid q2
  clear h0 h1 o1 o2 q1 q2
  go_enter Try.func65, Try.ntmps65
  go_wp2
  go_loop [3, 11] (fun s i => ∃ k : Nat, k ≤ 2 ∧ i = .int .i64 k ∧ s = .int .i64 (sumN n1 n2 k)) (fun _ i => 2 - (intOf i).toNat)
  case atStart => exact ⟨0, by omega, rfl, rfl⟩
  case round =>
    obtain ⟨k, hk, rfl, rfl⟩ := hrel
    have k0 := H0.out
    have k1 := H1.out
    rcases (show k = 0 ∨ k = 1 ∨ k = 2 by omega) with rfl | rfl | rfl
    · simp only [sumN] at *
      go_wp2
      go_round
      case rel => exact ⟨1, by omega, by go_num, by simp⟩
      case measure => simp [intOf] <;> omega
    · simp only [sumN] at *
      go_wp2
      go_round
      case rel => exact ⟨2, by omega, by go_num, by simp⟩
      case measure => simp [intOf] <;> omega
    · simp only [sumN] at *
      go_wp2_with fail
      rw [← Int.natCast_add]
      refine (growLL_nil (n1 + n2) _ hp (by omega)).mono ?_
      rintro e w1 ⟨v1, rfl, ho1, hb1⟩
      have HO1 := Lib.hid ho1
      have HB1 := Lib.hid hb1
      clear ho1 hb1 k0 k1
      go_wp2_with fail
      go_loopw [6, 27] (fun v i wr => ∃ (k : Nat), k ≤ 2 ∧ i = .int .i64 k ∧ wr.ownsRow w.heap.size 41 1 v (sumN n1 n2 k) (if k = 0 then [] else if k = 1 then (List.range n1).map f1 else (List.range n1).map f1 ++ (List.range n2).map f2) ∧ Below w.heap.size w wr) (fun _ i _ => 2 - (intOf i).toNat)
      case atStart => exact ⟨0, by omega, rfl, HO1.out, HB1.out⟩
      case round =>
        obtain ⟨k, hk, rfl, hown, hb⟩ := hrel
        have k0 := ((bcell hb).1 _ _ hg).trans H0.out
        have k1 := ((bcell hb).1 _ _ hg).trans H1.out
        have P1 := Lib.hid (O1.out.below hb)
        have P2 := Lib.hid (O2.out.below hb)
        have hgr : g < wr.heap.size := blt hb hg
        have HB := Lib.hid hb
        have HOWN := Lib.hid hown
        clear hb hown
        rcases (show k = 0 ∨ k = 1 ∨ k = 2 by omega) with rfl | rfl | rfl
        · go_wp2_with (at_builtin; go_must (refine wpList_appR _ rfl (.tmp 31) (.tmp 32) _ rfl w.heap.size 41 i0 _ 1 24 Try.underlying65 hi iz is ib rfl (by omega) u6 0 [] rfl HOWN.out A1 n1 c1 f1 rfl (by rw [Nat.mul_one]; exact P1.out) Q1.out (by unfold maxLen; omega) (by omega) HB.out.size ?_); intro v' w' hown' hfr; have HOWN' := Lib.hid hown'; have HBN := Lib.hid (HB.out.trans ((hfr.own HOWN.out HB.out.size).mono (Nat.le_refl _))); clear hown' hfr)
          go_roundw
          case rel => exact ⟨1, by omega, by go_num, by simpa [sumN] using HOWN'.out, HBN.out⟩
          case measure => simp [intOf] <;> omega
        · go_wp2_with (at_builtin; go_must (refine wpList_appR _ rfl (.tmp 31) (.tmp 32) _ rfl w.heap.size 41 i0 _ 1 24 Try.underlying65 hi iz is ib rfl (by omega) u6 n1 ((List.range n1).map f1) rfl HOWN.out A2 n2 c2 f2 rfl (by rw [Nat.mul_one]; exact P2.out) Q2.out (by unfold maxLen; omega) (by omega) HB.out.size ?_); intro v' w' hown' hfr; have HOWN' := Lib.hid hown'; have HBN := Lib.hid (HB.out.trans ((hfr.own HOWN.out HB.out.size).mono (Nat.le_refl _))); clear hown' hfr)
          go_roundw
          case rel => exact ⟨2, by omega, by go_num, by simpa [sumN] using HOWN'.out, HBN.out⟩
          case measure => simp [intOf] <;> omega
        · go_wp2
          go_ret
          exact ⟨_, rfl, HOWN.out, HB.out⟩
end Go.Proofs.Ytpmfkpehmckgmaa

namespace Go.Proofs.Ytpmfkpehmckgmaa
open Go.RowKit
set_option maxRecDepth 20000

def cutF (W : Nat) (F : Nat → Value) (j : Nat) : Value := if j < W then F j else .slice none 0 0
theorem cutF_one {w : World} {W : Nat} {F : Nat → Value} {f : Nat → Nat} (h : ∀ j, j < W → LOwn w (F j) (f j)) (j : Nat) : (cutF W F j).oneCell' = true := by
  unfold cutF
  split
  · obtain ⟨A, c, e⟩ := (h j ‹_›).form
    rw [e]
    rfl
  · rfl
/-- List t of both beds, one after the other. -/
theorem beds_at {w : World} {tg : Nat → Nat} {a : MAdr} {s : Mst} (H : Mem tg a s w) {t : Nat} (ht : t < s.W + s.W) : ∃ A c, ((List.range s.W).map (cutF s.W a.F) ++ (List.range s.W).map (cutF s.W a.K))[t]? = some (.slice A (lenAt s t) c) := by
  unfold lenAt
  by_cases h : t < s.W
  · obtain ⟨A, c, e⟩ := (H.lf t h).form
    refine ⟨A, c, ?_⟩
    rw [if_pos h, List.getElem?_append_left (by simpa using h)]
    simp [h, cutF, e]
  · obtain ⟨A, c, e⟩ := (H.lk (t - s.W) (by omega)).form
    refine ⟨A, c, ?_⟩
    rw [if_neg h, List.getElem?_append_right (by simp; omega)]
    simp [show t - s.W < s.W by omega, cutF, e]
set_option maxHeartbeats 4000000 in
theorem peaks_any (W : Nat) (A : Option Addr) (n q : Nat) (z : Nat → Int) (w : World) (ha : Rd w A (n * 8) (fun j => .int .i64 (z j))) (hW1 : 1 ≤ W) (hW2 : W ≤ 24) (hn : n ≤ 1500) (hops : ∀ i, i < n → opW W z i = true) (hok : okTo W z n) :
    Calls Try.prog 40 #[.int .i64 W, .slice A n q] w fun e w' => e = .returned (.tuple #[.int .i64 (stk W z n : Nat), .int .i64 (alN W z n : Nat)]) ∧ Below w.heap.size w w' := by
  have HA := Lib.hid ha
  have HOPS := Lib.hid hops
  have HOK := Lib.hid hok
  clear ha hops hok
  go_enter Try.func40, Try.ntmps40
  go_wp2_with fail
  refine (newMachine_any W _ hW2).mono ?_
  rintro e w2 ⟨v, rfl, ⟨tg0, ⟨g0, gf, cf, gk, ck, gc, cc, F0, K0, L0, D0⟩, rfl, hlo, hlt0, ⟨⟨AL, nL, cL, hL⟩, ⟨AD, nD, cD, hD⟩⟩, hmk⟩, hb2⟩
  obtain rfl : L0 = _ := hL
  obtain rfl : D0 = _ := hD
  have HB2 := Lib.hid hb2
  have H0 : Hid (Runs w (onT tg0 w2.heap.size) ⟨w2.heap.size, gf, cf, gk, ck, gc, cc, F0, K0, .slice AL nL cL, .slice AD nD cD⟩ (mSt W z 0) (w2.alloc (.cells (cellsM ⟨g0, gf, cf, gk, ck, gc, cc, F0, K0, .slice AL nL cL, .slice AD nD cD⟩ (newM W)) 69))) := Lib.hid ⟨hmk _ _ (Decidable.byContradiction fun hn => Nat.lt_irrefl _ (hlt0 _ hn)) (fun b hb => Below.heap_alloc _ _ b (hlt0 b hb)) (by simp) (Blk.at_ _ _ _ rfl),
    HB2.out.alloc HB2.out.size _, fun q hq => by
      unfold onT at hq
      split at hq
      · have := HB2.out.size; omega
      · exact hlo q hq⟩
  clear hlo hlt0 hmk hb2
  have hw2s : w.heap.size ≤ w2.heap.size := HB2.out.size
  simp only [cellsM, newM] at H0 ⊢
  go_wp2_with fail
  go_loopw [7, 8, 18] (fun sv av iv wr => ∃ (i : Nat) (tg : Nat → Nat) (a : MAdr), i ≤ n ∧ iv = .int .i64 i ∧ sv = .int .i64 (stk W z i : Nat) ∧ av = .int .i64 (alN W z i : Nat) ∧ a.g = w2.heap.size ∧ Runs w tg a (mSt W z i) wr) (fun _ _ iv _ => n - (intOf iv).toNat)
  case atStart => exact ⟨0, _, _, Nat.zero_le _, rfl, rfl, rfl, rfl, H0.out⟩
  case round =>
    obtain ⟨i, tg, a, hile, rfl, rfl, rfl, hg, hr⟩ := hrel
    have HG := Lib.hid hg
    have HR := Lib.hid hr
    clear hg hr
    by_cases hlt : i < n
    · have HLT := Lib.hid hlt
      obtain ⟨ga, o, rfl, hga, hra⟩ := HA.out (by omega)
      have hce := opCe_of (hra.below hga HR.out.b) hlt
      have hs := mSt_ok hW1 hW2 i (fun q hq => HOPS.out q (by omega)) (fun q hq => HOK.out q (by omega))
      have hp := opOk_at hW1 (HOPS.out i hlt)
      rw [← mSt_W W z i] at hp
      have hbd := opBeds_B (HOPS.out i hlt)
      have hbo := bedOk_B (HOPS.out i hlt)
      have hkc := HOK.out i hlt
      unfold kC at hkc
      generalize hx0 : z (i * 8) = k at *
      generalize hx1 : z (i * 8 + 1) = d at *
      generalize hx2 : z (i * 8 + 2) = fb at *
      generalize hx3 : z (i * 8 + 3) = fa at *
      generalize hx4 : z (i * 8 + 4) = tb at *
      generalize hx5 : z (i * 8 + 5) = ta at *
      generalize hx6 : z (i * 8 + 6) = c at *
      generalize hx7 : z (i * 8 + 7) = r at *
      have HST : Hid (doSt (mSt W z i) k d fb fa tb ta r (c - 1).toNat = mSt W z (i + 1)) := Lib.hid (by
        show _ = kS (mSt W z i) z i
        unfold kS
        rw [hx0, hx1, hx2, hx3, hx4, hx5, hx6, hx7])
      have HS := Lib.hid hs
      have HP := Lib.hid hp
      have HBD := Lib.hid hbd
      have HBO := Lib.hid hbo
      have HKC := Lib.hid hkc
      have o0 := hce.c0
      have o1 := hce.c1
      have o2 := hce.c2
      have o3 : wr.cell? ⟨ga, o + i * 8 + 3, none⟩ = some (.int .i64 fa) := hce.c3
      have o4 := hce.c4
      have o5 : wr.cell? ⟨ga, o + i * 8 + 5, none⟩ = some (.int .i64 ta) := hce.c5
      have o6 := hce.c6
      have o7 := hce.c7
      clear hx0 hx1 hx2 hx3 hx4 hx5 hx6 hx7 hce hs hp hra hga hbd hbo hkc
      have HR1 := Lib.hid (HR.out.below ((Below.refl wr.heap.size wr).alloc (Nat.le_refl _) (.cells #[.int .i64 k, .int .i64 d, .int .i64 fb, .int .i64 fa, .int .i64 tb, .int .i64 ta, .int .i64 c, .int .i64 r] 58)))
      have hex := execute_any (D := 4 * i) (k := k) (d := d) (fb := fb) (fa := fa) (tb := tb) (ta := ta) (c := c) (r := r) HR1.out.m HS.out (by omega) HP.out HBD.out HBO.out
      rw [HG.out, HKC.out, HST.out] at hex
      have HEX := Lib.hid hex
      clear hex
      go_wp2_with fail
      refine HEX.out.mono ?_
      rintro e w6 ⟨rfl, _, hm6⟩
      obtain ⟨tg7, a7, hg7, hr7, _⟩ := HR1.out.step (by rw [HG.out]; exact hm6 rfl)
      have HR7 := Lib.hid hr7
      have HG7 : Hid (a7.g = w2.heap.size) := Lib.hid (hg7.trans HG.out)
      have hs7 := mSt_ok hW1 hW2 (i + 1) (fun q hq => HOPS.out q (by omega)) (fun q hq => HOK.out q (by omega))
      have hsb := stk_le hW1 hW2 i (fun q hq => HOPS.out q (by omega)) (fun q hq => HOK.out q (by omega))
      have HSTK := Lib.hid (show stk W z (i + 1) = pkS (mSt W z (i + 1)) (stk W z i) W from rfl)
      have HALN := Lib.hid (show alN W z (i + 1) = max (alN W z i) (pkN (mSt W z (i + 1)) W) from rfl)
      have hWe : W = (mSt W z (i + 1)).W := (mSt_W W z (i + 1)).symm
      generalize hse : mSt W z (i + 1) = s7 at *
      have HSE := Lib.hid hse
      clear hse
      have HS7 := Lib.hid hs7
      have HWE := Lib.hid hWe
      have m2 := (show w6.cell? ⟨a7.g, 2, none⟩ = some (.slice (some ⟨a7.gf, 0, none⟩) s7.W a7.cf) from HR7.out.m.m.cell 2)
      have m3 := (show w6.cell? ⟨a7.g, 3, none⟩ = some (.slice (some ⟨a7.gk, 0, none⟩) s7.W a7.ck) from HR7.out.m.m.cell 3)
      rw [HG7.out] at m2 m3
      have hsw2 := hs7.w2
      have hsw1 := hs7.w1
      have hrF : Rd w6 (some ⟨a7.gf, 0, none⟩) s7.W (cutF s7.W a7.F) := fun _ => ⟨a7.gf, 0, rfl, HR7.out.m.lt _ (by rw [HR7.out.m.tf]; omega), fun j hj => (HR7.out.m.f j hj).trans (by unfold cutF; rw [if_pos hj])⟩
      have hrK : Rd w6 (some ⟨a7.gk, 0, none⟩) s7.W (cutF s7.W a7.K) := fun _ => ⟨a7.gk, 0, rfl, HR7.out.m.lt _ (by rw [HR7.out.m.tk]; omega), fun j hj => (HR7.out.m.k j hj).trans (by unfold cutF; rw [if_pos hj])⟩
      have HRF := Lib.hid hrF
      have HRK := Lib.hid hrK
      have hb7 : Below w6.heap.size w6 (w6.alloc (.cells #[.slice (some ⟨a7.gf, 0, none⟩) s7.W a7.cf, .slice (some ⟨a7.gk, 0, none⟩) s7.W a7.ck] 65)) := (Below.refl _ _).alloc (Nat.le_refl _) _
      have HB7 := Lib.hid hb7
      clear hm6 hg7 hr7 o0 o1 o2 o3 o4 o5 o6 o7 hs7 hWe hrF hrK hb7 HST HEX HKC
      go_wp2_with fail
      refine (concatLL_any w6.heap.size 2 (some ⟨a7.gf, 0, none⟩) (some ⟨a7.gk, 0, none⟩) s7.W s7.W a7.cf a7.ck (cutF s7.W a7.F) (cutF s7.W a7.K) _ ((new_at _ _ _ rfl 0).trans rfl) ((new_at _ _ _ rfl 1).trans rfl) (HRF.out.below HB7.out) (HRK.out.below HB7.out) (cutF_one HR7.out.m.lf) (cutF_one HR7.out.m.lk) (by omega) (by omega) (by omega)).mono ?_
      rintro e w8 ⟨v8, rfl, hown8, hb8⟩
      obtain ⟨gv, cv, rfl⟩ : ∃ gv cv, v8 = .slice (some ⟨gv, 0, none⟩) (s7.W + s7.W) cv := by
        rcases hown8.2 with ⟨_, h0⟩ | ⟨q, cap, _, e, _⟩
        · omega
        · exact ⟨q, cap, e⟩
      have HOWN8 := Lib.hid hown8
      have HR8 := Lib.hid (HR7.out.below (HB7.out.trans (hb8.mono HB7.out.size)))
      clear hown8 hb8 m2 m3
      obtain ⟨st, hst⟩ : ∃ x, x = stk W z i := ⟨_, rfl⟩
      obtain ⟨al, hal⟩ : ∃ x, x = alN W z i := ⟨_, rfl⟩
      rw [← hst] at hsb HSTK ⊢
      rw [← hal] at hsb HALN ⊢
      clear hst hal
      go_wp2_with fail
      go_loop [7, 11, 31] (fun sv mv tv => ∃ t : Nat, t ≤ s7.W + s7.W ∧ tv = .int .i64 t ∧ sv = .int .i64 (pq s7 st t : Nat) ∧ mv = .int .i64 (sq s7 t : Nat)) (fun _ _ tv => (s7.W + s7.W) - (intOf tv).toNat)
      case atStart => exact ⟨0, Nat.zero_le _, rfl, rfl, rfl⟩
      case round =>
        obtain ⟨t, htl, rfl, rfl, rfl⟩ := hrel
        have hpq := pq_le HS7.out hsb.1 t htl
        by_cases htt : t < s7.W + s7.W
        · obtain ⟨At, ct, hat⟩ := beds_at HR7.out.m htt
          have hct := HOWN8.out.cellAt t (by omega)
          rw [hat] at hct
          have hl4 := lenAt_le HS7.out htt
          have HPQ := Lib.hid (show pq s7 st (t + 1) = max (pq s7 st t) (lenAt s7 t) from rfl)
          have HSQ := Lib.hid (show sq s7 (t + 1) = sq s7 t + lenAt s7 t from rfl)
          generalize lenAt s7 t = ln at *
          generalize pq s7 st t = pp at *
          generalize sq s7 t = ss at *
          clear hat
          go_wp2_with fail
          go_round
          case rel => exact ⟨t + 1, htt, by go_num, by rw [HPQ.out]; exact congrArg (Value.int .i64) (by omega), by rw [HSQ.out]; go_num⟩
          case measure => simp [intOf] <;> omega
        · obtain rfl : t = s7.W + s7.W := by omega
          have hpqa := pq_all s7 st
          have hsqa := sq_all s7
          rw [hpqa, hsqa] at hpq ⊢
          have hpn := pkN_le HS7.out s7.W (Nat.le_refl _)
          rw [← HWE.out] at hpq hpn ⊢
          have HF : Hid (pkS s7 st W = stk W z (i + 1) ∧ (max al (pkN s7 W)) = alN W z (i + 1)) := Lib.hid ⟨HSTK.out.symm, HALN.out.symm⟩
          clear hpqa hsqa
          generalize pkS s7 st W = pp at *
          generalize pkN s7 W = nn at *
          have hww : ((W : Int) + W) = ((W + W : Nat) : Int) := by omega
          clear hww
          go_wp2_with fail
          go_roundw
          case rel => exact ⟨i + 1, tg7, a7, HLT.out, by go_num, congrArg (Value.int .i64) (by rw [HF.out.1]), by rw [← HF.out.2]; exact congrArg (Value.int .i64) (by omega), HG7.out, by rw [HSE.out]; exact HR8.out⟩
          case measure => simp [intOf] <;> omega
    · obtain rfl : n = i := by omega
      go_wp2_with fail
      go_ret2
      exact ⟨rfl, HR.out.b⟩
end Go.Proofs.Ytpmfkpehmckgmaa

namespace Go.Proofs.Ytpmfkpehmckgmaa
open Go.RowKit
set_option maxRecDepth 20000

def okN (W : Int) (z : Nat → Int) (n : Nat) (x : Nat) : Nat := if codeOf W z n = 0 then x else 0
def PkP (w : World) (x : Nat) (c : Int) (e : Ending) (w' : World) : Prop := e = .returned (.tuple #[.int .i64 (x : Nat), .int .i64 c]) ∧ Below w.heap.size w w'
section
variable (W : Int) (A : Option Addr) (n q : Nat) (z : Nat → Int) (w : World)
theorem specPeakStack_any (ha : Rd w A (n * 8) (fun j => .int .i64 (z j))) (hn : n ≤ 1048576) : Calls Try.prog 15 #[.int .i64 W, .slice A n q] w (PkP w (okN W z n (stk W.toNat z n)) (codeOf W z n)) := by
  have hr := l27Run_any W A n q z w ha hn
  clear ha
  by_cases hc : codeOf W z n = 0
  · have HX := Lib.hid (show okN W z n (stk W.toNat z n) = stk W.toNat z n from if_pos hc)
    have HC := Lib.hid hc
    have HR := Lib.hid hr
    clear hc hr
    go_enter Try.func15, Try.ntmps15
    go_wp2_with fail
    refine HR.out.mono ?_
    rintro e w1 ⟨_, h2⟩
    obtain ⟨g, rfl, _, _, hb⟩ := h2 HC.out
    have HB := Lib.hid hb
    clear h2 hb
    go_wp2_with fail
    go_ret2
    exact ⟨by rw [HX.out, HC.out]; rfl, HB.out⟩
  · have HX := Lib.hid (show okN W z n (stk W.toNat z n) = 0 from if_neg hc)
    have HC := Lib.hid hc
    have HR := Lib.hid hr
    clear hc hr
    go_enter Try.func15, Try.ntmps15
    go_wp2_with fail
    refine HR.out.mono ?_
    rintro e w1 ⟨h1, _⟩
    obtain ⟨rfl, hb⟩ := h1 HC.out
    have HB := Lib.hid hb
    clear h1 hb
    go_wp2_with fail
    go_ret2
    exact ⟨by rw [HX.out]; rfl, HB.out⟩
theorem specPeakLoops_any (ha : Rd w A (n * 8) (fun j => .int .i64 (z j))) (hn : n ≤ 1048576) : Calls Try.prog 11 #[.int .i64 W, .slice A n q] w (PkP w (okN W z n (alN W.toNat z n)) (codeOf W z n)) := by
  have hr := l27Run_any W A n q z w ha hn
  clear ha
  by_cases hc : codeOf W z n = 0
  · have HX := Lib.hid (show okN W z n (alN W.toNat z n) = alN W.toNat z n from if_pos hc)
    have HC := Lib.hid hc
    have HR := Lib.hid hr
    clear hc hr
    go_enter Try.func11, Try.ntmps11
    go_wp2_with fail
    refine HR.out.mono ?_
    rintro e w1 ⟨_, h2⟩
    obtain ⟨g, rfl, _, _, hb⟩ := h2 HC.out
    have HB := Lib.hid hb
    clear h2 hb
    go_wp2_with fail
    go_ret2
    exact ⟨by rw [HX.out, HC.out]; rfl, HB.out⟩
  · have HX := Lib.hid (show okN W z n (alN W.toNat z n) = 0 from if_neg hc)
    have HC := Lib.hid hc
    have HR := Lib.hid hr
    clear hc hr
    go_enter Try.func11, Try.ntmps11
    go_wp2_with fail
    refine HR.out.mono ?_
    rintro e w1 ⟨h1, _⟩
    obtain ⟨rfl, hb⟩ := h1 HC.out
    have HB := Lib.hid hb
    clear h1 hb
    go_wp2_with fail
    go_ret2
    exact ⟨by rw [HX.out]; rfl, HB.out⟩
/-- A code of 0: the program is valid, and all goes well. -/
theorem codeOf_ok {W : Int} {z : Nat → Int} {n : Nat} (h : codeOf W z n = 0) : ∃ W' : Nat, W = W' ∧ 1 ≤ W' ∧ W' ≤ 24 ∧ n ≤ 1500 ∧ (∀ i, i < n → opW W' z i = true) ∧ okTo W' z n := by
  cases hpb : progB W z n
  · rw [codeOf_no hpb] at h
    omega
  · obtain ⟨W', rfl, h1, h2, h3, h4, h5⟩ := prog_parts hpb
    refine ⟨W', rfl, h1, h2, h3, h4, fun i => ?_⟩
    rw [h5] at h
    induction i using Nat.strongRecOn with
    | _ i ih =>
      intro hi
      refine Decidable.byContradiction fun hk => ?_
      exact hk ((runC_stop (fun q hq => ih q hq (by omega)) hi hk).symm.trans h)
theorem implPeakStack_any (ha : Rd w A (n * 8) (fun j => .int .i64 (z j))) (hn : n ≤ 1048576) : Calls Try.prog 16 #[.int .i64 W, .slice A n q] w (PkP w (okN W z n (stk W.toNat z n)) (codeOf W z n)) := by
  have hr := runCode_any W A n q z w ha hn
  have HA := Lib.hid ha
  clear ha
  by_cases hc : codeOf W z n = 0
  · obtain ⟨W, rfl, h1, h2, h3, h4, h5⟩ := codeOf_ok hc
    have HX := Lib.hid (show okN (W : Int) z n (stk (W : Int).toNat z n) = stk W z n from (if_pos hc).trans (by rw [Int.toNat_natCast]))
    rw [hc] at hr
    have HC := Lib.hid hc
    have HR := Lib.hid hr
    have H4 := Lib.hid h4
    have H5 := Lib.hid h5
    clear hc hr h4 h5
    go_enter Try.func16, Try.ntmps16
    go_wp2_with fail
    refine HR.out.mono ?_
    rintro e w1 ⟨rfl, hb1⟩
    have HB1 := Lib.hid hb1
    clear hb1
    go_wp2_with fail
    refine (peaks_any W A n q z w1 (HA.out.below HB1.out) h1 h2 h3 H4.out H5.out).mono ?_
    rintro e w2 ⟨rfl, hb2⟩
    have HB2 := Lib.hid (HB1.out.trans (hb2.mono HB1.out.size))
    clear hb2
    go_wp2_with fail
    go_ret2
    exact ⟨by rw [HX.out, HC.out]; rfl, HB2.out⟩
  · have HX := Lib.hid (show okN W z n (stk W.toNat z n) = 0 from if_neg hc)
    obtain ⟨cd, hcd⟩ : ∃ x, x = codeOf W z n := ⟨_, rfl⟩
    rw [← hcd] at hr hc ⊢
    have hc1 : (cd == 0) = false := by simpa using hc
    have HR := Lib.hid hr
    clear hc hr hcd
    go_enter Try.func16, Try.ntmps16
    go_wp2_with fail
    refine HR.out.mono ?_
    rintro e w1 ⟨rfl, hb⟩
    have HB := Lib.hid hb
    clear hb
    go_wp2_with fail
    go_ret2
    exact ⟨by rw [HX.out]; rfl, HB.out⟩
theorem implPeakLoops_any (ha : Rd w A (n * 8) (fun j => .int .i64 (z j))) (hn : n ≤ 1048576) : Calls Try.prog 13 #[.int .i64 W, .slice A n q] w (PkP w (okN W z n (alN W.toNat z n)) (codeOf W z n)) := by
  have hr := runCode_any W A n q z w ha hn
  have HA := Lib.hid ha
  clear ha
  by_cases hc : codeOf W z n = 0
  · obtain ⟨W, rfl, h1, h2, h3, h4, h5⟩ := codeOf_ok hc
    have HX := Lib.hid (show okN (W : Int) z n (alN (W : Int).toNat z n) = alN W z n from (if_pos hc).trans (by rw [Int.toNat_natCast]))
    rw [hc] at hr
    have HC := Lib.hid hc
    have HR := Lib.hid hr
    have H4 := Lib.hid h4
    have H5 := Lib.hid h5
    clear hc hr h4 h5
    go_enter Try.func13, Try.ntmps13
    go_wp2_with fail
    refine HR.out.mono ?_
    rintro e w1 ⟨rfl, hb1⟩
    have HB1 := Lib.hid hb1
    clear hb1
    go_wp2_with fail
    refine (peaks_any W A n q z w1 (HA.out.below HB1.out) h1 h2 h3 H4.out H5.out).mono ?_
    rintro e w2 ⟨rfl, hb2⟩
    have HB2 := Lib.hid (HB1.out.trans (hb2.mono HB1.out.size))
    clear hb2
    go_wp2_with fail
    go_ret2
    exact ⟨by rw [HX.out, HC.out]; rfl, HB2.out⟩
  · have HX := Lib.hid (show okN W z n (alN W.toNat z n) = 0 from if_neg hc)
    obtain ⟨cd, hcd⟩ : ∃ x, x = codeOf W z n := ⟨_, rfl⟩
    rw [← hcd] at hr hc ⊢
    have hc1 : (cd == 0) = false := by simpa using hc
    have HR := Lib.hid hr
    clear hc hr hcd
    go_enter Try.func13, Try.ntmps13
    go_wp2_with fail
    refine HR.out.mono ?_
    rintro e w1 ⟨rfl, hb⟩
    have HB := Lib.hid hb
    clear hb
    go_wp2_with fail
    go_ret2
    exact ⟨by rw [HX.out]; rfl, HB.out⟩
end
end Go.Proofs.Ytpmfkpehmckgmaa
