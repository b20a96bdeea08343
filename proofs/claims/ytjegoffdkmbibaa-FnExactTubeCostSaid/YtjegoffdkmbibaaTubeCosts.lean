/- Walks: both TubeCost: how many loops, transfers and turns; the same numbers in new memory. No condition. -/
import Derived.Test.YtjegoffdkmbibaaTubeOpss
namespace Go.Proofs.Ytjegoffdkmbibaa
open Go.RowKit
set_option maxRecDepth 20000

/-- The counts, and the last direction. -/
structure CS where
  a : Nat
  x : Nat
  t : Nat
  d : Int
def csNext (kk dd : Int) (s : CS) : CS := if kk = 1 then ⟨s.a + 1, s.x, if s.d ≠ 0 ∧ dd ≠ s.d then s.t + 1 else s.t, dd⟩ else if kk = 4 then ⟨s.a, s.x + 1, s.t, s.d⟩ else s
def cs (L : List Int) : Nat → CS
  | 0 => ⟨0, 0, 0, 0⟩
  | j + 1 => csNext (L.getD (j * 8) 0) (L.getD (j * 8 + 1) 0) (cs L j)
theorem cs_le (L : List Int) (j : Nat) : (cs L j).a ≤ j ∧ (cs L j).x ≤ j ∧ (cs L j).t ≤ j := by
  induction j with
  | zero => exact ⟨Nat.le_refl _, Nat.le_refl _, Nat.le_refl _⟩
  | succ j ih =>
    obtain ⟨h1, h2, h3⟩ := ih
    simp only [cs, csNext]
    repeat' split
    all_goals (refine ⟨?_, ?_, ?_⟩ <;> (try simp only []) <;> omega)
def csZ (s : CS) (j : Nat) : Int := if j = 0 then s.a else if j = 1 then s.x else s.t

/-- In the loop: the counts lie in block G, the operations read as before. -/
def CostAt (w : World) (G : Nat) (A : Option Addr) (L : List Int) (N : Nat) (a x t : Nat) (wr : World) : Prop :=
  Below w.heap.size w wr ∧ (∀ p, A = some p → p.block ≠ G) ∧ Rd wr A (N * 8) (fun j => .int .i64 (L.getD j 0)) ∧ (∀ o, wr.frozen? ⟨G, o, none⟩ = false)
    ∧ wr.cell? ⟨G, 0, none⟩ = some (.int .i64 a) ∧ wr.cell? ⟨G, 1, none⟩ = some (.int .i64 x) ∧ wr.cell? ⟨G, 2, none⟩ = some (.int .i64 t)
theorem Rd.setOther {w : World} {A : Option Addr} {N : Nat} {f : Nat → Value} (h : Rd w A N f) (p : Addr) (v : Value) (hne : ∀ a, A = some a → a.block ≠ p.block) : Rd (w.setCell p v) A N f := fun hN => by
  obtain ⟨g, o, e, hg, hr⟩ := h hN
  refine ⟨g, o, e, by simpa [World.setCell] using hg, fun j hj => ?_⟩
  rw [World.cell?_setCell_other w _ _ v (by intro e'; subst e'; exact hne _ e rfl)]
  exact hr j hj
section
variable {w wr : World} {G : Nat} {A : Option Addr} {L : List Int} {N a x t : Nat}
theorem CostAt.set0 (h : CostAt w G A L N a x t wr) (hG : w.heap.size ≤ G) (a' : Nat) : CostAt w G A L N a' x t (wr.setCell ⟨G, 0, none⟩ (.int .i64 a')) := by
  obtain ⟨h1, h2, h3, h4, h5, h6, h7⟩ := h
  refine ⟨Below.setCell h1 (p := ⟨G, 0, none⟩) hG _, h2, h3.setOther _ _ h2, fun o => (World.frozen?_setCell _ _ _ _).trans (h4 o), World.cell?_setCell_same _ _ _ h5, ?_, ?_⟩
  all_goals rw [World.cell?_setCell_other _ _ _ _ (by intro e; injection e with e1 e2; omega)]; assumption
theorem CostAt.set1 (h : CostAt w G A L N a x t wr) (hG : w.heap.size ≤ G) (a' : Nat) : CostAt w G A L N a a' t (wr.setCell ⟨G, 1, none⟩ (.int .i64 a')) := by
  obtain ⟨h1, h2, h3, h4, h5, h6, h7⟩ := h
  refine ⟨Below.setCell h1 (p := ⟨G, 1, none⟩) hG _, h2, h3.setOther _ _ h2, fun o => (World.frozen?_setCell _ _ _ _).trans (h4 o), ?_, World.cell?_setCell_same _ _ _ h6, ?_⟩
  all_goals rw [World.cell?_setCell_other _ _ _ _ (by intro e; injection e with e1 e2; omega)]; assumption
theorem CostAt.set2 (h : CostAt w G A L N a x t wr) (hG : w.heap.size ≤ G) (a' : Nat) : CostAt w G A L N a x a' (wr.setCell ⟨G, 2, none⟩ (.int .i64 a')) := by
  obtain ⟨h1, h2, h3, h4, h5, h6, h7⟩ := h
  refine ⟨Below.setCell h1 (p := ⟨G, 2, none⟩) hG _, h2, h3.setOther _ _ h2, fun o => (World.frozen?_setCell _ _ _ _).trans (h4 o), ?_, ?_, World.cell?_setCell_same _ _ _ h7⟩
  all_goals rw [World.cell?_setCell_other _ _ _ _ (by intro e; injection e with e1 e2; omega)]; assumption
theorem CostAt.below {w' : World} (h : CostAt w G A L N a x t wr) (hb : Below wr.heap.size wr w') : CostAt w G A L N a x t w' := by
  obtain ⟨h1, h2, h3, h4, h5, h6, h7⟩ := h
  have hG := World.block_lt_of_cell? wr _ h5
  exact ⟨h1.trans (hb.mono h1.size), h2, h3.below hb, fun o => ((bcell hb).2 _ _ hG).trans (h4 o), ((bcell hb).1 _ _ hG).trans h5, ((bcell hb).1 _ _ hG).trans h6, ((bcell hb).1 _ _ hG).trans h7⟩
theorem CostAt.new (h : CostAt w G A L N a x t wr) (hG : w.heap.size ≤ G) (d : Int) : New w wr (some ⟨G, 0, none⟩) 3 (fun j => .int .i64 (csZ ⟨a, x, t, d⟩ j)) := by
  obtain ⟨h1, h2, h3, h4, h5, h6, h7⟩ := h
  have hr : RowR wr G 0 3 (fun j => .int .i64 (csZ ⟨a, x, t, d⟩ j)) := fun j hj => by
    rcases (show j = 0 ∨ j = 1 ∨ j = 2 by omega) with rfl | rfl | rfl
    · exact h5
    · exact h6
    · exact h7
  exact New.of_row h1 hG (World.block_lt_of_cell? wr _ h5) (fun j hj => ⟨⟨_, hr j hj⟩, h4 _⟩) hr
end

set_option maxHeartbeats 1000000 in
theorem specTubeCost_yes (n r : Nat) (c : Int) (b t : Bool) (w : World) (hb : tubeB n r c = true) :
    Calls Try.prog 20 #[.agg #[.int .i64 n, .int .i64 r, .int .i64 c, .bool b, .bool t]] w (NewP2 w 3 3 (fun j => .int .i64 (csZ (cs (opsZ n r c b t) (opsN n r t)) j)) 0) := by
  have hT := tubeB_true' hb
  have hN : opsN n r t ≤ 200 := by simpa [lOpsN, hb] using lOpsN_le n r c b t
  have BX := box_new w #[.int .i64 n, .int .i64 r, .int .i64 c, .bool b, .bool t] 27
  have HBX := Lib.hid BX
  clear BX
  go_enter Try.func20, Try.ntmps20
  go_wp2_with ((go_at_call 52; refine (l28Ok_any _ n r c _ (by go_simp) (by go_simp) (by go_simp)).mono ?_; rintro e w' ⟨rfl, rfl⟩))
  refine (l28Ops_any w.heap.size n r c b t _ (HBX.out 0) (HBX.out 1) (HBX.out 2) (HBX.out 3) (HBX.out 4) (by omega) (by omega)).mono ?_
  rintro e w1 ⟨v, rfl, ho, hb1⟩
  obtain ⟨A, q, rfl, hn⟩ := New.of_ints (w := w) (((Below.refl _ _).alloc (Nat.le_refl _) _).trans (hb1.mono (by simp))) (own_base ho (by simp))
  have HN := Lib.hid hn
  clear hn ho hb1
  have hmk : ∀ w, (Instr.makeSlice 32 (.int .i64 3) (.int .i64 3)).run Try.prog w = .ok (.slice (some ⟨w.heap.size, 0, none⟩) 3 3) (w.alloc (.cells #[.int .i64 0, .int .i64 0, .int .i64 0] 2)) := fun _ => by kernel_rfl
  go_wp2_with fail
  clear hmk
  have hsz := HN.out.bl.size
  generalize hL : opsZ n r c b t = L at HN ⊢
  generalize hM : opsN n r t = N at HN hN ⊢
  go_loopw [6, 7] (fun d i wr => ∃ k : Nat, k ≤ N ∧ i = .int .i64 k ∧ d = .int .i64 (cs L k).d ∧ CostAt w w1.heap.size A L N (cs L k).a (cs L k).x (cs L k).t wr) (fun _ i _ => N - (intOf i).toNat)
  case atStart =>
    refine ⟨0, Nat.zero_le _, rfl, rfl, HN.out.bl.alloc hsz _, fun a e => Nat.ne_of_lt (HN.out.bb a e), HN.out.rd.below ((Below.refl _ _).alloc (Nat.le_refl _) _), fun o => frozen_new _ _ _ _, ?_, ?_, ?_⟩
    all_goals exact cell_alloc_at rfl _
  case round =>
    obtain ⟨k, hk, rfl, rfl, hC⟩ := hrel
    obtain ⟨l0, l1, l2⟩ := cs_le L k
    have HC := Lib.hid hC
    obtain ⟨_, hne, hrd, hfr, hc0, hc1, hc2⟩ := hC
    have HRD := Lib.hid hrd
    clear hrd
    by_cases hlt : k < N
    · obtain ⟨g, o, rfl, hg, hr⟩ := HRD.out (by omega)
      have c0 := hr (k * 8 + 0) (by omega)
      have c1 := hr (k * 8 + 1) (by omega)
      simp only [← Nat.add_assoc, Nat.add_zero] at c0 c1
      clear hr
      have hgn : g ≠ w1.heap.size := hne _ rfl
      clear hne
      have e1 : cs L (k + 1) = csNext (L.getD (k * 8) 0) (L.getD (k * 8 + 1) 0) (cs L k) := rfl
      generalize L.getD (k * 8) 0 = kk at c0 e1
      generalize L.getD (k * 8 + 1) 0 = dd at c1 e1
      generalize cs L k = s at *
      obtain ⟨a, x, tt, d⟩ := s
      simp only [] at l0 l1 l2 hc0 hc1 hc2
      have HE := Lib.hid e1
      clear e1
      by_cases h1 : kk = 1
      · subst h1
        by_cases h2 : d = 0
        · subst h2
          go_wp2
          go_roundw
          case rel => exact ⟨k + 1, by omega, by go_num, by rw [HE.out]; simp [csNext], by rw [HE.out]; simpa [csNext] using HC.out.set0 hsz (a + 1)⟩
          case measure => simp [intOf] <;> omega
        · by_cases h3 : dd = d
          · subst h3
            go_wp2
            go_roundw
            case rel => exact ⟨k + 1, by omega, by go_num, by rw [HE.out]; simp [csNext], by rw [HE.out]; simpa [csNext] using HC.out.set0 hsz (a + 1)⟩
            case measure => simp [intOf] <;> omega
          · have hx1 : (d != 0) = true := by simp [h2]
            have hx2 : (dd != d) = true := by simp [h3]
            go_wp2
            go_roundw
            case rel => exact ⟨k + 1, by omega, by go_num, by rw [HE.out]; simp [csNext], by rw [HE.out]; simpa [csNext, h2, h3] using (HC.out.set0 hsz (a + 1)).set2 hsz (tt + 1)⟩
            case measure => simp [intOf] <;> omega
      · by_cases h4 : kk = 4
        · subst h4
          go_wp2
          go_roundw
          case rel => exact ⟨k + 1, by omega, by go_num, by rw [HE.out]; simp [csNext], by rw [HE.out]; simpa [csNext] using HC.out.set1 hsz (x + 1)⟩
          case measure => simp [intOf] <;> omega
        · go_wp2
          go_roundw
          case rel => exact ⟨k + 1, by omega, by go_num, by rw [HE.out]; simp [csNext, h1, h4], by rw [HE.out]; simpa [csNext, h1, h4] using HC.out⟩
          case measure => simp [intOf] <;> omega
    · obtain rfl : k = N := by omega
      go_wp2
      go_ret2
      subst hL hM
      exact ⟨_, _, rfl, HC.out.new hsz (cs (opsZ n r c b t) (opsN n r t)).d⟩

set_option maxHeartbeats 1000000 in
theorem implTubeCost_yes (n r : Nat) (c : Int) (b t : Bool) (w : World) (hb : tubeB n r c = true) :
    Calls Try.prog 21 #[.agg #[.int .i64 n, .int .i64 r, .int .i64 c, .bool b, .bool t]] w (NewP2 w 3 3 (fun j => .int .i64 (csZ (cs (opsZ n r c b t) (opsN n r t)) j)) 0) := by
  have hT := tubeB_true' hb
  have hN : opsN n r t ≤ 200 := by simpa [lOpsN, hb] using lOpsN_le n r c b t
  go_enter Try.func21, Try.ntmps21
  go_wp2_with fail
  refine (validTube_any n r c b t _).mono ?_
  rintro e w0 ⟨rfl, hb0⟩
  have hx : ∀ o, w0.cell? ⟨w.heap.size, o, none⟩ = (#[.int .i64 n, .int .i64 r, .int .i64 c, .bool b, .bool t] : Array Value)[o]? := fun o => ((bcell hb0).1 _ _ (by simp)).trans (cell_alloc_at rfl o)
  have hB0 := ((Below.refl w.heap.size w).alloc (Nat.le_refl _) (.cells #[.int .i64 n, .int .i64 r, .int .i64 c, .bool b, .bool t] 27)).trans (hb0.mono (by simp))
  have hlt0 : w.heap.size < w0.heap.size := blt hb0 (by simp)
  have HB0 := Lib.hid hB0
  clear hb0 hB0
  have hmk : ∀ w, (Instr.makeSlice 32 (.int .i64 3) (.int .i64 3)).run Try.prog w = .ok (.slice (some ⟨w.heap.size, 0, none⟩) 3 3) (w.alloc (.cells #[.int .i64 0, .int .i64 0, .int .i64 0] 2)) := fun _ => by kernel_rfl
  go_wp2_with fail
  refine (ops_any n r c b t _ (by omega) (by omega) (by omega)).mono ?_
  rintro e w1 ⟨v, rfl, ho, hb1⟩
  obtain ⟨A, q, rfl, hn⟩ := New.of_ints hb1 ho
  have HN := Lib.hid hn
  have hsz := HB0.out.size
  clear hmk hn ho hb1 hx
  go_wp2_with fail
  generalize hL : opsZ n r c b t = L at HN ⊢
  generalize hM : opsN n r t = N at HN hN ⊢
  go_loopw [5, 15] (fun d i wr => ∃ k : Nat, k ≤ N ∧ i = .int .i64 k ∧ d = .int .i64 (cs L k).d ∧ CostAt w w0.heap.size A L N (cs L k).a (cs L k).x (cs L k).t wr) (fun _ i _ => N - (intOf i).toNat)
  case atStart =>
    refine ⟨0, Nat.zero_le _, rfl, rfl, (HB0.out.alloc hsz _).trans (HN.out.bl.mono (by simp; omega)), fun a e => ?_, HN.out.rd, fun o => ((bcell HN.out.bl).2 _ _ (by simp)).trans (frozen_new _ _ _ _), ?_, ?_, ?_⟩
    · have := HN.out.ab a e
      simp at this
      omega
    all_goals exact ((bcell HN.out.bl).1 _ _ (by simp)).trans (cell_alloc_at rfl _)
  case round =>
    obtain ⟨k, hk, rfl, rfl, hC⟩ := hrel
    obtain ⟨l0, l1, l2⟩ := cs_le L k
    have HC := Lib.hid hC
    obtain ⟨_, hne, hrd, hfr, hc0, hc1, hc2⟩ := hC
    have HRD := Lib.hid hrd
    clear hrd
    by_cases hlt : k < N
    · obtain ⟨g, o, rfl, hg, hr⟩ := HRD.out (by omega)
      have c0 := hr (k * 8 + 0) (by omega)
      have c1 := hr (k * 8 + 1) (by omega)
      have c2 := hr (k * 8 + 2) (by omega)
      have c3 := hr (k * 8 + 3) (by omega)
      have c4 := hr (k * 8 + 4) (by omega)
      have c5 := hr (k * 8 + 5) (by omega)
      have c6 := hr (k * 8 + 6) (by omega)
      have c7 := hr (k * 8 + 7) (by omega)
      simp only [← Nat.add_assoc, Nat.add_zero] at c0 c1 c2 c3 c4 c5 c6 c7
      clear hr
      have hgn : g ≠ w0.heap.size := hne _ rfl
      have hG := World.block_lt_of_cell? wr _ hc0
      clear hne
      have e1 : cs L (k + 1) = csNext (L.getD (k * 8) 0) (L.getD (k * 8 + 1) 0) (cs L k) := rfl
      generalize L.getD (k * 8) 0 = kk at c0 e1
      generalize L.getD (k * 8 + 1) 0 = dd at c1 e1
      generalize cs L k = s at *
      obtain ⟨a, x, tt, d⟩ := s
      simp only [] at l0 l1 l2 hc0 hc1 hc2
      have HE := Lib.hid e1
      clear e1
      by_cases h1 : kk = 1
      · subst h1
        by_cases h2 : d = 0
        · subst h2
          go_wp2
          go_roundw
          case rel => exact ⟨k + 1, by omega, by go_num, by rw [HE.out]; simp [csNext], by rw [HE.out]; simpa [csNext] using (HC.out.set0 hsz (a + 1)).below ((Below.refl _ _).alloc (Nat.le_refl _) (.cells _ 76))⟩
          case measure => simp [intOf] <;> omega
        · by_cases h3 : dd = d
          · subst h3
            go_wp2
            go_roundw
            case rel => exact ⟨k + 1, by omega, by go_num, by rw [HE.out]; simp [csNext], by rw [HE.out]; simpa [csNext] using (HC.out.set0 hsz (a + 1)).below ((Below.refl _ _).alloc (Nat.le_refl _) (.cells _ 76))⟩
            case measure => simp [intOf] <;> omega
          · have hx1 : (d != 0) = true := by simp [h2]
            have hx2 : (d != dd) = true := by simp [Ne.symm h3]
            go_wp2
            go_roundw
            case rel => exact ⟨k + 1, by omega, by go_num, by rw [HE.out]; simp [csNext], by rw [HE.out]; simpa [csNext, h2, h3] using ((HC.out.set0 hsz (a + 1)).set2 hsz (tt + 1)).below ((Below.refl _ _).alloc (Nat.le_refl _) (.cells _ 76))⟩
            case measure => simp [intOf] <;> omega
      · by_cases h4 : kk = 4
        · subst h4
          go_wp2
          go_roundw
          case rel => exact ⟨k + 1, by omega, by go_num, by rw [HE.out]; simp [csNext], by rw [HE.out]; simpa [csNext] using (HC.out.set1 hsz (x + 1)).below ((Below.refl _ _).alloc (Nat.le_refl _) (.cells _ 76))⟩
          case measure => simp [intOf] <;> omega
        · go_wp2
          go_roundw
          case rel => exact ⟨k + 1, by omega, by go_num, by rw [HE.out]; simp [csNext, h1, h4], by rw [HE.out]; simpa [csNext, h1, h4] using HC.out.below ((Below.refl _ _).alloc (Nat.le_refl _) (.cells _ 76))⟩
          case measure => simp [intOf] <;> omega
    · obtain rfl : k = N := by omega
      go_wp2
      go_ret2
      subst hL hM
      exact ⟨_, _, rfl, HC.out.new hsz (cs (opsZ n r c b t) (opsN n r t)).d⟩

def lCostN (n r c : Int) : Nat := if tubeB n r c then 3 else 0
theorem lCostN_le (n r c : Int) : lCostN n r c ≤ 3 := by unfold lCostN; split <;> omega
def lCostZ (n r c : Int) (b t : Bool) (j : Nat) : Int := csZ (cs (opsZ n.toNat r.toNat c b t) (opsN n.toNat r.toNat t)) j
theorem specTubeCost_any (n r c : Int) (b t : Bool) (w : World) :
    Calls Try.prog 20 #[.agg #[.int .i64 n, .int .i64 r, .int .i64 c, .bool b, .bool t]] w (NewP2 w (lCostN n r c) (lCostN n r c * 1) (fun j => .int .i64 (lCostZ n r c b t j)) (tubeCode n r c)) := by
  cases h : tubeB n r c
  · rw [show lCostN n r c = 0 by simp [lCostN, h], show tubeCode n r c = 1 by simp [tubeCode, h]]
    go_enter Try.func20, Try.ntmps20
    go_wp2_with ((go_at_call 52; refine (l28Ok_any _ n r c _ (by go_simp) (by go_simp) (by go_simp)).mono ?_; rintro e w' ⟨rfl, rfl⟩))
    go_ret2
    exact ⟨none, 0, rfl, New.none_ (by (repeat' first | with_reducible exact Below.refl _ _ | with_reducible refine Below.alloc ?_ ?_ _ | with_reducible refine Below.setCell ?_ ?_ _ | with_reducible refine Below.drew ?_ | with_reducible refine Below.drewN' ?_ _ | with_reducible (refine Below.trans ?_ (Below.mono (by assumption) ?_)) | exact Nat.le_refl _ | (simp; done) | (simp; omega) | omega)) _⟩
  · have hb := tubeB_true' h
    obtain ⟨n, rfl⟩ := Int.eq_ofNat_of_zero_le (show 0 ≤ n by omega)
    obtain ⟨r, rfl⟩ := Int.eq_ofNat_of_zero_le (show 0 ≤ r by omega)
    rw [show lCostN n r c = 3 by simp [lCostN, h], show tubeCode n r c = 0 by simp [tubeCode, h]]
    exact specTubeCost_yes n r c b t w h
theorem implTubeCost_any (n r c : Int) (b t : Bool) (w : World) :
    Calls Try.prog 21 #[.agg #[.int .i64 n, .int .i64 r, .int .i64 c, .bool b, .bool t]] w (NewP2 w (lCostN n r c) (lCostN n r c * 1) (fun j => .int .i64 (lCostZ n r c b t j)) (tubeCode n r c)) := by
  cases h : tubeB n r c
  · rw [show lCostN n r c = 0 by simp [lCostN, h], show tubeCode n r c = 1 by simp [tubeCode, h]]
    go_enter Try.func21, Try.ntmps21
    go_wp2_with fail
    refine (validTube_any n r c b t _).mono ?_
    rintro e w1 ⟨rfl, hb⟩
    have HB := Lib.hid (((Below.refl w.heap.size w).alloc (Nat.le_refl _) (.cells #[.int .i64 n, .int .i64 r, .int .i64 c, .bool b, .bool t] 27)).trans (hb.mono (by simp)))
    clear hb
    go_wp2
    go_ret2
    exact ⟨none, 0, rfl, New.none_ HB.out _⟩
  · have hb := tubeB_true' h
    obtain ⟨n, rfl⟩ := Int.eq_ofNat_of_zero_le (show 0 ≤ n by omega)
    obtain ⟨r, rfl⟩ := Int.eq_ofNat_of_zero_le (show 0 ≤ r by omega)
    rw [show lCostN n r c = 3 by simp [lCostN, h], show tubeCode n r c = 0 by simp [tubeCode, h]]
    exact implTubeCost_yes n r c b t w h
end Go.Proofs.Ytjegoffdkmbibaa
