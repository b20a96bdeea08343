/- Walks: both TubeOps: the same operations in new memory, or the code of a tube that is not valid. No condition. (Printed by wip/topgen.py.) -/
import Derived.Test.YtjegoffdkmbibaaTubeOpsI
namespace Go.Proofs.Ytjegoffdkmbibaa
open Go.RowKit
set_option maxRecDepth 20000

def lOpsN (n r c : Int) (_b t : Bool) : Nat := if tubeB n r c then opsN n.toNat r.toNat t else 0
def lOpsZ (n r c : Int) (b t : Bool) : List Int := if tubeB n r c then opsZ n.toNat r.toNat c b t else []
theorem lOpsN_le (n r c : Int) (b t : Bool) : lOpsN n r c b t ≤ 200 := by
  unfold lOpsN
  split
  · rename_i h
    have := tubeB_true' h
    have hm : r.toNat * (n.toNat + n.toNat) ≤ 8 * 12 := Nat.mul_le_mul (by omega) (by omega)
    simp only [opsN, topN]
    repeat' split
    all_goals omega
  · omega

set_option maxHeartbeats 400000 in
theorem specTubeOps_any (n r c : Int) (b t : Bool) (w : World) :
    Calls Try.prog 27 #[.agg #[.int .i64 n, .int .i64 r, .int .i64 c, .bool b, .bool t]] w (NewP2 w (lOpsN n r c b t) (lOpsN n r c b t * 8) (fun j => .int .i64 ((lOpsZ n r c b t).getD j 0)) (tubeCode n r c)) := by
  cases h : tubeB n r c
  · rw [show lOpsN n r c b t = 0 by simp [lOpsN, h], show tubeCode n r c = 1 by simp [tubeCode, h]]
    go_enter Try.func27, Try.ntmps27
    go_wp2_with ((go_at_call 52; refine (l28Ok_any _ n r c _ (by go_simp) (by go_simp) (by go_simp)).mono ?_; rintro e w' ⟨rfl, rfl⟩))
    go_ret2
    exact ⟨none, 0, rfl, New.none_ (by (repeat' first | with_reducible exact Below.refl _ _ | with_reducible refine Below.alloc ?_ ?_ _ | with_reducible refine Below.setCell ?_ ?_ _ | with_reducible refine Below.drew ?_ | with_reducible refine Below.drewN' ?_ _ | with_reducible (refine Below.trans ?_ (Below.mono (by assumption) ?_)) | exact Nat.le_refl _ | (simp; done) | (simp; omega) | omega)) _⟩
  · have hb := tubeB_true' h
    obtain ⟨n, rfl⟩ := Int.eq_ofNat_of_zero_le (show 0 ≤ n by omega)
    obtain ⟨r, rfl⟩ := Int.eq_ofNat_of_zero_le (show 0 ≤ r by omega)
    have e1 : lOpsN n r c b t = opsN n r t := by simp [lOpsN, h]
    have e2 : lOpsZ n r c b t = opsZ n r c b t := by simp [lOpsZ, h]
    rw [e1, e2, show tubeCode n r c = 0 by simp [tubeCode, h]]
    clear e1 e2
    have BX := box_new w #[.int .i64 n, .int .i64 r, .int .i64 c, .bool b, .bool t] 27
    have HBX := Lib.hid BX
    clear BX
    go_enter Try.func27, Try.ntmps27
    go_wp2_with ((go_at_call 52; refine (l28Ok_any _ n r c _ (by go_simp) (by go_simp) (by go_simp)).mono ?_; rintro e w' ⟨rfl, rfl⟩))
    refine (l28Ops_any w.heap.size n r c b t _ (HBX.out 0) (HBX.out 1) (HBX.out 2) (HBX.out 3) (HBX.out 4) (by omega) (by omega)).mono ?_
    rintro e w1 ⟨v, rfl, ho, hb1⟩
    obtain ⟨A, q, rfl, hn⟩ := New.of_ints (w := w) (((Below.refl _ _).alloc (Nat.le_refl _) _).trans (hb1.mono (by simp))) (own_base ho (by simp))
    have HN := Lib.hid hn
    clear hn ho hb1
    go_wp2
    go_ret2
    exact ⟨A, q, rfl, HN.out⟩

set_option maxHeartbeats 400000 in
theorem implTubeOps_any (n r c : Int) (b t : Bool) (w : World) :
    Calls Try.prog 28 #[.agg #[.int .i64 n, .int .i64 r, .int .i64 c, .bool b, .bool t]] w (NewP2 w (lOpsN n r c b t) (lOpsN n r c b t * 8) (fun j => .int .i64 ((lOpsZ n r c b t).getD j 0)) (tubeCode n r c)) := by
  cases h : tubeB n r c
  · rw [show lOpsN n r c b t = 0 by simp [lOpsN, h], show tubeCode n r c = 1 by simp [tubeCode, h]]
    go_enter Try.func28, Try.ntmps28
    go_wp2_with fail
    refine (validTube_any n r c b t _).mono ?_
    rintro e w1 ⟨rfl, hb⟩
    have HB := Lib.hid (((Below.refl w.heap.size w).alloc (Nat.le_refl _) (.cells #[.int .i64 n, .int .i64 r, .int .i64 c, .bool b, .bool t] 27)).trans (hb.mono (by simp)))
    clear hb
    go_wp2
    go_ret2
    exact ⟨none, 0, rfl, New.none_ HB.out _⟩
  · have hb := tubeB_true' h
    obtain ⟨n, rfl⟩ := Int.eq_ofNat_of_zero_le (show 0 ≤ n by omega)
    obtain ⟨r, rfl⟩ := Int.eq_ofNat_of_zero_le (show 0 ≤ r by omega)
    have e1 : lOpsN n r c b t = opsN n r t := by simp [lOpsN, h]
    have e2 : lOpsZ n r c b t = opsZ n r c b t := by simp [lOpsZ, h]
    rw [e1, e2, show tubeCode n r c = 0 by simp [tubeCode, h]]
    clear e1 e2
    go_enter Try.func28, Try.ntmps28
    go_wp2_with fail
    refine (validTube_any n r c b t _).mono ?_
    rintro e w0 ⟨rfl, hb0⟩
    have hx : ∀ o, w0.cell? ⟨w.heap.size, o, none⟩ = (#[.int .i64 n, .int .i64 r, .int .i64 c, .bool b, .bool t] : Array Value)[o]? := fun o => ((bcell hb0).1 _ _ (by simp)).trans (cell_alloc_at rfl o)
    have HB := Lib.hid (((Below.refl w.heap.size w).alloc (Nat.le_refl _) (.cells #[.int .i64 n, .int .i64 r, .int .i64 c, .bool b, .bool t] 27)).trans (hb0.mono (by simp)))
    clear hb0
    go_wp2_with fail
    refine (ops_any n r c b t _ (by omega) (by omega) (by omega)).mono ?_
    rintro e w1 ⟨v, rfl, ho, hb1⟩
    obtain ⟨A, q, rfl, hn⟩ := New.of_ints (w := w) (HB.out.trans (hb1.mono HB.out.size)) (own_base ho HB.out.size)
    have HN := Lib.hid hn
    clear hn ho hb1
    go_wp2
    go_ret2
    exact ⟨A, q, rfl, HN.out⟩
end Go.Proofs.Ytjegoffdkmbibaa
