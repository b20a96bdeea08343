/- Walks: a tube's round and its cast-on, by the program. No condition but the bounds. -/
import Derived.Test.YtjegoffdkmbibaaHalves
import Derived.Test.YtjegoffdkmbibaaConcat
import Derived.Test.YtjegoffdkmbibaaTubeTops
import Derived.Deep.RegionHeld3
namespace Go.Proofs.Ytjegoffdkmbibaa
open Go.RowKit
set_option maxRecDepth 20000

theorem own_slice {w : World} {B : Nat} {e : TypeId} {size n : Nat} {v : Value} {xs : List Value} (h : w.ownsRow B e size v n xs) : ∃ A c, v = .slice A n c := by
  rcases h.2 with ⟨rfl, rfl⟩ | ⟨g, cap, cur, rfl, _⟩
  · exact ⟨none, 0, rfl⟩
  · exact ⟨_, cap, rfl⟩
/-- The operations of a cast-on. -/
def castZ8 (n : Nat) (c : Int) (b : Bool) : List Int := if b then evenZ n c ++ oddZ n c else roundZ n c
set_option maxHeartbeats 1000000 in
theorem round_any (n : Nat) (r c : Int) (b t : Bool) (w : World) (h1 : 1 ≤ n) (hn : n ≤ 6) :
    Calls Try.prog 58 #[.agg #[.int .i64 n, .int .i64 r, .int .i64 c, .bool b, .bool t]] w (OwnZ w (n + n) (roundZ n c)) := by
  have hx0 := box_new w #[.int .i64 n, .int .i64 r, .int .i64 c, .bool b, .bool t] 27
  go_enter Try.func58, Try.ntmps58
  go_wp2_with fail
  go_region_held3 (fun w' => ∀ o, w'.cell? ⟨w.heap.size, o, none⟩ = (#[.int .i64 n, .int .i64 r, .int .i64 c, .bool b, .bool t] : Array Value)[o]?) (first | go_keep | exact fun o => kw _ o)
    (first
      | (go_at_call_of 97 (Value.int IntKind.i64 1); refine (halfFront_any n r c b t _ hn).mono ?_; rintro e wa ⟨v1, rfl, ho1, hb1⟩; obtain ⟨A1, q1, rfl⟩ := own_slice ho1; have HO1 := Lib.hid ho1; have HB1 := Lib.hid hb1; have kxa := fun o => (bcell hb1).1 w.heap.size o (by simp); have hza : w.heap.size < wa.heap.size := blt hb1 (by simp); clear ho1 hb1)
      | (go_at_call 97; refine (halfBack_any n r c b t _ hn).mono ?_; rintro e wb ⟨v2, rfl, ho2, hb2⟩; obtain ⟨A2, q2, rfl⟩ := own_slice ho2; have HO2 := Lib.hid ho2; have HB2 := Lib.hid hb2; have kxb := fun o => (bcell hb2).1 w.heap.size o (by omega); have hzb : w.heap.size < wb.heap.size := blt hb2 (by omega); have kw := fun (ob : Obj) (o : Nat) => (World.cell?_alloc_lt wb ob ⟨w.heap.size, o, none⟩ hzb).trans ((kxb o).trans ((kxa o).trans (hx0 o))); clear ho2 hb2)
      | (go_at_call 101; refine (concatOp_any wb.heap.size 2 A1 A2 n n q1 q2 _ _ _ _ _ (cell_alloc_at rfl 0) (cell_alloc_at rfl 1) ((own_below HO1.out HB2.out).alloc _) (HO2.out.alloc _) (by omega) (by omega) (by omega)).mono ?_; rintro e wc ⟨v3, rfl, ho3, hb3⟩; have HO3 := Lib.hid ho3; have HB3 := Lib.hid hb3; have kxc := fun o => (bcell hb3).1 w.heap.size o (by simp; omega); clear ho3 hb3))
  go_goals
  have a1 := ((Below.refl w.heap.size w).alloc (Nat.le_refl _) (.cells #[.int .i64 n, .int .i64 r, .int .i64 c, .bool b, .bool t] 27)).drew.trans (HB1.out.mono (by simp))
  have a2 := a1.trans (HB2.out.mono a1.size)
  have a3 := (a2.alloc a2.size _).trans (HB3.out.mono (by have := a2.size; simp; omega))
  have hsz := a2.size
  have HA3 := Lib.hid a3
  have HO4 := Lib.hid (own_base HO3.out (B' := w.heap.size) (by simp; omega))
  clear a1 a2 a3 kw kxa kxb kxc
  rename_i hHeld
  clear hHeld
  go_wp2_with fail
  go_ret
  exact ⟨_, rfl, HO4.out, HA3.out⟩

set_option maxHeartbeats 1000000 in
theorem castOnYes_any (n : Nat) (r c : Int) (t : Bool) (w : World) (h1 : 1 ≤ n) (hn : n ≤ 6) :
    Calls Try.prog 62 #[.agg #[.int .i64 n, .int .i64 r, .int .i64 c, .bool true, .bool t]] w (OwnZ w (n + n) (castZ8 n c true)) := by
  have hx0 := box_new w #[.int .i64 n, .int .i64 r, .int .i64 c, .bool true, .bool t] 27
  go_enter Try.func62, Try.ntmps62
  go_wp2_with fail
  go_region_held3 (fun w' => ∀ o, w'.cell? ⟨w.heap.size, o, none⟩ = (#[.int .i64 n, .int .i64 r, .int .i64 c, .bool true, .bool t] : Array Value)[o]?) (first | go_keep | exact fun o => kw _ o)
    (first
      | (go_at_call_of 97 (Value.int IntKind.i64 1); refine (halfEven_any n r c true t _ hn).mono ?_; rintro e wa ⟨v1, rfl, ho1, hb1⟩; obtain ⟨A1, q1, rfl⟩ := own_slice ho1; have HO1 := Lib.hid ho1; have HB1 := Lib.hid hb1; have kxa := fun o => (bcell hb1).1 w.heap.size o (by simp); have hza : w.heap.size < wa.heap.size := blt hb1 (by simp); clear ho1 hb1)
      | (go_at_call 97; refine (halfOdd_any n r c true t _ hn).mono ?_; rintro e wb ⟨v2, rfl, ho2, hb2⟩; obtain ⟨A2, q2, rfl⟩ := own_slice ho2; have HO2 := Lib.hid ho2; have HB2 := Lib.hid hb2; have kxb := fun o => (bcell hb2).1 w.heap.size o (by omega); have hzb : w.heap.size < wb.heap.size := blt hb2 (by omega); have kw := fun (ob : Obj) (o : Nat) => (World.cell?_alloc_lt wb ob ⟨w.heap.size, o, none⟩ hzb).trans ((kxb o).trans ((kxa o).trans (hx0 o))); clear ho2 hb2)
      | (go_at_call 101; refine (concatOp_any wb.heap.size 2 A1 A2 n n q1 q2 _ _ _ _ _ (cell_alloc_at rfl 0) (cell_alloc_at rfl 1) ((own_below HO1.out HB2.out).alloc _) (HO2.out.alloc _) (by omega) (by omega) (by omega)).mono ?_; rintro e wc ⟨v3, rfl, ho3, hb3⟩; have HO3 := Lib.hid ho3; have HB3 := Lib.hid hb3; have kxc := fun o => (bcell hb3).1 w.heap.size o (by simp; omega); clear ho3 hb3))
  go_goals
  have a1 := ((Below.refl w.heap.size w).alloc (Nat.le_refl _) (.cells #[.int .i64 n, .int .i64 r, .int .i64 c, .bool true, .bool t] 27)).drew.trans (HB1.out.mono (by simp))
  have a2 := a1.trans (HB2.out.mono a1.size)
  have a3 := (a2.alloc a2.size _).trans (HB3.out.mono (by have := a2.size; simp; omega))
  have hsz := a2.size
  have HA3 := Lib.hid a3
  have HO4 := Lib.hid (own_base HO3.out (B' := w.heap.size) (by simp; omega))
  clear a1 a2 a3 kw kxa kxb kxc
  rename_i hHeld
  clear hHeld
  go_wp2_with fail
  go_ret
  exact ⟨_, rfl, HO4.out, HA3.out⟩

theorem castOn8_any (n : Nat) (r c : Int) (b t : Bool) (w : World) (h1 : 1 ≤ n) (hn : n ≤ 6) :
    Calls Try.prog 62 #[.agg #[.int .i64 n, .int .i64 r, .int .i64 c, .bool b, .bool t]] w (OwnZ w (n + n) (castZ8 n c b)) := by
  cases b
  · go_enter Try.func62, Try.ntmps62
    go_wp2_with fail
    refine (round_any n r c false t _ h1 hn).mono ?_
    rintro e w1 ⟨v1, rfl, ho1, hb1⟩
    have HO := Lib.hid (own_base ho1 (B' := w.heap.size) (by simp))
    have HB := Lib.hid (((Below.refl w.heap.size w).alloc (Nat.le_refl _) (.cells #[.int .i64 n, .int .i64 r, .int .i64 c, .bool false, .bool t] 27)).trans (hb1.mono (by simp)))
    clear ho1 hb1
    go_wp2_with fail
    go_ret
    exact ⟨_, rfl, HO.out, HB.out⟩
  · exact castOnYes_any n r c t w h1 hn
end Go.Proofs.Ytjegoffdkmbibaa
