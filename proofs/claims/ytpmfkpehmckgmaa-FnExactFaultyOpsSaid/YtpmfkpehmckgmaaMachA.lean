/- Walks: the parts of a machine that the reference reads: a needle's place, its bed, its loops; one list stored. No condition but the machine's bounds. Walks: a list of the reference's own; a number put into one. No condition but the bound. Walks: a carrier moves over a needle, by the reference. No condition but the machine's bounds. -/
import Derived.Test.YtpmfkpehmckgmaaMachMem
import Derived.Test.YtpmfkpehmckgmaaBounds
import Derived.Deep.QuietTactic
import Derived.BigQuiet
import Derived.RegionTactic
import Derived.Deep.RegionHeld3
import Derived.Deep.RegionWith
import Derived.IntWalk
import Derived.Test.YtpmfkpehmckgmaaAppX
import Derived.Deep.RegionLaw
namespace Go.Proofs.Ytpmfkpehmckgmaa
open Go.RowKit
set_option maxRecDepth 20000

/-- An operation's cells. -/
structure OpCe (b o : Nat) (k d fb fa tb ta c r : Int) (w : World) : Prop where
  c0 : w.cell? ⟨b, o, none⟩ = some (.int .i64 k)
  c1 : w.cell? ⟨b, o + 1, none⟩ = some (.int .i64 d)
  c2 : w.cell? ⟨b, o + 2, none⟩ = some (.int .i64 fb)
  c3 : w.cell? ⟨b, o + 2 + 1, none⟩ = some (.int .i64 fa)
  c4 : w.cell? ⟨b, o + 4, none⟩ = some (.int .i64 tb)
  c5 : w.cell? ⟨b, o + 4 + 1, none⟩ = some (.int .i64 ta)
  c6 : w.cell? ⟨b, o + 6, none⟩ = some (.int .i64 c)
  c7 : w.cell? ⟨b, o + 7, none⟩ = some (.int .i64 r)
theorem opCe_loc (b o : Nat) (k d fb fa tb ta c r : Int) : Loc (OpCe b o k d fb fa tb ta c r) (fun q => q = b) := by
  refine ⟨fun w w' h hF => ?_, fun w q h hq => by subst hq; exact World.block_lt_of_cell? w _ h.c0⟩
  have hb : ∀ i, w'.cell? ⟨b, i, none⟩ = w.cell? ⟨b, i, none⟩ := fun i => World.cell?_of_block (w := w) (a := ⟨b, i, none⟩) (hF b rfl)
  exact ⟨(hb _).trans h.c0, (hb _).trans h.c1, (hb _).trans h.c2, (hb _).trans h.c3, (hb _).trans h.c4, (hb _).trans h.c5, (hb _).trans h.c6, (hb _).trans h.c7⟩
/-- The place of a needle. -/
def placeI (b a r : Int) : Int := if b = 2 then a + r else a
theorem placeI_bd {b a r : Int} (h0 : 0 ≤ a) (h1 : a ≤ 23) (h2 : -3 ≤ r) (h3 : r ≤ 3) : -3 ≤ placeI b a r ∧ placeI b a r ≤ 26 := by unfold placeI; split <;> omega
theorem l07Place_any (b a r : Int) (w : World) (h0 : 0 ≤ a) (h1 : a ≤ 23) (h2 : -3 ≤ r) (h3 : r ≤ 3) : Calls Try.prog 83 #[.agg #[.int .i64 b, .int .i64 a], .int .i64 r] w fun e w' => e = .returned (.int .i64 (placeI b a r)) ∧ Below w.heap.size w w' := by
  by_cases hb : b = 2
  · subst hb
    go_enter Try.func83, Try.ntmps83
    go_wp2
    go_ret
    exact ⟨by simp [placeI], by (repeat' first | with_reducible exact Below.refl _ _ | with_reducible refine Below.alloc ?_ ?_ _ | with_reducible refine Below.setCell ?_ ?_ _ | with_reducible refine Below.drew ?_ | with_reducible refine Below.drewN' ?_ _ | with_reducible (refine Below.trans ?_ (Below.mono (by assumption) ?_)) | exact Nat.le_refl _ | (simp; done) | (simp; omega) | omega)⟩
  · have hb' : (b == 2) = false := by simpa using hb
    go_enter Try.func83, Try.ntmps83
    go_wp2
    go_ret
    exact ⟨by simp [placeI, hb], by (repeat' first | with_reducible exact Below.refl _ _ | with_reducible refine Below.alloc ?_ ?_ _ | with_reducible refine Below.setCell ?_ ?_ _ | with_reducible refine Below.drew ?_ | with_reducible refine Below.drewN' ?_ _ | with_reducible (refine Below.trans ?_ (Below.mono (by assumption) ?_)) | exact Nat.le_refl _ | (simp; done) | (simp; omega) | omega)⟩
/-- A bed as a slice. -/
def bedV (a : MAdr) (s : Mst) (b : Int) : Value := if b = 1 then .slice (some ⟨a.gf, 0, none⟩) s.W a.cf else .slice (some ⟨a.gk, 0, none⟩) s.W a.ck
section
variable {tg : Nat → Nat} {a : MAdr} {s : Mst}
theorem l07Bed_any (b : Int) (w : World) (H : Mem tg a s w) : Calls Try.prog 108 #[.pointer (some ⟨a.g, 0, none⟩), .int .i64 b] w fun e w' => e = .returned (bedV a s b) ∧ w = w' := by
  have m2 : w.cell? ⟨a.g, 2, none⟩ = some (.slice (some ⟨a.gf, 0, none⟩) s.W a.cf) := H.m.cell 2
  have m3 : w.cell? ⟨a.g, 3, none⟩ = some (.slice (some ⟨a.gk, 0, none⟩) s.W a.ck) := H.m.cell 3
  clear H
  by_cases hb : b = 1
  · subst hb
    go_enter Try.func108, Try.ntmps108
    go_wp2
    go_ret
    exact ⟨rfl, rfl⟩
  · have hb' : (b == 1) = false := by simpa using hb
    have HB := Lib.hid (show bedV a s b = .slice (some ⟨a.gk, 0, none⟩) s.W a.ck from if_neg hb)
    go_enter Try.func108, Try.ntmps108
    go_wp2
    go_ret
    exact ⟨by rw [HB.out]; rfl, rfl⟩
/-- The list on a needle, and its length. -/
def lstV (a : MAdr) (b x : Int) : Value := if b = 1 then a.F x.toNat else a.K x.toNat
def lstN (s : Mst) (b x : Int) : Nat := if b = 1 then s.f x.toNat else s.k x.toNat
theorem l07On_any (b x : Int) (w : World) (H : Mem tg a s w) (hx : 0 ≤ x) (hx1 : x < s.W) : Calls Try.prog 87 #[.pointer (some ⟨a.g, 0, none⟩), .agg #[.int .i64 b, .int .i64 x]] w fun e w' => e = .returned (lstV a b x) ∧ Below w.heap.size w w' := by
  have hg : Below w.heap.size w (w.alloc (.cells #[.int .i64 b, .int .i64 x] 37)) := (Below.refl _ _).alloc (Nat.le_refl _) _
  have HN := Lib.hid (H.below hg)
  have hq : ∀ q, Calls Try.prog 108 #[.pointer (some ⟨a.g, 0, none⟩), .int .i64 b] ((w.alloc (.cells #[.int .i64 b, .int .i64 x] 37)).drewN q) fun e w' => e = .returned (bedV a s b) ∧ w' = (w.alloc (.cells #[.int .i64 b, .int .i64 x] 37)).drewN q := fun q => (l07Bed_any b _ (HN.out.drewN q)).mono fun _ _ h => ⟨h.1, h.2.symm⟩
  by_cases hb : b = 1
  · subst hb
    have hc := HN.out.f x.toNat (by omega)
    rw [Nat.zero_add] at hc
    have e1 : lstV a 1 x = a.F x.toNat := if_pos rfl
    have e2 : bedV a s 1 = .slice (some ⟨a.gf, 0, none⟩) s.W a.cf := if_pos rfl
    have E1 := Lib.hid e1
    simp only [e2] at hq
    obtain ⟨V, hV⟩ : ∃ V, V = a.F x.toNat := ⟨_, rfl⟩
    rw [← hV] at hc
    have HV := Lib.hid hV
    clear e1 e2 hV
    go_enter Try.func87, Try.ntmps87
    go_wp2_with fail
    go_quiet ((go_at_call 108; exact Calls.quiet_of_same (hq _)))
    go_wp2
    go_ret
    exact ⟨by rw [E1.out, ← HV.out]; rfl, by (repeat' first | with_reducible exact Below.refl _ _ | with_reducible refine Below.alloc ?_ ?_ _ | with_reducible refine Below.setCell ?_ ?_ _ | with_reducible refine Below.drew ?_ | with_reducible refine Below.drewN' ?_ _ | with_reducible (refine Below.trans ?_ (Below.mono (by assumption) ?_)) | exact Nat.le_refl _ | (simp; done) | (simp; omega) | omega)⟩
  · have hb' : (b == 1) = false := by simpa using hb
    have hc := HN.out.k x.toNat (by omega)
    rw [Nat.zero_add] at hc
    have e1 : lstV a b x = a.K x.toNat := if_neg hb
    have e2 : bedV a s b = .slice (some ⟨a.gk, 0, none⟩) s.W a.ck := if_neg hb
    have E1 := Lib.hid e1
    simp only [e2] at hq
    obtain ⟨V, hV⟩ : ∃ V, V = a.K x.toNat := ⟨_, rfl⟩
    rw [← hV] at hc
    have HV := Lib.hid hV
    clear e1 e2 hV
    go_enter Try.func87, Try.ntmps87
    go_wp2_with fail
    go_quiet ((go_at_call 108; exact Calls.quiet_of_same (hq _)))
    go_wp2
    go_ret
    exact ⟨by rw [E1.out, ← HV.out]; rfl, by (repeat' first | with_reducible exact Below.refl _ _ | with_reducible refine Below.alloc ?_ ?_ _ | with_reducible refine Below.setCell ?_ ?_ _ | with_reducible refine Below.drew ?_ | with_reducible refine Below.drewN' ?_ _ | with_reducible (refine Below.trans ?_ (Below.mono (by assumption) ?_)) | exact Nat.le_refl _ | (simp; done) | (simp; omega) | omega)⟩
/-- A bed's block. -/
def bedG (a : MAdr) (b : Int) : Nat := if b = 1 then a.gf else a.gk
/-- A list is stored on a needle. -/
def SetP (a : MAdr) (b x : Int) (v : Value) (w : World) (e : Ending) (w' : World) : Prop := e = .returned (.tuple #[]) ∧ ∃ w1, Below w.heap.size w w1 ∧ w' = w1.setCell ⟨bedG a b, x.toNat, none⟩ v
theorem l07Set_any (b x : Int) (v : Value) (w : World) (H : Mem tg a s w) (hx : 0 ≤ x) (hx1 : x < s.W) (hv : ∃ A n c, v = .slice A n c) : Calls Try.prog 89 #[.pointer (some ⟨a.g, 0, none⟩), .agg #[.int .i64 b, .int .i64 x], v] w (SetP a b x v w) := by
  obtain ⟨Av, nv, cv, rfl⟩ := hv
  have hg : Below w.heap.size w (w.alloc (.cells #[.int .i64 b, .int .i64 x] 37)) := (Below.refl _ _).alloc (Nat.le_refl _) _
  have HN := Lib.hid (H.below hg)
  by_cases hb : b = 1
  · subst hb
    have hc := HN.out.f x.toNat (by omega)
    obtain ⟨_, hw⟩ := HN.out.fw x.toNat (by omega)
    rw [Nat.zero_add] at hc hw
    have e2 : bedV a s 1 = .slice (some ⟨a.gf, 0, none⟩) s.W a.cf := if_pos rfl
    have E2 := Lib.hid e2
    have E3 := Lib.hid (show bedG a 1 = a.gf from if_pos rfl)
    obtain ⟨V, hV⟩ : ∃ V, V = a.F x.toNat := ⟨_, rfl⟩
    rw [← hV] at hc
    clear e2 hV
    go_enter Try.func89, Try.ntmps89
    go_wp2_with fail
    refine (l07Bed_any 1 _ HN.out).mono ?_
    rintro e w' ⟨rfl, rfl⟩
    rw [E2.out]
    go_wp2
    go_end0
    exact ⟨rfl, _, (Below.refl _ _).alloc (Nat.le_refl _) _, by rw [E3.out]⟩
  · have hb' : (b == 1) = false := by simpa using hb
    have hc := HN.out.k x.toNat (by omega)
    obtain ⟨_, hw⟩ := HN.out.kw x.toNat (by omega)
    rw [Nat.zero_add] at hc hw
    have e2 : bedV a s b = .slice (some ⟨a.gk, 0, none⟩) s.W a.ck := if_neg hb
    have E2 := Lib.hid e2
    have E3 := Lib.hid (show bedG a b = a.gk from if_neg hb)
    obtain ⟨V, hV⟩ : ∃ V, V = a.K x.toNat := ⟨_, rfl⟩
    rw [← hV] at hc
    clear e2 hV
    go_enter Try.func89, Try.ntmps89
    go_wp2_with fail
    refine (l07Bed_any b _ HN.out).mono ?_
    rintro e w' ⟨rfl, rfl⟩
    rw [E2.out]
    go_wp2
    go_end0
    exact ⟨rfl, _, (Below.refl _ _).alloc (Nat.le_refl _) _, by rw [E3.out]⟩
end
end Go.Proofs.Ytpmfkpehmckgmaa

namespace Go.Proofs.Ytpmfkpehmckgmaa
open Go.RowKit
set_option maxRecDepth 20000

theorem infoN : (Try.prog.info? 2).map (fun i => (i.zero, i.size, i.bytes)) = some (some (.int .i64 0), 1, 8) := by kernel_rfl
/-- A new list of length n. -/
def NewL (w : World) (n : Nat) (e : Ending) (w' : World) : Prop := ∃ v, e = .returned v ∧ LOwn w' v n ∧ (∀ b, v.ownBlock = some b → w.heap.size ≤ b) ∧ Below w.heap.size w w'
theorem LOwn.form {w : World} {v : Value} {n : Nat} (h : LOwn w v n) : ∃ A c, v = .slice A n c := by
  obtain ⟨xs, hx⟩ := h
  exact own_form hx
/-- Its cells. -/
theorem LOwn.rd {w : World} {v : Value} {n : Nat} (h : LOwn w v n) : ∃ A c, ∃ xs : List Int, v = .slice A n c ∧ Rd w A n (fun j => .int .i64 (xs.getD j 0)) := by
  obtain ⟨xs, hx⟩ := h
  obtain ⟨A, c, rfl⟩ := own_form hx
  refine ⟨A, c, xs, rfl, fun hn => ?_⟩
  have hl : xs.length = n := by have := hx.1; simpa [ints] using this
  have hx' := hx
  rcases hx'.2 with ⟨e, h0⟩ | ⟨g, cap, cur, e, _, hh, _⟩
  · subst h0
    omega
  · injection e with e1 e2 e3
    subst e1 e3
    refine ⟨g, 0, rfl, (Array.getElem?_eq_some_iff.1 hh).1, fun j hj => ?_⟩
    rw [Nat.zero_add, hx.cellAt j (by omega)]
    simp [ints, List.getD, List.getElem?_eq_getElem (show j < xs.length by omega)]
theorem own_low {w : World} {B : Nat} {e : TypeId} {size n : Nat} {v : Value} {xs : List Value} (ho : w.ownsRow B e size v n xs) : (∀ b, v.ownBlock = some b → B ≤ b) := fun b hb => (ho.lt b hb).1
theorem NewL.of {w w' : World} {v : Value} {n : Nat} {xs : List Int} (ho : w'.ownsRow w.heap.size 2 1 v n (ints xs)) (hb : Below w.heap.size w w') : NewL w n (.returned v) w' :=
  ⟨v, rfl, ⟨xs, own_base ho (Nat.zero_le _)⟩, own_low ho, hb⟩
theorem ints_range (z : List Int) (n : Nat) : ((List.range n).map fun j => Value.int .i64 (z.getD j 0)) = ints ((List.range n).map fun j => z.getD j 0) := by
  simp [ints]
set_option maxHeartbeats 400000 in
theorem l00Own_any (v : Value) (n : Nat) (w : World) (hv : LOwn w v n) (hn : n ≤ 1048576) : Calls Try.prog 100 #[v] w (NewL w n) := by
  obtain ⟨i0, hi, iz, is, ib⟩ := info_parts infoN
  obtain ⟨A, c, xs, rfl, hr⟩ := hv.rd
  have hb0 : Below w.heap.size w (w.alloc (.cells #[] 2)) := (Below.refl _ _).alloc (Nat.le_refl _) _
  have HR := Lib.hid (hr.below hb0)
  have HO := Lib.hid (World.ownsRow_made (e := 2) (size := 1) w #[] 0 (Nat.le_refl _) (by unfold maxLen; omega) rfl)
  have HB := Lib.hid hb0
  clear hv hr hb0
  go_enter Try.func100, Try.ntmps100
  go_wp2_with (at_builtin; go_must (refine wpList_appR (w.alloc (.cells #[] 2)) rfl (.tmp 3) (.tmp 4) _ rfl w.heap.size 2 i0 _ 1 8 Try.underlying41 hi iz is ib rfl (by omega) _ 0 [] rfl HO.out A n c (fun j => .int .i64 (xs.getD j 0)) rfl (by rw [Nat.mul_one]; exact HR.out) (fun j => rfl) (by unfold maxLen; omega) (by omega) (by simp) ?_); intro v' w' hown' hfr; have HOWN' := Lib.hid hown'; have HFR := Lib.hid hfr; clear hown' hfr)
  go_ret
  have ho := HOWN'.out
  rw [Nat.zero_add, List.nil_append, Nat.mul_one, ints_range] at ho
  exact NewL.of ho (HB.out.trans (HFR.out.own HO.out (by simp)))
/-- A new list of length n at most. -/
def NewLe (w : World) (n : Nat) (e : Ending) (w' : World) : Prop := ∃ q, q ≤ n ∧ NewL w q e w'
set_option maxHeartbeats 1000000 in
theorem l00Put_any (v : Value) (n : Nat) (y : Int) (w : World) (hv : LOwn w v n) (hn : n ≤ 1048576) : Calls Try.prog 88 #[v, .int .i64 y] w (NewLe w (n + 1)) := by
  obtain ⟨i0, hi, iz, is, ib⟩ := info_parts infoN
  obtain ⟨A, c, xs, rfl, hr⟩ := hv.rd
  have HR := Lib.hid hr
  clear hv hr
  go_enter Try.func88, Try.ntmps88
  go_wp2_with fail
  go_loopw [5, 6, 7] (fun v dv iv wr => ∃ (j q : Nat) (dn : Bool) (zs : List Int), j ≤ n ∧ iv = .int .i64 j ∧ dv = .bool dn ∧ q ≤ j + (if dn then 1 else 0) ∧ wr.ownsRow w.heap.size 2 1 v q (ints zs) ∧ Below w.heap.size w wr) (fun _ _ iv _ => n - (intOf iv).toNat)
  case atStart => exact ⟨0, 0, false, [], Nat.zero_le _, rfl, rfl, by simp, World.ownsRow_made w #[] 0 (Nat.le_refl _) (by unfold maxLen; omega) rfl, by (repeat' first | with_reducible exact Below.refl _ _ | with_reducible refine Below.alloc ?_ ?_ _ | with_reducible refine Below.setCell ?_ ?_ _ | with_reducible refine Below.drew ?_ | with_reducible refine Below.drewN' ?_ _ | with_reducible (refine Below.trans ?_ (Below.mono (by assumption) ?_)) | exact Nat.le_refl _ | (simp; done) | (simp; omega) | omega)⟩
  case round =>
    obtain ⟨j, q, dn, zs, hj, rfl, rfl, hq, hown, hb⟩ := hrel
    have HOWN := Lib.hid hown
    have HB := Lib.hid hb
    have hq1 : q ≤ j + 1 := by split at hq <;> omega
    have HQ := Lib.hid hq
    clear hown hb hq
    by_cases hlt : j < n
    · obtain ⟨g, o, rfl, hg, hra⟩ := HR.out (by omega)
      have hcw := ((bcell HB.out).1 _ _ hg).trans (hra j hlt)
      clear hra
      obtain ⟨x, hx⟩ : ∃ x, x = xs.getD j 0 := ⟨_, rfl⟩
      simp only [← hx] at hcw
      clear hx
      cases dn
      · have hq0 : q ≤ j := by have := HQ.out; simpa using this
        by_cases hge : y ≤ x
        · by_cases hgt : y < x
          · go_wp2_with (first
              | (at_builtin; (refine wpList_app _ rfl (.tmp 31) (.tmp 33) _ rfl w.heap.size 2 i0 _ 1 8 Try.underlying41 hi iz is ib rfl (by omega) u5 q (ints zs) rfl HOWN.out _ 1 1 [.int .i64 y] rfl rfl (by simp [Value.oneCell']) (by unfold maxLen; omega) (by omega) HB.out.size ?_); intro v1 w1 hown1 hb1; have HOWN1 := Lib.hid hown1; have HB1 := Lib.hid (HB.out.trans hb1); have hcw1 := ((bcell hb1).1 g (o + j) hg).trans hcw; clear hown1 hb1)
              | (at_builtin; (refine wpList_app _ rfl (.tmp 35) (.tmp 40) _ rfl w.heap.size 2 i0 _ 1 8 Try.underlying41 hi iz is ib rfl (by omega) v1 (q + 1) (ints zs ++ [.int .i64 y]) rfl HOWN1.out _ 1 1 [.int .i64 x] rfl rfl (by simp [Value.oneCell']) (by unfold maxLen; omega) (by omega) HB1.out.size ?_); intro v2 w2 hown2 hb2; have HOWN2 := Lib.hid hown2; have HB2 := Lib.hid (HB1.out.trans hb2); clear hown2 hb2))
            go_roundw
            case rel => exact ⟨j + 1, q + 1 + 1, true, zs ++ [y] ++ [x], by omega, by go_num, rfl, by simp; omega, by rw [ints_app, ints_app]; exact HOWN2.out, HB2.out⟩
            case measure => simp [intOf] <;> omega
          · go_wp2_with (at_builtin; go_must (refine wpList_app _ rfl (.tmp 35) (.tmp 40) _ rfl w.heap.size 2 i0 _ 1 8 Try.underlying41 hi iz is ib rfl (by omega) u5 q (ints zs) rfl HOWN.out _ 1 1 [.int .i64 x] rfl rfl (by simp [Value.oneCell']) (by unfold maxLen; omega) (by omega) HB.out.size ?_); intro v2 w2 hown2 hb2; have HOWN2 := Lib.hid hown2; have HB2 := Lib.hid (HB.out.trans hb2); clear hown2 hb2)
            go_roundw
            case rel => exact ⟨j + 1, q + 1, true, zs ++ [x], by omega, by go_num, rfl, by simp; omega, by rw [ints_app]; exact HOWN2.out, HB2.out⟩
            case measure => simp [intOf] <;> omega
        · go_wp2_with (at_builtin; go_must (refine wpList_app _ rfl (.tmp 35) (.tmp 40) _ rfl w.heap.size 2 i0 _ 1 8 Try.underlying41 hi iz is ib rfl (by omega) u5 q (ints zs) rfl HOWN.out _ 1 1 [.int .i64 x] rfl rfl (by simp [Value.oneCell']) (by unfold maxLen; omega) (by omega) HB.out.size ?_); intro v2 w2 hown2 hb2; have HOWN2 := Lib.hid hown2; have HB2 := Lib.hid (HB.out.trans hb2); clear hown2 hb2)
          go_roundw
          case rel => exact ⟨j + 1, q + 1, false, zs ++ [x], by omega, by go_num, rfl, by simp; omega, by rw [ints_app]; exact HOWN2.out, HB2.out⟩
          case measure => simp [intOf] <;> omega
      · go_wp2_with (at_builtin; go_must (refine wpList_app _ rfl (.tmp 35) (.tmp 40) _ rfl w.heap.size 2 i0 _ 1 8 Try.underlying41 hi iz is ib rfl (by omega) u5 q (ints zs) rfl HOWN.out _ 1 1 [.int .i64 x] rfl rfl (by simp [Value.oneCell']) (by unfold maxLen; omega) (by omega) HB.out.size ?_); intro v2 w2 hown2 hb2; have HOWN2 := Lib.hid hown2; have HB2 := Lib.hid (HB.out.trans hb2); clear hown2 hb2)
        go_roundw
        case rel => exact ⟨j + 1, q + 1, true, zs ++ [x], by omega, by go_num, rfl, by simp; omega, by rw [ints_app]; exact HOWN2.out, HB2.out⟩
        case measure => simp [intOf] <;> omega
    · obtain rfl : n = j := by omega
      cases dn
      · go_wp2_with (at_builtin; go_must (refine wpList_app _ rfl (.tmp 44) (.tmp 46) _ rfl w.heap.size 2 i0 _ 1 8 Try.underlying41 hi iz is ib rfl (by omega) u5 q (ints zs) rfl HOWN.out _ 1 1 [.int .i64 y] rfl rfl (by simp [Value.oneCell']) (by unfold maxLen; omega) (by omega) HB.out.size ?_); intro v2 w2 hown2 hb2; have HOWN2 := Lib.hid hown2; have HB2 := Lib.hid (HB.out.trans hb2); clear hown2 hb2)
        go_ret
        have hq0 : q ≤ n := by have := HQ.out; simpa using this
        exact ⟨q + 1, by omega, NewL.of (xs := zs ++ [y]) (by rw [ints_app]; exact HOWN2.out) HB2.out⟩
      · go_wp2
        go_ret
        exact ⟨q, hq1, NewL.of HOWN.out HB.out⟩
end Go.Proofs.Ytpmfkpehmckgmaa

namespace Go.Proofs.Ytpmfkpehmckgmaa
open Go.RowKit
set_option maxRecDepth 20000

/-- What a step on a machine leaves: its answer; only the machine's blocks and new ones were written; if it went well, the machine is s'. -/
def StepP (w : World) (tg : Nat → Nat) (g : Nat) (ok : Bool) (s' : Mst) (v : Value) (e : Ending) (w' : World) : Prop := e = .returned v ∧ Fr w w' (OwnB tg) ∧ (ok = true → Moved w tg g s' w')
/-- The carrier is in, on the right side of a place. -/
def carryB (s : Mst) (d x : Int) (j : Nat) : Bool := s.cin j && !(decide (d = 1) && decide (x < s.cat j)) && !(decide (d = -1) && decide (s.cat j < x + 1))
def carrySt (s : Mst) (d x : Int) (j : Nat) : Mst := { s with cat := fun q => if q = j then (if d = 1 then x + 1 else x) else s.cat q }
section
variable {tg : Nat → Nat} {a : MAdr} {s : Mst} {D : Nat} {w : World}
theorem Mem.car (H : Mem tg a s w) {j : Nat} (hj : j < 4) : w.cell? ⟨a.gc, j * 2, none⟩ = some (.bool (s.cin j)) ∧ w.cell? ⟨a.gc, j * 2 + 1, none⟩ = some (.int .i64 (s.cat j)) ∧ w.frozen? ⟨a.gc, j * 2, none⟩ = false ∧ w.frozen? ⟨a.gc, j * 2 + 1, none⟩ = false := by
  have h0 := H.c (j * 2) (by omega)
  have h1 := H.c (j * 2 + 1) (by omega)
  have f0 := (H.cw (j * 2) (by omega)).2
  have f1 := (H.cw (j * 2 + 1) (by omega)).2
  rw [Nat.zero_add] at h0 h1 f0 f1
  have e0 : carV s (j * 2) = .bool (s.cin j) := by unfold carV; rw [if_pos (by omega), show j * 2 / 2 = j by omega]
  have e1 : carV s (j * 2 + 1) = .int .i64 (s.cat j) := by unfold carV; rw [if_neg (by omega), show (j * 2 + 1) / 2 = j by omega]
  exact ⟨h0.trans (by rw [e0]), h1.trans (by rw [e1]), f0, f1⟩
set_option maxHeartbeats 1000000 in
theorem l07Carry_any (bo o : Nat) (k d fb fa tb ta r : Int) (j : Nat) (H : Mem tg a s w) (hs : MOk s D) (ho : OpCe bo o k d fb fa tb ta ((j : Int) + 1) r w) (hbo : tg bo = 0) (hj : j < 4) (hd : d = 1 ∨ d = -1) (ha0 : 0 ≤ fa) (ha1 : fa ≤ 23) :
    Calls Try.prog 85 #[.pointer (some ⟨a.g, 0, none⟩), .pointer (some ⟨bo, o, none⟩)] w (StepP w tg a.g (carryB s d (placeI fb fa s.rk) j) (carrySt s d (placeI fb fa s.rk) j) (.bool (carryB s d (placeI fb fa s.rk) j))) := by
  obtain ⟨x, hx⟩ : ∃ x, x = placeI fb fa s.rk := ⟨_, rfl⟩
  have hxb := placeI_bd (b := fb) ha0 ha1 hs.r1 hs.r2
  rw [← hx] at hxb ⊢
  have HX0 := Lib.hid hx
  have HH := Lib.hid H
  have m1 : w.cell? ⟨a.g, 1, none⟩ = some (.int .i64 s.rk) := H.m.cell 1
  have m4 : w.cell? ⟨a.g, 4, none⟩ = some (.slice (some ⟨a.gc, 0, none⟩) 4 a.cc) := H.m.cell 4
  obtain ⟨k0, k1, f0, f1⟩ := H.car hj
  have o1 := ho.c1
  have o2 := ho.c2
  have o3 := ho.c3
  have o6 := ho.c6
  have hr1 := hs.r1
  have hr2 := hs.r2
  have hcb := hs.ca j hj
  clear H ho hx
  go_enter Try.func85, Try.ntmps85
  go_wp2_with fail
  go_region
  have hgo := World.block_lt_of_cell? w _ o2
  have hgm := World.block_lt_of_cell? w _ m1
  have HGO := Lib.hid hgo
  have HGM := Lib.hid hgm
  have O2 := Lib.hid o2
  have O3 := Lib.hid o3
  have M1 := Lib.hid m1
  go_wp2_with fail
  go_region_held3 (fun w' => w'.cell? ⟨bo, o + 2, none⟩ = some (.int .i64 fb) ∧ w'.cell? ⟨bo, o + 2 + 1, none⟩ = some (.int .i64 fa) ∧ w'.cell? ⟨a.g, 1, none⟩ = some (.int .i64 s.rk)) (go_keep)
    ((go_at_call 83; refine (l07Place_any fb fa s.rk _ ha0 ha1 hr1 hr2).mono ?_; rintro e w1 ⟨he, hb1⟩; obtain rfl : e = .returned (.int .i64 x) := he.trans (by rw [HX0.out]); have HB1 : Hid (Below w.heap.size w w1) := Lib.hid (((Below.refl w.heap.size w).drew.drew).trans hb1); have kx2 := ((bcell HB1.out).1 bo (o + 2) HGO.out).trans O2.out; have kx3 := ((bcell HB1.out).1 bo (o + 2 + 1) HGO.out).trans O3.out; have km1 := ((bcell HB1.out).1 a.g 1 HGM.out).trans M1.out; clear hb1))
  rename_i hHeld
  clear hHeld
  have ko1 := ((bcell HB1.out).1 bo (o + 1) HGO.out).trans o1
  obtain ⟨kc0, kc1, kf0, kf1⟩ := (HH.out.below HB1.out).car hj
  clear o1 o2 o3 o6 m1 m4 k0 k1 f0 f1 kx2 kx3 km1
  have HHX := Lib.hid (HH.out.below HB1.out)
  have HNO := Lib.hid (show ∀ w', Fr w w' (OwnB tg) → carryB s d x j = false → StepP w tg a.g (carryB s d x j) (carrySt s d x j) (.bool (carryB s d x j)) (.returned (.bool false)) w' from fun w' hf hb => ⟨by rw [hb], hf, fun h => by rw [hb] at h; cases h⟩)
  have HFR := Lib.hid (Fr.of_below HB1.out (OwnB tg))
  cases hci : s.cin j
  · have HX := Lib.hid (show carryB s d x j = false by simp [carryB, hci])
    rw [hci] at kc0
    clear hci
    go_wp2_with fail
    go_ret
    exact HNO.out _ HFR.out HX.out
  · rw [hci] at kc0
    rcases hd with rfl | rfl
    · by_cases hlt : x < s.cat j
      · have HX := Lib.hid (show carryB s 1 x j = false by simp [carryB, hlt])
        clear hci
        go_wp2_with fail
        go_ret
        exact HNO.out _ HFR.out HX.out
      · have HX := Lib.hid (show carryB s 1 x j = true by simp [carryB, hlt, hci])
        have HM := Lib.hid ((HHX.out.setAt hj x).setAt hj (x + 1))
        have HE := Lib.hid (show ({ s with cat := fun q => if q = j then x + 1 else (if q = j then x else s.cat q) } : Mst) = carrySt s 1 x j by
          unfold carrySt
          congr 1
          funext q
          by_cases h : q = j
          · rw [if_pos h, if_pos h, if_pos rfl]
          · rw [if_neg h, if_neg h, if_neg h])
        have HO1 := Lib.hid (show OwnB tg a.gc from by unfold OwnB; rw [HH.out.tc]; omega)
        have ko1' := (World.cell?_setCell_other w1 ⟨a.gc, j * 2 + 1, none⟩ ⟨bo, o + 1, none⟩ (.int .i64 x) (by intro e; injection e with e1 e2; have := HH.out.tc; rw [e1, hbo] at this; omega)).trans ko1
        clear hci
        go_wp2_with fail
        go_ret
        refine ⟨by rw [HX.out]; rfl, (HFR.out.set HO1.out _).set HO1.out _, fun _ => ⟨tg, a, rfl, ?_, (HFR.out.set HO1.out _).set HO1.out _, fun _ h => .inl h⟩⟩
        rw [← HE.out]
        exact HM.out
    · by_cases hlt : s.cat j < x + 1
      · have HX := Lib.hid (show carryB s (-1) x j = false by simp [carryB, hlt])
        clear hci
        go_wp2_with fail
        go_ret
        exact HNO.out _ HFR.out HX.out
      · have HX := Lib.hid (show carryB s (-1) x j = true by simp [carryB, hlt, hci])
        have HM := Lib.hid (HHX.out.setAt hj x)
        have HE := Lib.hid (show ({ s with cat := fun q => if q = j then x else s.cat q } : Mst) = carrySt s (-1) x j by
          unfold carrySt
          congr 1)
        have HO1 := Lib.hid (show OwnB tg a.gc from by unfold OwnB; rw [HH.out.tc]; omega)
        have ko1' := (World.cell?_setCell_other w1 ⟨a.gc, j * 2 + 1, none⟩ ⟨bo, o + 1, none⟩ (.int .i64 x) (by intro e; injection e with e1 e2; have := HH.out.tc; rw [e1, hbo] at this; omega)).trans ko1
        clear hci
        go_wp2_with fail
        go_ret
        refine ⟨by rw [HX.out]; rfl, HFR.out.set HO1.out _, fun _ => ⟨tg, a, rfl, ?_, HFR.out.set HO1.out _, fun _ h => .inl h⟩⟩
        rw [← HE.out]
        exact HM.out
end
end Go.Proofs.Ytpmfkpehmckgmaa
