/- Walk: all operations of a tube, by the program. No condition but the bounds. -/
import Derived.Test.YtjegoffdkmbibaaTubeOps2
namespace Go.Proofs.Ytjegoffdkmbibaa
open Go.RowKit
set_option maxRecDepth 20000

/-- 'append(out, more ...)' at a step of a region that draws its order, both the call's own. -/
theorem step_app_own {P : Program} {ops : Array Oper} {o : Oper} {a : Act} {K : Act → World → Prop} {Q : Exit → Act → World → Prop} {E : Prop} (w : World) (hgd : o.guard = none) (s x : Operand) (t : TypeId)
    (ho : o.op = .call { callee := .builtin .append, args := #[s, x], argTypes := #[t, t] })
    (base : Nat) (e : TypeId) (i : TypeInfo) (z : Value) (size bytes : Nat) (ht : P.underlying t = some (.slice e)) (hi : P.info? e = some i) (hz : i.zero = some z)
    (hsize : i.size = size) (hby : i.bytes = bytes) (hzs : z.cells.size = size) (hsz : 0 < size)
    (v : Value) (n : Nat) (xs : List Value) (hs : a.eval s = v) (hown : w.ownsRow base e size v n xs)
    (base2 : Nat) (v2 : Value) (m : Nat) (news : List Value) (hx : a.eval x = v2) (hown2 : w.ownsRow base2 e size v2 m news) (h1 : ∀ u ∈ news, u.oneCell' = true)
    (h63 : n + m ≤ maxLen) (hbytes : (n + m) * bytes ≤ 140737488355328) (hbase : base ≤ w.heap.size)
    (h : ∀ v' w', w'.ownsRow base e size v' (n + m) (xs ++ news) → Below base w w' → K (a.put o.dst v') w') :
    if Region.wanted o (yielded ops a.tmps) = true then Oper.wp P o a w K Q else E := by
  have hw : Region.wanted o (yielded ops a.tmps) = true := by simp [Region.wanted, hgd]
  rw [if_pos hw]
  have hown2' := hown2
  obtain ⟨hl, ⟨rfl, rfl⟩ | ⟨g, cap, cur, rfl, hg, hh, hnc, _, hcur, hx'⟩⟩ := hown2
  · obtain rfl : news = [] := List.eq_nil_of_length_eq_zero (by simpa using hl)
    have hr := append_nil_run (P := P) w base t o.type e i size ht hi v n xs hown 0
    unfold Oper.wp execOp
    simp only [ho, resolve, invoke, builtin, Sem.run_bind, Sem.run_pure, Result.andThen_ok, List.map_toArray, List.map_cons, List.map_nil, hs, hx, hr]
    exact h _ _ (by simpa using hown) (Below.refl _ _)
  · refine wp_append_own _ s x t ho base e i z size bytes ht hi hz hsize hby hzs hsz v n xs hs hown ⟨g, 0, none⟩ m cap news hx hl (hown2'.cells rfl) h1 h63 hbytes hbase ?_
    intro v' w' h2 h3 _
    exact h v' w' h2 (Below.own (Below.refl _ _) h3 hown hbase)

theorem own_litD {base : Nat} {e : TypeId} {size : Nat} (w : World) (g : Nat) (hg : g = w.heap.size) (cs : List Value) (n : Nat) (hb : base ≤ w.heap.size) (hn : n ≤ maxLen) (hl : cs.length = n * size) :
    ((w.alloc (.cells cs.toArray e)).drew).ownsRow base e size (.slice (some ⟨g, 0, none⟩) n n) n cs := by
  subst hg
  exact own_lit w cs n hb hn hl
set_option maxHeartbeats 2000000 in
theorem ops_any (n r : Nat) (c : Int) (b t : Bool) (w : World) (h1 : 1 ≤ n) (hn : n ≤ 6) (hr : r ≤ 8) :
    Calls Try.prog 60 #[.agg #[.int .i64 n, .int .i64 r, .int .i64 c, .bool b, .bool t]] w (OwnZ w (opsN n r t) (opsZ n r c b t)) := by
  obtain ⟨i0, hi, iz, is, ib⟩ := info_parts infoOp
  have htn : topN n t ≤ 12 := by unfold topN; split <;> omega
  have hx0 := box_new w #[.int .i64 n, .int .i64 r, .int .i64 c, .bool b, .bool t] 27
  have HX0 := Lib.hid hx0
  go_enter Try.func60, Try.ntmps60
  go_wp2_with fail
  go_region_held3 (fun w' => ∀ o, w'.cell? ⟨w.heap.size, o, none⟩ = (#[.int .i64 n, .int .i64 r, .int .i64 c, .bool b, .bool t] : Array Value)[o]?) (first | exact fun o => kw2 o | exact fun o => (World.cell?_alloc_lt wa _ ⟨w.heap.size, o, none⟩ hza).trans (kw o) | exact fun o => kw o | exact fun o => (World.cell?_alloc_lt _ _ ⟨w.heap.size, o, none⟩ (by simp)).trans (HX0.out o) | go_keep)
    (first
      | (go_at_call 62; have kh := ‹∀ o : Nat, World.cell? _ ⟨w.heap.size, o, none⟩ = (#[.int .i64 n, .int .i64 r, .int .i64 c, .bool b, .bool t] : Array Value)[o]?›; refine (castOn8_any n r c b t _ h1 hn).mono ?_; rintro e wa ⟨v1, rfl, ho1, hb1⟩; have HO1 := Lib.hid ho1; have HB1 := Lib.hid hb1; have kxa := fun o => (bcell hb1).1 w.heap.size o (by first | (simp; done) | (simp; omega)); have hza : w.heap.size < wa.heap.size := blt hb1 (by first | (simp; done) | (simp; omega)); clear ho1 hb1; have kw := fun (o : Nat) => (kxa o).trans (kh o))
      | (refine step_app_own wa rfl (.tmp 7) (.tmp 9) _ rfl (w.heap.size + 1) 76 i0 _ 8 64 Try.underlying24 hi iz is ib rfl (by omega) (.slice (some ⟨w.heap.size + 1, 0, none⟩) 1 1) 1 [.int .i64 8, .int .i64 1, .int .i64 0, .int .i64 0, .int .i64 0, .int .i64 0, .int .i64 c, .int .i64 0] (by rfl) (own_below (own_litD (base := w.heap.size + 1) (e := 76) (size := 8) (w.alloc (.cells #[.int .i64 n, .int .i64 r, .int .i64 c, .bool b, .bool t] 27)) (w.heap.size + 1) (by simp) [.int .i64 8, .int .i64 1, .int .i64 0, .int .i64 0, .int .i64 0, .int .i64 0, .int .i64 c, .int .i64 0] 1 (by simp) (by unfold maxLen; omega) rfl) HB1.out) _ v1 (n + n) _ (by rfl) HO1.out (ints_one _) (by unfold maxLen; omega) (by omega) (by omega) ?_; intro v' w' hown' hb'; have HOWN := Lib.hid hown'; have HB2 : Hid (Below (w.heap.size + 1) (w.alloc (.cells #[.int .i64 n, .int .i64 r, .int .i64 c, .bool b, .bool t] 27)) w') := Lib.hid (((((Below.refl _ _).alloc (by simp) _).drew).trans (HB1.out.mono (by simp))).trans hb'); have kw2 := fun (o : Nat) => ((bcell hb').1 w.heap.size o (by omega)).trans (kw o))
      | (refine step_app_own (wa.alloc (.cells [.int .i64 8, .int .i64 1, .int .i64 0, .int .i64 0, .int .i64 0, .int .i64 0, .int .i64 c, .int .i64 0].toArray 76)) rfl (.tmp 7) (.tmp 9) _ rfl (w.heap.size + 1) 76 i0 _ 8 64 Try.underlying24 hi iz is ib rfl (by omega) (.slice (some ⟨wa.heap.size, 0, none⟩) 1 1) 1 [.int .i64 8, .int .i64 1, .int .i64 0, .int .i64 0, .int .i64 0, .int .i64 0, .int .i64 c, .int .i64 0] (by rfl) (own_lit (base := w.heap.size + 1) (e := 76) (size := 8) wa [.int .i64 8, .int .i64 1, .int .i64 0, .int .i64 0, .int .i64 0, .int .i64 0, .int .i64 c, .int .i64 0] 1 (by omega) (by unfold maxLen; omega) rfl) _ v1 (n + n) _ (by rfl) (HO1.out.alloc _) (ints_one _) (by unfold maxLen; omega) (by omega) (by simp; omega) ?_; intro v' w' hown' hb'; have HOWN := Lib.hid hown'; have HB2 : Hid (Below (w.heap.size + 1) (w.alloc (.cells #[.int .i64 n, .int .i64 r, .int .i64 c, .bool b, .bool t] 27)) w') := Lib.hid ((((Below.refl _ _).drew.trans (HB1.out.mono (by simp))).alloc (by omega) _).trans hb'); have kw2 := fun (o : Nat) => ((bcell hb').1 w.heap.size o (by omega)).trans ((World.cell?_alloc_lt wa _ ⟨w.heap.size, o, none⟩ hza).trans (kw o)))
      | fail)
  all_goals
    have HO2 := Lib.hid (show w'.ownsRow (w.heap.size + 1) 76 8 v' (1 + (n + n)) (ints (headZ n c b)) from by rw [headZ, ints_app]; exact HOWN.out)
    clear hown' hb' HOWN kw kh kxa
    rename_i hHeld
    clear hHeld
    go_wp2_with fail
    clear kw2
    go_loopw [3, 13] (fun v i wr => ∃ k : Nat, k ≤ r ∧ i = .int .i64 k ∧ wr.ownsRow (w.heap.size + 1) 76 8 v (1 + (n + n) + k * (n + n)) (ints (headZ n c b ++ roundsZ n c k)) ∧ Below (w.heap.size + 1) (w.alloc (.cells #[.int .i64 n, .int .i64 r, .int .i64 c, .bool b, .bool t] 27)) wr) (fun _ i _ => r - (intOf i).toNat)
    case atStart => exact ⟨0, Nat.zero_le _, rfl, by simpa [roundsZ] using HO2.out, HB2.out⟩
    case round =>
      obtain ⟨k, hk, rfl, hown, hb⟩ := hrel
      have hbx : ∀ o, wr.cell? ⟨w.heap.size, o, none⟩ = (#[.int .i64 n, .int .i64 r, .int .i64 c, .bool b, .bool t] : Array Value)[o]? := fun o => ((bcell hb).1 _ o (by omega)).trans (HX0.out o)
      have hs0 := hb.size
      simp only [World.size_alloc] at hs0
      have hgr : w.heap.size < wr.heap.size := by omega
      have HB := Lib.hid hb
      have HOWN := Lib.hid hown
      clear hb hown
      have hkn : k * (n + n) ≤ 8 * 12 := Nat.mul_le_mul (by omega) (by omega)
      by_cases hlt : k < r
      · go_wp2_with (first
          | (go_at_call 58; refine (round_any n r c b t _ h1 hn).mono ?_; rintro e w3 ⟨v3, rfl, ho3, hb3⟩; have HO3 := Lib.hid ho3; have HB3 := Lib.hid hb3; clear ho3 hb3)
          | (at_builtin; go_must (refine wpList_app_own w3 rfl (.tmp 15) (.tmp 17) _ rfl (w.heap.size + 1) 76 i0 _ 8 64 Try.underlying24 hi iz is ib rfl (by omega) u3 (1 + (n + n) + k * (n + n)) _ rfl (own_below HOWN.out HB3.out) _ _ (n + n) _ rfl HO3.out (ints_one _) (by unfold maxLen; omega) (by omega) (Nat.le_trans hs0 HB3.out.size) ?_); intro v' w' hown' hb'))
        go_wp2
        go_roundw
        case rel => exact ⟨k + 1, by omega, by go_num, by rw [roundsZ_next, ← List.append_assoc, ints_app (_ ++ _)]; rw [show 1 + (n + n) + (k + 1) * (n + n) = 1 + (n + n) + k * (n + n) + (n + n) by rw [Nat.add_mul]; omega]; exact hown', (HB.out.trans (HB3.out.mono hs0)).trans hb'⟩
        case measure => simp [intOf] <;> omega
      · obtain rfl : r = k := by omega
        go_wp2_with fail
        refine (top_any n r c b t _ hn).mono ?_
        rintro e w3 ⟨v3, rfl, ho3, hb3⟩
        have hbx3 : ∀ o, w3.cell? ⟨w.heap.size, o, none⟩ = (#[.int .i64 n, .int .i64 r, .int .i64 c, .bool b, .bool t] : Array Value)[o]? := fun o => ((bcell hb3).1 _ o hgr).trans (hbx o)
        have HO3 := Lib.hid ho3
        have HB3 := Lib.hid hb3
        clear ho3 hb3 hbx
        have HX3 := Lib.hid hbx3
        clear hbx3
        go_wp2_with (first
          | (at_builtin; refine wpList_app_own w3 rfl (.tmp 20) (.tmp 22) _ rfl (w.heap.size + 1) 76 i0 _ 8 64 Try.underlying24 hi iz is ib rfl (by omega) u3 (1 + (n + n) + r * (n + n)) _ rfl (own_below HOWN.out HB3.out) _ _ (topN n t) _ rfl HO3.out (ints_one _) (by unfold maxLen; omega) (by omega) (Nat.le_trans hs0 HB3.out.size) ?_; intro v4 w4 hown4 hb4; have k5 : ∀ o, w4.cell? ⟨w.heap.size, o, none⟩ = (#[.int .i64 n, .int .i64 r, .int .i64 c, .bool b, .bool t] : Array Value)[o]? := fun o => ((bcell hb4).1 _ o (by omega)).trans (HX3.out o); rw [← ints_app] at hown4; have HO4 := Lib.hid hown4; have HB4 := Lib.hid ((HB.out.trans (HB3.out.mono hs0)).trans hb4); clear hown4 hb4)
          | (at_builtin; go_must (refine wpList_app w4 rfl (.tmp 24) (.tmp 28) _ rfl (w.heap.size + 1) 76 i0 _ 8 64 Try.underlying24 hi iz is ib rfl (by omega) v4 (1 + (n + n) + r * (n + n) + topN n t) _ rfl HO4.out _ 1 1 (ints [9, 0, 0, 0, 0, 0, c, 0]) rfl rfl (ints_one _) (by unfold maxLen; omega) (by omega) (by have := HB4.out.size; simpa using this) ?_); intro v' w' hown' hb'))
        go_ret
        exact ⟨_, rfl, own_base (by rw [← ints_app] at hown'; exact hown') (by omega), ((Below.refl _ _).alloc (Nat.le_refl _) _).trans ((HB4.out.trans hb').mono (by omega))⟩
end Go.Proofs.Ytjegoffdkmbibaa
