/- Plain lemmas for the rows: slices of rows and of operations, states, as arguments. -/
import Derived.Test.YtfncdogbpmiomaaRowWords
import Derived.Test.YtfncdogbpmiomaaRowsObj
namespace Go.Proofs.Ytfncdogbpmiomaa
open Go.RowKit Go.WideShapes Go.ChangeShapes Go.Deep Go.Joins Go.ChangeAt
variable {H : Type} {enc : TypeId × Value → H} {P : Program} {W : World} {spare : Nat → Bool} {held : Bool}

/-- A row: two numbers and a slice of numbers. -/
theorem open_row {e : TypeId} {f0 f1 f2 : Field} {e2 : TypeId} {m : Nat} {cs : List Value} {x : DataW H × List MemPlace} (he : P.underlying e = some (.struct #[f0, f1, f2])) (hone : oneCellFields P #[f0, f1, f2] = true) (hC : P.cellsOf e = 3)
    (h0 : P.underlying f0.type = some (.int .i64)) (h1 : P.underlying f1.type = some (.int .i64)) (h2 : P.underlying f2.type = some (.slice e2)) (hi : P.underlying e2 = some (.int .i64)) (hc : P.cellsOf e2 = 1)
    (h : DataW.trod enc P W 0 spare held m e cs = some x) :
    ∃ (r : Int × Int × Option Addr × Nat × Nat × (Nat → Int)), cs = [.int .i64 r.1, .int .i64 r.2.1, .slice r.2.2.1 r.2.2.2.1 r.2.2.2.2.1] ∧ Rd W r.2.2.1 r.2.2.2.1 (fun j => .int .i64 (r.2.2.2.2.2 j)) ∧ r.2.2.2.1 ≤ maxLen := by
  obtain ⟨xs, n, _, _, hcl, hxl, hf⟩ := DataW.trod_struct he h
  obtain ⟨o0, k0⟩ := hone_of hone 0 f0 rfl
  obtain ⟨o1, k1⟩ := hone_of hone 1 f1 rfl
  obtain ⟨o2, k2⟩ := hone_of hone 2 f2 rfl
  match cs, hcl.trans hC, xs, hxl with
  | [c0, c1, c2], _, [y0, y1, y2], _ =>
    have g0 := hf 0 f0 rfl
    have g1 := hf 1 f1 rfl
    have g2 := hf 2 f2 rfl
    rw [o0, k0] at g0
    rw [o1, k1] at g1
    rw [o2, k2] at g2
    obtain ⟨d, e0, _, _⟩ := DataW.trod_int h0 (show DataW.trod enc P W 0 spare held n f0.type [c0] = some y0 from g0)
    obtain ⟨c, e1, _, _⟩ := DataW.trod_int h1 (show DataW.trod enc P W 0 spare held n f1.type [c1] = some y1 from g1)
    obtain ⟨A, l, q, z, e3, hr, hl, _⟩ := open_ints_rd h2 hi hc (show DataW.trod enc P W 0 spare held n f2.type [c2] = some y2 from g2)
    simp at e0 e1
    subst e0 e1 e3
    exact ⟨(d, c, A, l, q, z), rfl, hr, hl⟩
/-- A slice of rows. -/
theorem open_rows_rd {t e : TypeId} {f0 f1 f2 : Field} {e2 : TypeId} {fuel : Nat} {u : Value} {x : DataW H × List MemPlace} (ht : P.underlying t = some (.slice e)) (he : P.underlying e = some (.struct #[f0, f1, f2])) (hone : oneCellFields P #[f0, f1, f2] = true) (hC : P.cellsOf e = 3)
    (h0 : P.underlying f0.type = some (.int .i64)) (h1 : P.underlying f1.type = some (.int .i64)) (h2 : P.underlying f2.type = some (.slice e2)) (hi : P.underlying e2 = some (.int .i64)) (hc : P.cellsOf e2 = 1)
    (hf : DataW.trod enc P W 0 spare held fuel t [u] = some x) :
    ∃ (A : Option Addr) (n q : Nat) (d c : Nat → Int) (As : Nat → Option Addr) (ns cs : Nat → Nat) (z : Nat → Nat → Int), u = .slice A n q ∧ RdRows A n d c As ns cs z W ∧ n ≤ maxLen ∧ ∀ j, j < n → ns j ≤ maxLen := by
  rcases open_slice ht hf with ⟨hcs, _⟩ | ⟨a, len, cap, m, k, D, Pl, hcs, _, hl, hm, hmm, _, hel⟩
  · simp at hcs
    subst hcs
    exact ⟨none, 0, 0, fun _ => 0, fun _ => 0, fun _ => none, fun _ => 0, fun _ => 0, fun _ _ => 0, rfl, ⟨fun h => absurd h (by omega), fun j hj => absurd hj (by omega)⟩, by simp, fun j hj => absurd hj (by omega)⟩
  · simp at hcs
    subst hcs
    have hle : len ≤ m := by rw [hmm]; split <;> omega
    have hall : ∀ i, ∃ (r : Int × Int × Option Addr × Nat × Nat × (Nat → Int)), i < len → (∀ j, j < 3 → W.cell? (a.add (i * 3 + j)) = [Value.int .i64 r.1, .int .i64 r.2.1, .slice r.2.2.1 r.2.2.2.1 r.2.2.2.2.1][j]?) ∧ Rd W r.2.2.1 r.2.2.2.1 (fun j => .int .i64 (r.2.2.2.2.2 j)) ∧ r.2.2.2.1 ≤ maxLen := by
      intro i
      by_cases hil : i < len
      · obtain ⟨cs', hcells, htr⟩ := hel i (by omega)
        obtain ⟨r, hcs, hr, hrl⟩ := open_row he hone hC h0 h1 h2 hi hc htr
        rw [hC] at hcells
        obtain ⟨_, _, hat⟩ := World.cells?_some hcells
        refine ⟨r, fun _ => ⟨fun j hj => ?_, hr, hrl⟩⟩
        rw [← Go.Deep.add_add, hat j hj, hcs]
      · exact ⟨(0, 0, none, 0, 0, fun _ => 0), fun h => absurd h hil⟩
    obtain ⟨r, hr⟩ := Classical.axiomOfChoice hall
    refine ⟨some a, len, cap, fun i => (r i).1, fun i => (r i).2.1, fun i => (r i).2.2.1, fun i => (r i).2.2.2.1, fun i => (r i).2.2.2.2.1, fun i => (r i).2.2.2.2.2, rfl, ⟨fun hN => ?_, fun j hj => (hr j hj).2.1⟩, by omega, fun j hj => (hr j hj).2.2⟩
    have h00 := (hr 0 (by omega)).1 0 (by omega)
    simp at h00
    obtain ⟨g, o, rfl⟩ : ∃ g o, a = ⟨g, o, none⟩ := by
      rw [show a.add 0 = a by simp [Addr.add]] at h00
      exact spot_none h00
    refine ⟨g, o, rfl, by simpa [Addr.add_lit] using World.block_lt_of_cell? W _ h00, fun q hq => ?_⟩
    have hk : q / 3 < len := by omega
    have := (hr (q / 3) hk).1 (q % 3) (by omega)
    rw [show q / 3 * 3 + q % 3 = q by omega, Addr.add_lit] at this
    rw [this]
    unfold rowF
    rcases (show q % 3 = 0 ∨ q % 3 = 1 ∨ q % 3 = 2 by omega) with h | h | h <;> simp [h]
/-- An operation: eight numbers. -/
theorem open_op {e en : TypeId} {f0 f1 f2 f3 f4 f5 g0 g1 : Field} {m : Nat} {cs : List Value} {x : DataW H × List MemPlace} (he : P.underlying e = some (.struct #[f0, f1, f2, f3, f4, f5])) (hC : P.cellsOf e = 8)
    (ho : [f0.offset, f1.offset, f2.offset, f3.offset, f4.offset, f5.offset] = [0, 1, 2, 4, 6, 7]) (hk : [P.cellsOf f0.type, P.cellsOf f1.type, P.cellsOf en, P.cellsOf f4.type, P.cellsOf f5.type] = [1, 1, 2, 1, 1])
    (h0 : P.underlying f0.type = some (.int .i64)) (h1 : P.underlying f1.type = some (.int .i64)) (h2 : f2.type = en) (h3 : f3.type = en) (h4 : P.underlying f4.type = some (.int .i64)) (h5 : P.underlying f5.type = some (.int .i64))
    (hn : P.underlying en = some (.struct #[g0, g1])) (hon : oneCellFields P #[g0, g1] = true) (hg0 : P.underlying g0.type = some (.int .i64)) (hg1 : P.underlying g1.type = some (.int .i64))
    (h : DataW.trod enc P W 0 spare held m e cs = some x) :
    ∃ z0 z1 z2 z3 z4 z5 z6 z7 : Int, cs = [.int .i64 z0, .int .i64 z1, .int .i64 z2, .int .i64 z3, .int .i64 z4, .int .i64 z5, .int .i64 z6, .int .i64 z7] := by
  obtain ⟨xs, n, _, _, hcl, hxl, hf⟩ := DataW.trod_struct he h
  simp only [List.cons.injEq, and_true] at ho hk
  obtain ⟨o0, o1, o2, o3, o4, o5⟩ := ho
  obtain ⟨k0, k1, k2, k4, k5⟩ := hk
  obtain ⟨p0, q0⟩ := hone_of hon 0 g0 rfl
  obtain ⟨p1, q1⟩ := hone_of hon 1 g1 rfl
  match cs, hcl.trans hC, xs, hxl with
  | [c0, c1, c2, c3, c4, c5, c6, c7], _, [y0, y1, y2, y3, y4, y5], _ =>
    have t0 := hf 0 f0 rfl
    have t1 := hf 1 f1 rfl
    have t2 := hf 2 f2 rfl
    have t3 := hf 3 f3 rfl
    have t4 := hf 4 f4 rfl
    have t5 := hf 5 f5 rfl
    rw [o0, k0] at t0
    rw [o1, k1] at t1
    rw [o2, h2, k2] at t2
    rw [o3, h3, k2] at t3
    rw [o4, k4] at t4
    rw [o5, k5] at t5
    obtain ⟨u0, u1, n2, _, _, s0, s1⟩ := trod_struct2 hn (show DataW.trod enc P W 0 spare held n en [c2, c3] = some y2 from t2)
    obtain ⟨v0, v1, n3, _, _, r0, r1⟩ := trod_struct2 hn (show DataW.trod enc P W 0 spare held n en [c4, c5] = some y3 from t3)
    rw [p0, q0] at s0 r0
    rw [p1, q1] at s1 r1
    obtain ⟨z0, e0, _, _⟩ := DataW.trod_int h0 (show DataW.trod enc P W 0 spare held n f0.type [c0] = some y0 from t0)
    obtain ⟨z1, e1, _, _⟩ := DataW.trod_int h1 (show DataW.trod enc P W 0 spare held n f1.type [c1] = some y1 from t1)
    obtain ⟨z2, e2, _, _⟩ := DataW.trod_int hg0 (show DataW.trod enc P W 0 spare held n2 g0.type [c2] = some u0 from s0)
    obtain ⟨z3, e3, _, _⟩ := DataW.trod_int hg1 (show DataW.trod enc P W 0 spare held n2 g1.type [c3] = some u1 from s1)
    obtain ⟨z4, e4, _, _⟩ := DataW.trod_int hg0 (show DataW.trod enc P W 0 spare held n3 g0.type [c4] = some v0 from r0)
    obtain ⟨z5, e5, _, _⟩ := DataW.trod_int hg1 (show DataW.trod enc P W 0 spare held n3 g1.type [c5] = some v1 from r1)
    obtain ⟨z6, e6, _, _⟩ := DataW.trod_int h4 (show DataW.trod enc P W 0 spare held n f4.type [c6] = some y4 from t4)
    obtain ⟨z7, e7, _, _⟩ := DataW.trod_int h5 (show DataW.trod enc P W 0 spare held n f5.type [c7] = some y5 from t5)
    simp at e0 e1 e2 e3 e4 e5 e6 e7
    subst e0 e1 e2 e3 e4 e5 e6 e7
    exact ⟨z0, z1, z2, z3, z4, z5, z6, z7, rfl⟩
/-- A slice of operations. -/
theorem open_ops_rd {t e en : TypeId} {f0 f1 f2 f3 f4 f5 g0 g1 : Field} {fuel : Nat} {u : Value} {x : DataW H × List MemPlace} (ht : P.underlying t = some (.slice e)) (he : P.underlying e = some (.struct #[f0, f1, f2, f3, f4, f5])) (hC : P.cellsOf e = 8)
    (ho : [f0.offset, f1.offset, f2.offset, f3.offset, f4.offset, f5.offset] = [0, 1, 2, 4, 6, 7]) (hk : [P.cellsOf f0.type, P.cellsOf f1.type, P.cellsOf en, P.cellsOf f4.type, P.cellsOf f5.type] = [1, 1, 2, 1, 1])
    (h0 : P.underlying f0.type = some (.int .i64)) (h1 : P.underlying f1.type = some (.int .i64)) (h2 : f2.type = en) (h3 : f3.type = en) (h4 : P.underlying f4.type = some (.int .i64)) (h5 : P.underlying f5.type = some (.int .i64))
    (hn : P.underlying en = some (.struct #[g0, g1])) (hon : oneCellFields P #[g0, g1] = true) (hg0 : P.underlying g0.type = some (.int .i64)) (hg1 : P.underlying g1.type = some (.int .i64))
    (hf : DataW.trod enc P W 0 spare held fuel t [u] = some x) :
    ∃ (A : Option Addr) (n q : Nat) (z : Nat → Int), u = .slice A n q ∧ Rd W A (n * 8) (fun j => .int .i64 (z j)) ∧ n ≤ maxLen := by
  rcases open_slice ht hf with ⟨hcs, _⟩ | ⟨a, len, cap, m, k, D, Pl, hcs, _, hl, hm, hmm, _, hel⟩
  · simp at hcs
    subst hcs
    exact ⟨none, 0, 0, fun _ => 0, rfl, fun h => absurd h (by omega), by simp⟩
  · simp at hcs
    subst hcs
    have hle : len ≤ m := by rw [hmm]; split <;> omega
    have hall : ∀ q, ∃ z : Int, q < len * 8 → W.cell? (a.add q) = some (.int .i64 z) := by
      intro q
      by_cases hq : q < len * 8
      · obtain ⟨cs', hcells, htr⟩ := hel (q / 8) (by omega)
        obtain ⟨z0, z1, z2, z3, z4, z5, z6, z7, rfl⟩ := open_op he hC ho hk h0 h1 h2 h3 h4 h5 hn hon hg0 hg1 htr
        rw [hC] at hcells
        obtain ⟨_, _, hat⟩ := World.cells?_some hcells
        have := hat (q % 8) (by omega)
        rw [Go.Deep.add_add, show q / 8 * 8 + q % 8 = q by omega] at this
        rw [this]
        rcases (show q % 8 = 0 ∨ q % 8 = 1 ∨ q % 8 = 2 ∨ q % 8 = 3 ∨ q % 8 = 4 ∨ q % 8 = 5 ∨ q % 8 = 6 ∨ q % 8 = 7 by omega) with h | h | h | h | h | h | h | h <;> rw [h] <;> exact ⟨_, fun _ => rfl⟩
      · exact ⟨0, fun h => absurd h hq⟩
    obtain ⟨z, hz⟩ := Classical.axiomOfChoice hall
    refine ⟨some a, len, cap, z, rfl, fun hN => ?_, by omega⟩
    have h00 := hz 0 (by omega)
    obtain ⟨g, o, rfl⟩ : ∃ g o, a = ⟨g, o, none⟩ := by
      rw [show a.add 0 = a by simp [Addr.add]] at h00
      exact spot_none h00
    refine ⟨g, o, rfl, by simpa [Addr.add_lit] using World.block_lt_of_cell? W _ h00, fun q hq => ?_⟩
    have := hz q hq
    rw [Addr.add_lit] at this
    exact this
/-- Strands: a number and a slice of numbers. -/
theorem open_braid {t e2 : TypeId} {f0 f1 : Field} {m : Nat} {u v : Value} {x : DataW H × List MemPlace} (he : P.underlying t = some (.struct #[f0, f1])) (hone : oneCellFields P #[f0, f1] = true)
    (h0 : P.underlying f0.type = some (.int .i64)) (h1 : P.underlying f1.type = some (.slice e2)) (hi : P.underlying e2 = some (.int .i64)) (hc : P.cellsOf e2 = 1) (h : DataW.trod enc P W 0 spare held m t [u, v] = some x) :
    ∃ (s : Int) (B : Option Addr) (l c : Nat) (z : Nat → Int), u = .int .i64 s ∧ v = .slice B l c ∧ Rd W B l (fun j => .int .i64 (z j)) ∧ l ≤ maxLen := by
  obtain ⟨u0, u1, n, _, _, s0, s1⟩ := trod_struct2 he h
  obtain ⟨o0, k0⟩ := hone_of hone 0 f0 rfl
  obtain ⟨o1, k1⟩ := hone_of hone 1 f1 rfl
  rw [o0, k0] at s0
  rw [o1, k1] at s1
  obtain ⟨d, e0, _, _⟩ := DataW.trod_int h0 (show DataW.trod enc P W 0 spare held n f0.type [u] = some u0 from s0)
  obtain ⟨B, l, q, z, e1, hr, hl, _⟩ := open_ints_rd h1 hi hc (show DataW.trod enc P W 0 spare held n f1.type [v] = some u1 from s1)
  simp at e0
  exact ⟨d, B, l, q, z, e0, e1, hr, hl⟩
/-- A state, by its fields. -/
theorem open_studio {r : Reach} {b0 : Nat} {t : TypeId} {f0 f1 f2 f3 : Field} {v : Value} {d : DataW H} {p : List MemPlace} (hs : P.underlying t = some (.struct #[f0, f1, f2, f3])) (hC : P.cellsOf t = 5) (ho : [f0.offset, f1.offset, f2.offset, f3.offset] = [0, 1, 2, 3])
    (hk : [P.cellsOf f0.type, P.cellsOf f1.type, P.cellsOf f2.type, P.cellsOf f3.type] = [1, 1, 1, 2]) (hv : Value.okWide P W r b0 t v) (h : DataW.Trod enc P W 0 spare held t v d p) :
    ∃ (v0 v1 v2 v3 v4 : Value) (y0 y1 y2 y3 : DataW H × List MemPlace) (n : Nat), v = .agg #[v0, v1, v2, v3, v4] ∧ DataW.trod enc P W 0 spare held n f0.type [v0] = some y0 ∧ DataW.trod enc P W 0 spare held n f1.type [v1] = some y1 ∧
      DataW.trod enc P W 0 spare held n f2.type [v2] = some y2 ∧ DataW.trod enc P W 0 spare held n f3.type [v3, v4] = some y3 := by
  obtain ⟨cs, rfl, hsz⟩ := okWide_struct hs hv
  obtain ⟨l⟩ := cs
  simp only [List.cons.injEq, and_true] at ho hk
  obtain ⟨o0, o1, o2, o3⟩ := ho
  obtain ⟨k0, k1, k2, k3⟩ := hk
  match l, hsz.trans hC with
  | [c0, c1, c2, c3, c4], _ =>
    obtain ⟨fuel, hf⟩ := h
    obtain ⟨xs, n, _, _, _, hlen, hg⟩ := DataW.trod_struct hs hf
    match xs, hlen with
    | [y0, y1, y2, y3], _ =>
      have t0 := hg 0 f0 rfl
      have t1 := hg 1 f1 rfl
      have t2 := hg 2 f2 rfl
      have t3 := hg 3 f3 rfl
      rw [o0, k0] at t0
      rw [o1, k1] at t1
      rw [o2, k2] at t2
      rw [o3, k3] at t3
      exact ⟨c0, c1, c2, c3, c4, y0, y1, y2, y3, n, rfl, t0, t1, t2, t3⟩
end Go.Proofs.Ytfncdogbpmiomaa
