/- Plain lemmas for the rows: a slice of structs of numbers as an argument. -/
import Derived.Test.YtpgmkkepbnonmaaRowWords
namespace Go.Proofs.Ytpgmkkepbnonmaa
open Go.RowKit Go.WideShapes Go.ChangeShapes Go.Deep Go.Joins Go.ChangeAt
variable {H : Type} {enc : TypeId × Value → H} {P : Program} {W : World} {spare : Nat → Bool} {held : Bool}

theorem open_flat_rd {S : Nat} {t e : TypeId} {fs : Array Field} {fuel : Nat} {u : Value} {x : DataW H × List MemPlace} (ht : P.underlying t = some (.slice e)) (he : P.underlying e = some (.struct fs)) (hone : oneCellFields P fs = true) (hC : P.cellsOf e = fs.size)
    (hi : fs.toList.map (fun f => P.underlying f.type) = List.replicate S (some (.int .i64))) (hS : fs.size = S) (h0 : 0 < S) (hf : DataW.trod enc P W 0 spare held fuel t [u] = some x) :
    ∃ (A : Option Addr) (n q : Nat) (z : Nat → Int), u = .slice A n q ∧ Rd W A (n * S) (fun j => .int .i64 (z j)) ∧ n ≤ maxLen := by
  subst hS
  rcases open_slice_fields ht he hone hC hf with ⟨hcs, _⟩ | ⟨a, len, cap, m, D, Pl, hcs, _, hl, hm, hmm, _, hel⟩
  · simp at hcs
    subst hcs
    exact ⟨none, 0, 0, fun _ => 0, rfl, fun h => absurd h (by omega), by simp⟩
  · simp at hcs
    subst hcs
    have hle : len ≤ m := by rw [hmm]; split <;> omega
    have hall : ∀ q, ∃ z : Int, q < len * fs.size → W.cell? (a.add q) = some (.int .i64 z) := by
      intro q
      by_cases hq : q < len * fs.size
      · have hqd : q / fs.size < len := Nat.div_lt_of_lt_mul (by rw [Nat.mul_comm]; exact hq)
        have hqm : q % fs.size < fs.size := Nat.mod_lt _ h0
        obtain ⟨ys, k, _, _, _, hfl⟩ := hel (q / fs.size) (by omega)
        obtain ⟨v, y, hc, _, htr⟩ := hfl (q % fs.size) (fs[q % fs.size]'hqm) (Array.getElem?_eq_getElem hqm)
        have hu : P.underlying (fs[q % fs.size]'hqm).type = some (.int .i64) := by
          have := congrArg (fun l => l[q % fs.size]?) hi
          simp only [List.getElem?_map, List.getElem?_replicate] at this
          rw [if_pos hqm, Array.getElem?_toList, Array.getElem?_eq_getElem hqm] at this
          simpa using this
        obtain ⟨z, ez, _, _⟩ := DataW.trod_int hu htr
        simp at ez
        subst ez
        rw [show q / fs.size * fs.size + q % fs.size = q from Nat.div_add_mod' q fs.size] at hc
        exact ⟨z, fun _ => hc⟩
      · exact ⟨0, fun h => absurd h hq⟩
    obtain ⟨z, hz⟩ := Classical.axiomOfChoice hall
    refine ⟨some a, len, cap, z, rfl, fun hN => ?_, by omega⟩
    have h00 := hz 0 hN
    obtain ⟨g, o, rfl⟩ : ∃ g o, a = ⟨g, o, none⟩ := by
      rw [show a.add 0 = a by simp [Addr.add]] at h00
      exact spot_none h00
    refine ⟨g, o, rfl, by simpa [Addr.add_lit] using World.block_lt_of_cell? W _ h00, fun q hq => ?_⟩
    have := hz q hq
    rw [Addr.add_lit] at this
    exact this
/-- The same, of an argument. -/
theorem open_flat {S : Nat} {r : Reach} {b0 : Nat} {t e : TypeId} {fs : Array Field} {v : Value} {d : DataW H} {p : List MemPlace} (ht : P.underlying t = some (.slice e)) (he : P.underlying e = some (.struct fs)) (hone : oneCellFields P fs = true) (hC : P.cellsOf e = fs.size)
    (hi : fs.toList.map (fun f => P.underlying f.type) = List.replicate S (some (.int .i64))) (hS : fs.size = S) (h0 : 0 < S) (hv : Value.okWide P W r b0 t v) (h : DataW.Trod enc P W 0 spare held t v d p) :
    ∃ (A : Option Addr) (n q : Nat) (z : Nat → Int), v = .slice A n q ∧ Rd W A (n * S) (fun j => .int .i64 (z j)) ∧ n ≤ maxLen := by
  obtain ⟨a0, len0, cap0, rfl⟩ := okWide_slice ht hv
  obtain ⟨fuel, hf⟩ := h
  exact open_flat_rd ht he hone hC hi hS h0 (show DataW.trod enc P W 0 spare held fuel t [.slice a0 len0 cap0] = some _ by simpa [Value.cells] using hf)
end Go.Proofs.Ytpgmkkepbnonmaa
