/- Plain lemmas: rows of stitches that a call owns, changed in place; read. -/
import Derived.Test.YtacppheedleamaaDrH
import Derived.Test.YtacppheedleamaaRowsObj
import Derived.Test.YtacppheedleamaaAppStep
set_option linter.unusedVariables false
set_option linter.unusedSimpArgs false
namespace Go.Proofs.Ytacppheedleamaa
open Go.RowKit

theorem own_put {B : Nat} {w : World} {e : TypeId} {size g n c : Nat} {xs : List Value} (h : w.ownsRow B e size (.slice (some ⟨g, 0, none⟩) n c) n xs) (q : Nat) (u : Value) : (w.setCell ⟨g, q, none⟩ u).ownsRow B e size (.slice (some ⟨g, 0, none⟩) n c) n (xs.set q u) := by
  obtain ⟨hl, ⟨h1, _⟩ | ⟨g', cap, cur, h1, hB, hg, h2, h3, h4, h5⟩⟩ := h
  · cases h1
  · injection h1 with h1 _ h6
    injection h1 with h1
    injection h1 with h1
    subst h1 h6
    refine ⟨by rw [List.length_set]; exact hl, .inr ⟨g, c, cur.setIfInBounds q u, rfl, hB, Blk.set_ hg q u, h2, h3, by simpa using h4, ?_⟩⟩
    rw [Array.toList_setIfInBounds, List.take_set, h5]
theorem rwsV_cons (r : RwD) (rs : List RwD) : rwsV (r :: rs) = .int .i64 r.d :: .int .i64 r.c :: .slice r.A r.L.length r.q :: rwsV rs := rfl
theorem rwsV_set0 (t : Int) {r : RwD} : ∀ (rs : List RwD) (k : Nat), rs[k]? = some r → rwsV (rs.set k ⟨t, r.c, r.A, r.q, r.L⟩) = (rwsV rs).set (k * 3) (.int .i64 t)
  | [], k, h => by simp at h
  | r0 :: rs, 0, h => by
    simp only [List.getElem?_cons_zero, Option.some.injEq] at h
    subst h
    rfl
  | r0 :: rs, k + 1, h => by
    rw [List.getElem?_cons_succ] at h
    rw [List.set_cons_succ, rwsV_cons, rwsV_cons, rwsV_set0 t rs k h, show (k + 1) * 3 = k * 3 + 1 + 1 + 1 by omega, List.set_cons_succ, List.set_cons_succ, List.set_cons_succ]
theorem rwsV_set1 (t : Int) {r : RwD} : ∀ (rs : List RwD) (k : Nat), rs[k]? = some r → rwsV (rs.set k ⟨r.d, t, r.A, r.q, r.L⟩) = (rwsV rs).set (k * 3 + 1) (.int .i64 t)
  | [], k, h => by simp at h
  | r0 :: rs, 0, h => by
    simp only [List.getElem?_cons_zero, Option.some.injEq] at h
    subst h
    rfl
  | r0 :: rs, k + 1, h => by
    rw [List.getElem?_cons_succ] at h
    rw [List.set_cons_succ, rwsV_cons, rwsV_cons, rwsV_set1 t rs k h, show (k + 1) * 3 + 1 = k * 3 + 1 + 1 + 1 + 1 by omega, List.set_cons_succ, List.set_cons_succ, List.set_cons_succ]
theorem rwsV_set2 (A : Option Addr) (q : Nat) (L : List Int) {r : RwD} : ∀ (rs : List RwD) (k : Nat), rs[k]? = some r → rwsV (rs.set k ⟨r.d, r.c, A, q, L⟩) = (rwsV rs).set (k * 3 + 2) (.slice A L.length q)
  | [], k, h => by simp at h
  | r0 :: rs, 0, h => by
    simp only [List.getElem?_cons_zero, Option.some.injEq] at h
    subst h
    rfl
  | r0 :: rs, k + 1, h => by
    rw [List.getElem?_cons_succ] at h
    rw [List.set_cons_succ, rwsV_cons, rwsV_cons, rwsV_set2 A q L rs k h, show (k + 1) * 3 + 2 = k * 3 + 2 + 1 + 1 + 1 by omega, List.set_cons_succ, List.set_cons_succ, List.set_cons_succ]
section
variable {X : World} {B g2 c1 k q : Nat} {rs : List RwD} {r : RwD} {u : Value}
/-- One cell of row k is stored. -/
theorem RowsOk.setR (h : RowsOk B X (.slice (some ⟨g2, 0, none⟩) rs.length c1) rs) {r' : RwD} (he : rwsV (rs.set k r') = (rwsV rs).set q u) (hr : X.ownsRow B 2 1 (.slice r'.A r'.L.length r'.q) r'.L.length (ints r'.L) ∧ r'.L.length ≤ 20) : RowsOk B (X.setCell ⟨g2, q, none⟩ u) (.slice (some ⟨g2, 0, none⟩) rs.length c1) (rs.set k r') := by
  refine ⟨by rw [he, List.length_set]; exact own_put h.ow q u, fun r1 hr1 => ?_⟩
  have h1 : X.ownsRow B 2 1 (.slice r1.A r1.L.length r1.q) r1.L.length (ints r1.L) ∧ r1.L.length ≤ 20 := by
    rcases List.mem_or_eq_of_mem_set hr1 with h2 | h2
    · exact h.st r1 h2
    · rw [h2]; exact hr
  exact ⟨own_keep h1.1 fun b hb => Below.heap_setCell X ⟨g2, q, none⟩ u b fun e => by
    subst e
    exact two_own h.ow h1.1 (by decide) rfl hb, h1.2⟩
theorem RowsOk.set0 (h : RowsOk B X (.slice (some ⟨g2, 0, none⟩) rs.length c1) rs) (hk : rs[k]? = some r) (t : Int) : RowsOk B (X.setCell ⟨g2, k * 3, none⟩ (.int .i64 t)) (.slice (some ⟨g2, 0, none⟩) rs.length c1) (rs.set k ⟨t, r.c, r.A, r.q, r.L⟩) :=
  h.setR (rwsV_set0 t rs k hk) (h.st r (List.mem_of_getElem? hk))
theorem RowsOk.set1 (h : RowsOk B X (.slice (some ⟨g2, 0, none⟩) rs.length c1) rs) (hk : rs[k]? = some r) (t : Int) : RowsOk B (X.setCell ⟨g2, k * 3 + 1, none⟩ (.int .i64 t)) (.slice (some ⟨g2, 0, none⟩) rs.length c1) (rs.set k ⟨r.d, t, r.A, r.q, r.L⟩) :=
  h.setR (rwsV_set1 t rs k hk) (h.st r (List.mem_of_getElem? hk))
theorem RowsOk.set2 (h : RowsOk B X (.slice (some ⟨g2, 0, none⟩) rs.length c1) rs) (hk : rs[k]? = some r) {A : Option Addr} {q : Nat} {L : List Int} (ho : X.ownsRow B 2 1 (.slice A L.length q) L.length (ints L) ∧ L.length ≤ 20) : RowsOk B (X.setCell ⟨g2, k * 3 + 2, none⟩ (.slice A L.length q)) (.slice (some ⟨g2, 0, none⟩) rs.length c1) (rs.set k ⟨r.d, r.c, A, q, L⟩) :=
  h.setR (rwsV_set2 A q L rs k hk) ho
/-- Where the rows lie. -/
theorem RowsOk.at_ {A1 : Option Addr} (h : RowsOk B X (.slice A1 rs.length c1) rs) (h1 : 1 ≤ rs.length) : ∃ g2 cur, A1 = some ⟨g2, 0, none⟩ ∧ B ≤ g2 ∧ Blk X g2 40 cur ∧ rs.length * 3 ≤ cur.size ∧ cur.toList.take (rs.length * 3) = rwsV rs := by
  obtain ⟨hl, ⟨h2, h3⟩ | ⟨g', cap, cur, h2, hB, hg, h3, h4, h5, h6⟩⟩ := h.ow
  · omega
  · injection h2 with h2
    exact ⟨g', cur, h2, hB, hg, by rw [h5]; exact Nat.mul_le_mul_right 3 h3, h6⟩
def rw0 : RwD := ⟨0, 0, none, 0, []⟩
abbrev dF (rs : List RwD) (j : Nat) : Int := (rs.getD j rw0).d
abbrev cF (rs : List RwD) (j : Nat) : Int := (rs.getD j rw0).c
abbrev AF (rs : List RwD) (j : Nat) : Option Addr := (rs.getD j rw0).A
abbrev nF (rs : List RwD) (j : Nat) : Nat := (rs.getD j rw0).L.length
abbrev qF (rs : List RwD) (j : Nat) : Nat := (rs.getD j rw0).q
abbrev zF (rs : List RwD) (j i : Nat) : Int := (rs.getD j rw0).L.getD i 0
theorem rwsV_get : ∀ (rs : List RwD) (q : Nat), q < rs.length * 3 → (rwsV rs)[q]? = some (rowF (dF rs) (cF rs) (AF rs) (nF rs) (qF rs) q)
  | [], q, h => by simp at h
  | r :: rs, 0, _ => rfl
  | r :: rs, 1, _ => rfl
  | r :: rs, 2, _ => rfl
  | r :: rs, q + 3, h => by
    have ih := rwsV_get rs q (by simp at h; omega)
    rw [rwsV_cons, List.getElem?_cons_succ, List.getElem?_cons_succ, List.getElem?_cons_succ, ih]
    unfold rowF
    rw [show (q + 3) % 3 = q % 3 by omega, show (q + 3) / 3 = q / 3 + 1 by omega]
    rfl
theorem getD_mem {rs : List RwD} {j : Nat} (h : j < rs.length) : rs.getD j rw0 ∈ rs := by
  rw [List.getD_eq_getElem?_getD, List.getElem?_eq_getElem h]
  exact List.getElem_mem h
/-- It reads as rows. -/
theorem RowsOk.rd {A1 : Option Addr} (h : RowsOk B X (.slice A1 rs.length c1) rs) : RdRows A1 rs.length (dF rs) (cF rs) (AF rs) (nF rs) (qF rs) (zF rs) X := by
  refine ⟨fun h0 => ?_, fun j hj => own_rdI (h.st _ (getD_mem hj)).1⟩
  obtain ⟨g2, cur, rfl, _, hb, hc, ht⟩ := h.at_ (by omega)
  refine ⟨g2, 0, rfl, hb.lt, fun q hq => ?_⟩
  rw [Nat.zero_add, hb.cell q, ← rwsV_get rs q hq, ← ht, List.getElem?_take_of_lt hq, Array.getElem?_toList]
theorem RowsOk.cells (h : RowsOk B X (.slice (some ⟨g2, 0, none⟩) rs.length c1) rs) (hk : k < rs.length) : X.cell? ⟨g2, k * 3, none⟩ = some (.int .i64 (dF rs k)) ∧ X.cell? ⟨g2, k * 3 + 1, none⟩ = some (.int .i64 (cF rs k)) ∧ X.cell? ⟨g2, k * 3 + 2, none⟩ = some (.slice (AF rs k) (nF rs k) (qF rs k)) ∧ ∀ j, X.frozen? ⟨g2, j, none⟩ = false := by
  obtain ⟨g3, o, e, _, h0, h1, h2⟩ := h.rd.row hk
  injection e with e
  injection e with e1 e2
  subst e1 e2
  obtain ⟨g4, cur, e, _, hb, _⟩ := h.at_ (by omega)
  injection e with e
  injection e with e1
  subst e1
  rw [Nat.zero_add] at h0 h1 h2
  exact ⟨h0, h1, h2, fun j => hb.frozen j⟩
theorem Ch0.row {w : World} {R G g : Nat} {A : Option Addr} {n c : Nat} {b : Nat → Int} {i y : Nat} {cols : Int} {v : Value} (h : Ch0 w X R G g A n c b i y cols v) (hg : g < w.heap.size) (hr : RowsOk w.heap.size X (.slice (some ⟨g2, 0, none⟩) rs.length c1) rs) (q : Nat) (u : Value) : Ch0 w (X.setCell ⟨g2, q, none⟩ u) R G g A n c b i y cols v := by
  have h1 : R ≠ g2 := fun e => two_blk h.rb hr.ow (by decide) (by rw [e]; rfl)
  have h2 : G ≠ g2 := fun e => two_blk h.bb hr.ow (by decide) (by rw [e]; rfl)
  have hl : Below w.heap.size X (X.setCell ⟨g2, q, none⟩ u) := (Below.refl _ _).setCell (p := ⟨g2, q, none⟩) (hr.ow.lt g2 rfl).1 _
  exact ⟨h.rb.far h1 _, h.bb.far h2 _, h.src.base hl hg, h.fr.then_below hl⟩
end
end Go.Proofs.Ytacppheedleamaa
