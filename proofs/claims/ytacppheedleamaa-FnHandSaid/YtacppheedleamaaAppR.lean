/- Plain law: 'out = append(out, x...)' where x reads as known cells; new slices with their room. -/
import Derived.Test.YtacppheedleamaaAppG
import Derived.Test.YtacppheedleamaaAppend
namespace Go.Proofs.Ytacppheedleamaa
open Go.RowKit

theorem wpList_appR {P : Program} (W : World) {ops : Array Oper} {rest : List Oper} {o : Oper} {a : Act} {Q : Exit → Act → World → Prop} (hgd : o.guard = none) (s x : Operand) (t : TypeId)
    (ho : o.op = .call { callee := .builtin .append, args := #[s, x], argTypes := #[t, t] })
    (base : Nat) (e : TypeId) (i : TypeInfo) (z : Value) (size bytes : Nat) (ht : P.underlying t = some (.slice e)) (hi : P.info? e = some i) (hz : i.zero = some z)
    (hsize : i.size = size) (hby : i.bytes = bytes) (hzs : z.cells.size = size) (hsz : 0 < size)
    (v : Value) (n : Nat) (xs : List Value) (hs : a.eval s = v) (hown : W.ownsRow base e size v n xs)
    (A2 : Option Addr) (m c : Nat) (f : Nat → Value) (hx : a.eval x = .slice A2 m c) (hrd : Rd W A2 (m * size) f) (h1 : ∀ j, (f j).oneCell' = true)
    (h63 : n + m ≤ maxLen) (hbytes : (n + m) * bytes ≤ 140737488355328) (hbase : base ≤ W.heap.size)
    (h : ∀ v' w', w'.ownsRow base e size v' (n + m) (xs ++ (List.range (m * size)).map f) → Fr W w' (fun b => v.ownBlock = some b) → wpList P ops Q rest (a.put o.dst v') w') :
    wpList P ops Q (o :: rest) a W := by
  rcases A2 with _ | ad
  · have hm : m = 0 := by
      rcases Nat.eq_zero_or_pos m with h0 | h0
      · exact h0
      · obtain ⟨g, o', e, _⟩ := hrd (Nat.mul_pos h0 hsz)
        cases e
    subst hm
    refine wpList_plain hgd fun K hK => ?_
    have hr := append_nil_run (P := P) W base t o.type e i size ht hi v n xs hown c
    unfold Oper.wp execOp
    simp only [ho, resolve, invoke, builtin, Sem.run_bind, Sem.run_pure, Result.andThen_ok, List.map_toArray, List.map_cons, List.map_nil, hs, hx, hr]
    exact hK _ _ (h _ _ (by simpa using hown) (Fr.refl _ _))
  · refine wpList_append_own W hgd s x t ho base e i z size bytes ht hi hz hsize hby hzs hsz v n xs hs hown ad m c ((List.range (m * size)).map f) hx (by simp) (fun j u hu => ?_) (fun u hu => ?_) h63 hbytes hbase ?_
    · obtain ⟨hj, rfl⟩ : j < m * size ∧ f j = u := by
        by_cases hj : j < m * size
        · simp [hj] at hu; exact ⟨hj, hu⟩
        · rw [List.getElem?_eq_none (by simpa using hj)] at hu; cases hu
      obtain ⟨g, o', e, _, hr⟩ := hrd (by omega)
      injection e with e
      subst e
      rw [Addr.add_lit]
      exact hr j hj
    · obtain ⟨j, _, rfl⟩ := List.mem_map.1 hu
      exact h1 j
    · intro v' w' h2 h3 _
      exact h v' w' h2 ⟨h3.os, h3.tape, h3.output, h3.size, fun b hb hne => h3.block b hb (fun e => hne e.symm)⟩
/-- A new slice with its room. -/
def NewPC (w : World) (n N : Nat) (f : Nat → Value) (e : Ending) (w' : World) : Prop := ∃ A c, e = .returned (.slice A n c) ∧ (n ≤ c ∧ c ≤ maxLen) ∧ New w w' A N f
def NewPC2 (w : World) (n N : Nat) (f : Nat → Value) (code : Int) (e : Ending) (w' : World) : Prop := ∃ A c, e = .returned (.tuple #[.slice A n c, .int .i64 code]) ∧ (n ≤ c ∧ c ≤ maxLen) ∧ New w w' A N f
theorem cap0 : 0 ≤ 0 ∧ 0 ≤ maxLen := ⟨Nat.le_refl _, Nat.zero_le _⟩
theorem New.of_own_c {w w' : World} {e : TypeId} {size n : Nat} {v : Value} {xs : List Value} (hb : Below w.heap.size w w') (h : w'.ownsRow w.heap.size e size v n xs) : ∃ A c, v = .slice A n c ∧ (n ≤ c ∧ c ≤ maxLen) ∧ New w w' A (n * size) (fun j => xs.getD j undef) := by
  obtain ⟨A, c, rfl, hn⟩ := New.of_own hb h
  rcases h.2 with ⟨e, _⟩ | ⟨g, cap, cur, e, _, _, hnc, hcm, _⟩
  · injection e with e1 e2 e3
    subst e2 e3
    exact ⟨A, 0, rfl, cap0, hn⟩
  · injection e with e1 e2 e3
    subst e3
    exact ⟨A, c, rfl, ⟨hnc, hcm⟩, hn⟩
theorem New.drewN {w w' : World} {A : Option Addr} {N : Nat} {f : Nat → Value} (h : New w w' A N f) (q : Nat) : New w (w'.drewN q) A N f := ⟨Below.drewN' h.bl q, h.ab, h.bb, h.wr, h.rd⟩
theorem ints_get (l : List Int) (n : Nat) (hn : l.length = n) : ((List.range n).map fun j => Value.int .i64 (l.getD j 0)) = ints l := by
  apply List.ext_getElem
  · simp [ints, hn]
  · intro i h1 h2
    simp [ints] at h2
    simp [ints, h2]
end Go.Proofs.Ytacppheedleamaa
