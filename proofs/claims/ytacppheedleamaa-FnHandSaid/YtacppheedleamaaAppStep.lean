/- Plain law: 'append(out, x...)' at a step of a region that draws its order, where x reads as known cells. -/
import Derived.Test.YtacppheedleamaaAppR
namespace Go.Proofs.Ytacppheedleamaa
open Go.RowKit

theorem step_appR {P : Program} (W : World) {ops : Array Oper} {o : Oper} {a : Act} {K : Act → World → Prop} {Q : Exit → Act → World → Prop} {E : Prop} (hgd : o.guard = none) (s x : Operand) (t : TypeId)
    (ho : o.op = .call { callee := .builtin .append, args := #[s, x], argTypes := #[t, t] })
    (base : Nat) (e : TypeId) (i : TypeInfo) (z : Value) (size bytes : Nat) (ht : P.underlying t = some (.slice e)) (hi : P.info? e = some i) (hz : i.zero = some z)
    (hsize : i.size = size) (hby : i.bytes = bytes) (hzs : z.cells.size = size) (hsz : 0 < size)
    (v : Value) (n : Nat) (xs : List Value) (hs : a.eval s = v) (hown : W.ownsRow base e size v n xs)
    (g2 o2 m c : Nat) (f : Nat → Value) (hx : a.eval x = .slice (some ⟨g2, o2, none⟩) m c) (hr : RowR W g2 o2 (m * size) f) (h1 : ∀ j, (f j).oneCell' = true)
    (h63 : n + m ≤ maxLen) (hbytes : (n + m) * bytes ≤ 140737488355328) (hbase : base ≤ W.heap.size)
    (h : ∀ v' w', w'.ownsRow base e size v' (n + m) (xs ++ (List.range (m * size)).map f) → Fr W w' (fun b => v.ownBlock = some b) → K (a.put o.dst v') w') :
    if Region.wanted o (yielded ops a.tmps) = true then Oper.wp P o a W K Q else E := by
  have hw : Region.wanted o (yielded ops a.tmps) = true := by simp [Region.wanted, hgd]
  rw [if_pos hw]
  refine wp_append_own W s x t ho base e i z size bytes ht hi hz hsize hby hzs hsz v n xs hs hown ⟨g2, o2, none⟩ m c ((List.range (m * size)).map f) hx (by simp) (fun j u hu => ?_) (fun u hu => ?_) h63 hbytes hbase ?_
  · obtain ⟨hj, rfl⟩ : j < m * size ∧ f j = u := by
      by_cases hj : j < m * size
      · simp [hj] at hu; exact ⟨hj, hu⟩
      · rw [List.getElem?_eq_none (by simpa using hj)] at hu; cases hu
    rw [Addr.add_lit]
    exact hr j hj
  · obtain ⟨j, _, rfl⟩ := List.mem_map.1 hu
    exact h1 j
  · intro v' w' h2 h3 _
    exact h v' w' h2 ⟨h3.os, h3.tape, h3.output, h3.size, fun b hb hne => h3.block b hb (fun e => hne e.symm)⟩
end Go.Proofs.Ytacppheedleamaa
