/- Walk: slices.Concat of two lists of operations that the caller owns: a new list of both. No condition but the bounds. -/
import Derived.Test.YtpmfkpehmckgmaaGreatTubes
import Derived.Lib.AppendZeros
namespace Go.Proofs.YtpmfkpehmckgmaaGreat
open Go.RowKit
set_option maxRecDepth 20000

/-- 'append(s[:cap(s)], make(.., n)...)' on a nil s: n zeros in a new block. -/
theorem wpList_zeros {P : Program} (w : World) {ops : Array Oper} {rest : List Oper} {o : Oper} {a : Act} {Q : Exit → Act → World → Prop} (hgd : o.guard = none) (s x : Operand) (t tn : TypeId)
    (ho : o.op = .call { callee := .builtin .append, args := #[s, x], argTypes := #[t, tn] }) (e : TypeId) (i : TypeInfo) (z : Value) (size bytes : Nat) (ht : P.underlying t = some (.slice e)) (htn : P.underlying tn = some (.int .i64)) (hi : P.info? e = some i) (hz : i.zero = some z)
    (hsize : i.size = size) (hby : i.bytes = bytes) (hzs : z.cells.size = size) (hsz : 0 < size) (n : Nat) (h0 : 0 < n) (h63 : n ≤ maxLen) (hb : n * bytes ≤ 281474976710656)
    (hs : a.eval s = .slice none 0 0) (hx : a.eval x = .int .i64 n)
    (h : ∀ c w', (w'.ownsRow w.heap.size e size (.slice (some ⟨w.heap.size, 0, none⟩) 0 c) 0 []) → n ≤ c → Below w.heap.size w w' → w.heap.size < w'.heap.size → wpList P ops Q rest (a.put o.dst (.slice (some ⟨w.heap.size, 0, none⟩) n c)) w') :
    wpList P ops Q (o :: rest) a w := by
  subst hsize
  subst hby
  have hr := Lib.run_append_nil_zeros (P := P) w t tn o.type e i z .i64 .i64 ht htn hi hz n h0 hsz (by unfold maxLen at h63; omega) hb
  refine wpList_plain hgd fun K hK => ?_
  unfold Oper.wp execOp
  simp only [ho, resolve, invoke, builtin, Sem.run_bind, Sem.run_pure, Result.andThen_ok, List.map_toArray, List.map_cons, List.map_nil, hs, hx, hr]
  have hge := grownCap_ge w n 0 e
  have hle := grownCap_le_maxLen w n 0 e h63
  refine hK _ _ (h _ _ (World.ownsRow_made w.drew _ _ (Nat.le_refl _) hle ?_) hge ?_ ?_)
  · simp only [Array.size_append, size_zeroCells, hzs, ← Nat.add_mul]
    congr 1
    omega
  · exact (Below.refl _ _).drew.alloc (Nat.le_refl _) _
  · simp
/-- The first k of two lists. -/
def sumK (n1 n2 k : Nat) : Nat := if k = 0 then 0 else if k = 1 then n1 else n1 + n2
def appK (l1 l2 : List Int) (k : Nat) : List Int := if k = 0 then [] else if k = 1 then l1 else l1 ++ l2
end Go.Proofs.YtpmfkpehmckgmaaGreat
