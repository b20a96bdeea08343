/- Plain lemmas: a slice of slices that a call builds by append, one new row at a time. -/
import Derived.Test.YtacppheedleamaaObjs
import Derived.Maps.AppendAt
namespace Go.Proofs.Ytacppheedleamaa
open Go.RowKit

structure AccSS (S : Nat) (eo : TypeId) (B : Nat) (w : World) (v : Value) (k : Nat) (As : Nat → Option Addr) (ns cs : Nat → Nat) (z : Nat → Nat → Int) : Prop where
  own : w.ownsRow B eo 1 v k ((List.range k).map fun j => .slice (As j) (ns j) (cs j))
  ab : ∀ j b, j < k → Fb (As j) (ns j * S) b → B ≤ b
  wr : ∀ j, j < k → Wr w (As j) (ns j * S)
  rd : ∀ j, j < k → Rd w (As j) (ns j * S) (fun i => .int .i64 (z j i))
  out : ∀ j b, j < k → Fb (As j) (ns j * S) b → v.ownBlock ≠ some b
  dis : ∀ i j b, i < j → j < k → Fb (As i) (ns i * S) b → ¬ Fb (As j) (ns j * S) b
def upd {α : Type} (f : Nat → α) (k : Nat) (x : α) (j : Nat) : α := if j = k then x else f j
theorem upd_at {α : Type} (f : Nat → α) (k : Nat) (x : α) : upd f k x k = x := if_pos rfl
theorem upd_ne {α : Type} (f : Nat → α) {k j : Nat} (x : α) (h : j ≠ k) : upd f k x j = f j := if_neg h

section
variable {S : Nat} {eo : TypeId} {B : Nat} {w w' W0 W : World} {v : Value} {k : Nat} {As : Nat → Option Addr} {ns cs : Nat → Nat} {z : Nat → Nat → Int}
theorem AccSS.below (h : AccSS S eo B w v k As ns cs z) (hb : Below w.heap.size w w') : AccSS S eo B w' v k As ns cs z :=
  ⟨own_below h.own hb, h.ab, fun j hj => (h.wr j hj).below hb, fun j hj => (h.rd j hj).below hb, h.out, h.dis⟩
theorem AccSS.start (S : Nat) (eo : TypeId) (w : World) (As : Nat → Option Addr) (ns cs : Nat → Nat) (z : Nat → Nat → Int) {B : Nat} (hB : B ≤ w.heap.size) :
    AccSS S eo B (w.alloc (.cells #[] eo)) (.slice (some ⟨w.heap.size, 0, none⟩) 0 0) 0 As ns cs z :=
  ⟨World.ownsRow_made w #[] 0 hB (by unfold maxLen; omega) rfl, fun j b hj => absurd hj (by omega), fun j hj => absurd hj (by omega), fun j hj => absurd hj (by omega), fun j b hj => absurd hj (by omega), fun i j b _ hj => absurd hj (by omega)⟩
theorem own_mono {B B' : Nat} {w : World} {e : TypeId} {size n : Nat} {v : Value} {xs : List Value} (h : w.ownsRow B e size v n xs) (hB : B' ≤ B) : w.ownsRow B' e size v n xs := by
  refine ⟨h.1, ?_⟩
  rcases h.2 with h2 | ⟨g, cap, cur, hv, hg, r⟩
  · exact .inl h2
  · exact .inr ⟨g, cap, cur, hv, Nat.le_trans hB hg, r⟩
theorem AccSS.mono {B' : Nat} (h : AccSS S eo B w v k As ns cs z) (hB : B' ≤ B) : AccSS S eo B' w v k As ns cs z :=
  ⟨own_mono h.own hB, fun j b hj hb => Nat.le_trans hB (h.ab j b hj hb), h.wr, h.rd, h.out, h.dis⟩
/-- A new row, all of whose blocks lie from L on. -/
def NewRow (L : Nat) (W : World) (A : Option Addr) (N : Nat) (f : Nat → Value) : Prop := (∀ b, Fb A N b → L ≤ b) ∧ Wr W A N ∧ Rd W A N f
theorem New.row {A1 : Option Addr} {N : Nat} {f : Nat → Value} (hn : New W0 W A1 N f) : NewRow W0.heap.size W A1 N f := ⟨fun b hb => by
  obtain ⟨_, a, e, hb⟩ := hb
  exact hb ▸ hn.ab a e, hn.wr, hn.rd⟩
theorem own_row {w : World} {B : Nat} {e : TypeId} {size n : Nat} {v : Value} {xs : List Value} (h : w.ownsRow B e size v n xs) : ∃ A c, v = .slice A n c ∧ NewRow B w A (n * size) (fun j => xs.getD j undef) := by
  rcases h.2 with ⟨rfl, rfl⟩ | ⟨g, cap, cur, rfl, hg, hh, hn, hc, hs, ht⟩
  · exact ⟨none, 0, rfl, fun b ⟨h0, _⟩ => absurd h0 (by omega), fun h0 => absurd h0 (by omega), fun h0 => absurd h0 (by omega)⟩
  · have hlt : g < w.heap.size := (Array.getElem?_eq_some_iff.1 hh).1
    have hc : ∀ j, j < n * size → w.cell? ⟨g, 0 + j, none⟩ = some (xs.getD j undef) := fun j hj => by
      rw [Nat.zero_add, h.cellAt j hj]
      simp [List.getD, List.getElem?_eq_getElem (show j < xs.length by rw [h.1]; exact hj)]
    exact ⟨_, cap, rfl, fun b ⟨_, a, e, hb⟩ => by injection e with e; subst e; exact hb ▸ hg, fun _ => ⟨g, 0, rfl, fun j hj => ⟨⟨_, hc j hj⟩, h.frozenAt _⟩⟩, fun _ => ⟨g, 0, rfl, hlt, hc⟩⟩
/-- All that has been built so far lies below L. -/
def AccLt (S L : Nat) (v : Value) (k : Nat) (As : Nat → Option Addr) (ns : Nat → Nat) : Prop := (∀ b, v.ownBlock = some b → b < L) ∧ ∀ j b, j < k → Fb (As j) (ns j * S) b → b < L
theorem AccSS.lt (h : AccSS S eo B w v k As ns cs z) : AccLt S w.heap.size v k As ns := ⟨fun b hb => (h.own.lt b hb).2, fun j b hj hb => (rd_obj _ _ _).2 w b (h.rd j hj) hb⟩
/-- The next row: it was made behind the others, then appended. -/
theorem AccSS.next {L : Nat} (hW : AccSS S eo B W v k As ns cs z) (hL : AccLt S L v k As ns) (hBL : B ≤ L) (hLW : L ≤ W.heap.size) {A1 : Option Addr} {c1 : Nat} (hn : NewRow L W A1 (ns k * S) (fun i => .int .i64 (z k i)))
    {w1 : World} {v' : Value} (h1 : Below W.heap.size W w1) (hown : w'.ownsRow B eo 1 v' (k + 1) (((List.range k).map fun j => .slice (As j) (ns j) (cs j)) ++ [.slice A1 (ns k) c1])) (hg : w1.grownBy w' v.ownBlock) (hat : v'.ownBlock = v.ownBlock ∨ v'.ownBlock = some w1.heap.size) :
    AccSS S eo B w' v' (k + 1) (upd As k A1) ns (upd cs k c1) z := by
  have hs1 := h1.size
  have lt0 : ∀ j b, j < k → Fb (As j) (ns j * S) b → b < L := hL.2
  have ge1 : ∀ b, Fb A1 (ns k * S) b → L ≤ b ∧ b < W.heap.size := fun b hb => ⟨hn.1 b hb, (rd_obj _ _ _).2 W b hn.2.2 hb⟩
  have hv : ∀ b, v.ownBlock = some b → b < L := hL.1
  have hv' : ∀ b, b < w1.heap.size → v.ownBlock ≠ some b → v'.ownBlock ≠ some b := fun b hb hne => by
    rcases hat with e | e
    · rw [e]; exact hne
    · rw [e]; intro e; injection e with e; omega
  have keep : ∀ b, b < w1.heap.size → v.ownBlock ≠ some b → w'.heap[b]? = w1.heap[b]? := fun b hb hne => hg.block b hb (fun e => hne e.symm)
  refine ⟨?_, fun j b hj hb => ?_, fun j hj => ?_, fun j hj => ?_, fun j b hj hb => ?_, fun i j b hij hj hb hb' => ?_⟩
  · rw [List.range_succ, List.map_append, List.map_cons, List.map_nil, upd_at, upd_at]
    have e : (List.range k).map (fun j => Value.slice (upd As k A1 j) (ns j) (upd cs k c1 j)) = (List.range k).map (fun j => Value.slice (As j) (ns j) (cs j)) :=
      List.map_congr_left fun j hj => by
        have : j ≠ k := by have := List.mem_range.1 hj; omega
        rw [upd_ne _ _ this, upd_ne _ _ this]
    rw [e]
    exact hown
  · by_cases hjk : j = k
    · subst hjk
      rw [upd_at] at hb
      have := ge1 b hb
      omega
    · rw [upd_ne _ _ hjk] at hb
      exact hW.ab j b (by omega) hb
  · by_cases hjk : j = k
    · subst hjk
      rw [upd_at]
      exact (wr_obj _ _).1 w1 w' (hn.2.1.below h1) fun b hb => keep b (by have := ge1 b hb; omega) (fun e => by have := hv b e; have := ge1 b hb; omega)
    · rw [upd_ne _ _ hjk]
      exact (wr_obj _ _).1 w1 w' ((hW.wr j (by omega)).below h1) fun b hb => keep b (by have := lt0 j b (by omega) hb; omega) (hW.out j b (by omega) hb)
  · by_cases hjk : j = k
    · subst hjk
      rw [upd_at]
      exact (rd_obj _ _ _).1 w1 w' (hn.2.2.below h1) fun b hb => keep b (by have := ge1 b hb; omega) (fun e => by have := hv b e; have := ge1 b hb; omega)
    · rw [upd_ne _ _ hjk]
      exact (rd_obj _ _ _).1 w1 w' ((hW.rd j (by omega)).below h1) fun b hb => keep b (by have := lt0 j b (by omega) hb; omega) (hW.out j b (by omega) hb)
  · by_cases hjk : j = k
    · subst hjk
      rw [upd_at] at hb
      exact hv' b (by have := ge1 b hb; omega) (fun e => by have := hv b e; have := ge1 b hb; omega)
    · rw [upd_ne _ _ hjk] at hb
      exact hv' b (by have := lt0 j b (by omega) hb; omega) (hW.out j b (by omega) hb)
  · have hik : i ≠ k := by omega
    rw [upd_ne _ _ hik] at hb
    by_cases hjk : j = k
    · subst hjk
      rw [upd_at] at hb'
      have := lt0 i b (by omega) hb
      have := ge1 b hb'
      omega
    · rw [upd_ne _ _ hjk] at hb'
      exact hW.dis i j b hij (by omega) hb hb'
end

/-- What an append onto v left: but for v's own row all that was there is as it was; the new value lies in v's row or in a new block. -/
def Gr (W w' : World) (v v' : Value) : Prop := Fr W w' (fun b => v.ownBlock = some b) ∧ (v'.ownBlock = v.ownBlock ∨ ∃ b, v'.ownBlock = some b ∧ W.heap.size ≤ b)
/-- 'out = append(out, row)': the row is new, out is the call's own. -/
theorem wpList_appSS' {P : Program} (L : Nat) (W : World) {ops : Array Oper} {rest : List Oper} {o : Oper} {a : Act} {Q : Exit → Act → World → Prop} (hgd : o.guard = none) (s x : Operand) (t : TypeId)
    (ho : o.op = .call { callee := .builtin .append, args := #[s, x], argTypes := #[t, t] })
    (B : Nat) (eo : TypeId) (i : TypeInfo) (zv : Value) (bytes : Nat) (ht : P.underlying t = some (.slice eo)) (hi : P.info? eo = some i) (hz : i.zero = some zv)
    (hsize : i.size = 1) (hby : i.bytes = bytes) (hzs : zv.cells.size = 1)
    (S : Nat) (v : Value) (k : Nat) (As : Nat → Option Addr) (ns cs : Nat → Nat) (z : Nat → Nat → Int) (hs : a.eval s = v) (hacc : AccSS S eo B W v k As ns cs z)
    (te : TypeId) (A1 : Option Addr) (n1 c1 c : Nat) (hn1 : n1 = ns k) (hL : AccLt S L v k As ns) (hn : NewRow L W A1 (ns k * S) (fun i => .int .i64 (z k i))) (hx : a.eval x = .slice (some ⟨W.heap.size, 0, none⟩) 1 c)
    (h63 : k + 1 ≤ maxLen) (hbytes : (k + 1) * bytes ≤ 140737488355328) (hbase : B ≤ L) (hLW : L ≤ W.heap.size)
    (h : ∀ v' w', AccSS S eo B w' v' (k + 1) (upd As k A1) ns (upd cs k c1) z → Below B W w' → Gr W w' v v' → wpList P ops Q rest (a.put o.dst v') w') :
    wpList P ops Q (o :: rest) a (W.alloc (.cells #[.slice A1 n1 c1] te)) := by
  subst hn1
  have hnb := heap_alloc_new W (.cells #[.slice A1 (ns k) c1] te)
  have hown := hacc.own.alloc (.cells #[.slice A1 (ns k) c1] te)
  refine wpList_append_own_at _ hgd s x t ho B eo i zv 1 bytes ht hi hz hsize hby hzs (by omega) v k _ hs hown ⟨W.heap.size, 0, none⟩ 1 c [.slice A1 (ns k) c1] hx rfl ?_ (by simp [Value.oneCell']) h63 hbytes (by simp; omega) ?_
  · intro j u hu
    rw [Addr.add_lit, cell_of_row _ _ _ _ _ _ hnb]
    simpa using hu
  · intro v' w' h2 h3 _ h5
    exact h v' w' (hacc.next hL hbase hLW hn ((Below.refl _ _).alloc (Nat.le_refl _) _) h2 h3 h5) (Below.own ((Below.refl _ _).alloc (by omega) _) h3 hown (by simp; omega))
      ⟨(Fr.of_below ((Below.refl _ _).alloc (Nat.le_refl _) _) _).trans ⟨h3.os, h3.tape, h3.output, h3.size, fun b hb hn => h3.block b hb fun e => hn e.symm⟩, h5.imp_right fun e => ⟨_, e, by simp⟩⟩
theorem wpList_appSS {P : Program} (W0 W : World) {ops : Array Oper} {rest : List Oper} {o : Oper} {a : Act} {Q : Exit → Act → World → Prop} (hgd : o.guard = none) (s x : Operand) (t : TypeId)
    (ho : o.op = .call { callee := .builtin .append, args := #[s, x], argTypes := #[t, t] })
    (B : Nat) (eo : TypeId) (i : TypeInfo) (zv : Value) (bytes : Nat) (ht : P.underlying t = some (.slice eo)) (hi : P.info? eo = some i) (hz : i.zero = some zv)
    (hsize : i.size = 1) (hby : i.bytes = bytes) (hzs : zv.cells.size = 1)
    (S : Nat) (v : Value) (k : Nat) (As : Nat → Option Addr) (ns cs : Nat → Nat) (z : Nat → Nat → Int) (hs : a.eval s = v) (hacc : AccSS S eo B W0 v k As ns cs z)
    (te : TypeId) (A1 : Option Addr) (n1 c1 c : Nat) (hn1 : n1 = ns k) (hn : New W0 W A1 (ns k * S) (fun i => .int .i64 (z k i))) (hx : a.eval x = .slice (some ⟨W.heap.size, 0, none⟩) 1 c)
    (h63 : k + 1 ≤ maxLen) (hbytes : (k + 1) * bytes ≤ 140737488355328) (hbase : B ≤ W0.heap.size)
    (h : ∀ v' w', AccSS S eo B w' v' (k + 1) (upd As k A1) ns (upd cs k c1) z → Below B W w' → Gr W w' v v' → wpList P ops Q rest (a.put o.dst v') w') :
    wpList P ops Q (o :: rest) a (W.alloc (.cells #[.slice A1 n1 c1] te)) :=
  wpList_appSS' W0.heap.size W hgd s x t ho B eo i zv bytes ht hi hz hsize hby hzs S v k As ns cs z hs (hacc.below hn.bl) te A1 n1 c1 c hn1 hacc.lt hn.row hx h63 hbytes hbase hn.bl.size h

/-- A function that hands back a new slice of n new rows, and a code. -/
def NewSSP2 (S : Nat) (w : World) (n : Nat) (ns : Nat → Nat) (z : Nat → Nat → Int) (code : Int) (e : Ending) (w' : World) : Prop :=
  ∃ A c As cs, e = .returned (.tuple #[.slice A n c, .int .i64 code]) ∧ NewO w w' (RdSS S A n As ns cs z) (WrSS S A n As ns cs) (FSS S A n As ns)
def NewSSP (S : Nat) (w : World) (n : Nat) (ns : Nat → Nat) (z : Nat → Nat → Int) (e : Ending) (w' : World) : Prop :=
  ∃ A c As cs, e = .returned (.slice A n c) ∧ NewO w w' (RdSS S A n As ns cs z) (WrSS S A n As ns cs) (FSS S A n As ns)
theorem NewSS.none_ {S : Nat} {w w' : World} {ns : Nat → Nat} {z : Nat → Nat → Int} (hb : Below w.heap.size w w') (As : Nat → Option Addr) (cs : Nat → Nat) :
    NewO w w' (RdSS S none 0 As ns cs z) (WrSS S none 0 As ns cs) (FSS S none 0 As ns) :=
  ⟨hb, fun b hb => by
    rcases hb with ⟨h, _⟩ | ⟨j, hj, _⟩
    · exact absurd h (by omega)
    · exact absurd hj (by omega), ⟨fun h => absurd h (by omega), fun j hj => absurd hj (by omega)⟩, ⟨fun h => absurd h (by omega), fun j hj => absurd hj (by omega), fun j b hj => absurd hj (by omega), fun i j b _ hj => absurd hj (by omega)⟩, rdSS_obj _ _ _ _ _ _ _, wrSS_obj _ _ _ _ _ _⟩
theorem AccSS.new {S : Nat} {eo : TypeId} {w w' : World} {v : Value} {k : Nat} {As : Nat → Option Addr} {ns cs : Nat → Nat} {z : Nat → Nat → Int} (h : AccSS S eo w.heap.size w' v k As ns cs z) (hb : Below w.heap.size w w') :
    ∃ A c, v = .slice A k c ∧ NewO w w' (RdSS S A k As ns cs z) (WrSS S A k As ns cs) (FSS S A k As ns) := by
  obtain ⟨A, c, rfl, hn⟩ := New.of_own hb h.own
  have hr : Rd w' A k (fun j => .slice (As j) (ns j) (cs j)) := by
    have := hn.rd
    rw [Nat.mul_one] at this
    exact this.congr fun j hj => by simp [List.getD, hj]
  refine ⟨A, c, rfl, hb, fun b hb => ?_, ⟨hr, h.rd⟩, ⟨hr, h.wr, fun j b hj hb hb' => h.out j b hj hb ?_, h.dis⟩, rdSS_obj _ _ _ _ _ _ _, wrSS_obj _ _ _ _ _ _⟩
  · rcases hb with ⟨_, a, e, hb⟩ | ⟨j, hj, hb⟩
    · exact hb ▸ hn.ab a e
    · exact h.ab j b hj hb
  · obtain ⟨_, a, e, hb'⟩ := hb'
    subst e
    simp [Value.ownBlock, hb']
end Go.Proofs.Ytacppheedleamaa
