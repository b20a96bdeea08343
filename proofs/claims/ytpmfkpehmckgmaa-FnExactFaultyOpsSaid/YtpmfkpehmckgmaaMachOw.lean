/- Walks: a machine is copied (l07Own), by the reference. No condition but the machine's bounds. (Printed by wip/owgen.py.) -/
import Derived.Test.YtpmfkpehmckgmaaMachM
import Derived.Test.YtpmfkpehmckgmaaRegLast
import Derived.Deep.CutRange
import Derived.Deep.RegionWith
namespace Go.Proofs.Ytpmfkpehmckgmaa
open Go.RowKit
set_option maxRecDepth 20000

/-- 'append(out, x...)' at a step of a region that draws its order: x reads as known cells; where the new value lies. -/
theorem step_appRb {P : Program} {o : Oper} {cond : Bool} {a : Act} {K : Act → World → Prop} {Q : Exit → Act → World → Prop} {E : Prop} (W : World) (hcond : cond = true) (s x : Operand) (t : TypeId)
    (ho : o.op = .call { callee := .builtin .append, args := #[s, x], argTypes := #[t, t] })
    (base : Nat) (e : TypeId) (i : TypeInfo) (z : Value) (size bytes : Nat) (ht : P.underlying t = some (.slice e)) (hi : P.info? e = some i) (hz : i.zero = some z)
    (hsize : i.size = size) (hby : i.bytes = bytes) (hzs : z.cells.size = size) (hsz : 0 < size)
    (v : Value) (n : Nat) (xs : List Value) (hs : a.eval s = v) (hown : W.ownsRow base e size v n xs)
    (g2 o2 m c : Nat) (f : Nat → Value) (hx : a.eval x = .slice (some ⟨g2, o2, none⟩) m c) (hrd : RowR W g2 o2 (m * size) f) (h1 : ∀ j, (f j).oneCell' = true)
    (h63 : n + m ≤ maxLen) (hbytes : (n + m) * bytes ≤ 140737488355328) (hbase : base ≤ W.heap.size)
    (h : ∀ v' w', w'.ownsRow base e size v' (n + m) (xs ++ (List.range (m * size)).map f) → Fr W w' (fun b => v.ownBlock = some b) → (v'.ownBlock = v.ownBlock ∨ v'.ownBlock = some W.heap.size) → K (a.put o.dst v') w') :
    if cond = true then Oper.wp P o a W K Q else E := by
  rw [if_pos hcond]
  obtain ⟨v', w', hr, h2, h3, _, h5⟩ := run_append_own_at (P := P) W base t o.type e i z size bytes ht hi hz hsize hby hzs hsz v n xs hown ⟨g2, o2, none⟩ m c ((List.range (m * size)).map f) (by simp) (by
    intro j u hu
    obtain ⟨hj, rfl⟩ : j < m * size ∧ f j = u := by
      by_cases hj : j < m * size
      · simp [hj] at hu; exact ⟨hj, hu⟩
      · rw [List.getElem?_eq_none (by simpa using hj)] at hu; cases hu
    rw [Addr.add_lit]
    exact hrd j hj) (fun u hu => by obtain ⟨j, _, rfl⟩ := List.mem_map.1 hu; exact h1 j) h63 hbytes hbase
  unfold Oper.wp execOp
  simp only [ho, resolve, invoke, builtin, Sem.run_bind, Sem.run_pure, Result.andThen_ok, List.map_toArray, List.map_cons, List.map_nil, hs, hx, hr]
  exact h v' w' h2 ⟨h3.os, h3.tape, h3.output, h3.size, fun b hb hne => h3.block b hb (fun e => hne e.symm)⟩ h5
theorem carV_one (s : Mst) (j : Nat) : (carV s j).oneCell' = true := by
  unfold carV
  split <;> rfl
abbrev carL (s : Mst) : List Value := (List.range (4 * 2)).map (carV s)
theorem infoCa : (Try.prog.info? 107).map (fun i => (i.zero, i.size, i.bytes)) = some (some (.agg #[.bool false, .int .i64 0]), 2, 16) := by kernel_rfl
/-- A bed under way: i lists, each with its mark. -/
structure BedU (B : Nat) (tg : Nat → Nat) (c : Nat) (o sz : Nat → Nat) (v : Value) (i : Nat) (xs : List Value) (w : World) : Prop where
  r : w.ownsRow B 41 1 v i xs
  l : ∀ j, j < i → LOwn w (xs.getD j undef) (sz j)
  t : TagV tg v c
  e : ∀ j, j < i → TagV tg (xs.getD j undef) (o j)
section
variable {B c i : Nat} {tg tg' o sz : Nat → Nat} {v : Value} {xs : List Value} {w w' : World}
theorem BedU.keep (h : BedU B tg c o sz v i xs w) (hc : c ≠ 0) (ho : ∀ j, o j ≠ 0) (hk : ∀ b, (tg b = c ∨ ∃ j, tg b = o j) → w'.heap[b]? = w.heap[b]?) (ht : ∀ b, tg b ≠ 0 → tg' b = tg b) : BedU B tg' c o sz v i xs w' :=
  ⟨own_blk h.r fun b hb => hk b (.inl (h.t b hb)), fun j hj => (h.l j hj).blk fun b hb => hk b (.inr ⟨j, h.e j hj b hb⟩), fun b hb => (ht b (by rw [h.t b hb]; exact hc)).trans (h.t b hb), fun j hj b hb => (ht b (by rw [h.e j hj b hb]; exact ho j)).trans (h.e j hj b hb)⟩
theorem BedU.step {u v' : Value} {w2 : World} (h : BedU B tg c o sz v i xs w) (ho : ∀ j, o j ≠ 0) (hown : w2.ownsRow B 41 1 v' (i + 1) (xs ++ [u])) (hv : ∀ b, v'.ownBlock = some b → w'.heap[b]? = w2.heap[b]?)
    (hu : LOwn w' u (sz i)) (hk : ∀ b, (∃ j, tg b = o j) → w'.heap[b]? = w.heap[b]?) (ht : ∀ b, tg b ≠ 0 → tg' b = tg b) (hv' : TagV tg' v' c) (hu' : TagV tg' u (o i)) : BedU B tg' c o sz v' (i + 1) (xs ++ [u]) w' := by
  have hl : xs.length = i := by have := h.r.1; omega
  refine ⟨own_blk hown hv, fun j hj => ?_, hv', fun j hj => ?_⟩
  · by_cases hji : j = i
    · subst hji
      rw [getD_new hl.symm]
      exact hu
    · rw [getD_old (by omega)]
      exact (h.l j (by omega)).blk fun b hb => hk b ⟨j, h.e j (by omega) b hb⟩
  · by_cases hji : j = i
    · subst hji
      rw [getD_new hl.symm]
      exact hu'
    · rw [getD_old (by omega)]
      exact fun b hb => (ht b (by rw [h.e j (by omega) b hb]; exact ho j)).trans (h.e j (by omega) b hb)
end
abbrev cellsO (s : Mst) (gc cc : Nat) (vF vK vL vD : Value) : Array Value := #[.int .i64 s.W, .int .i64 s.rk, vF, vK, .slice (some ⟨gc, 0, none⟩) 4 cc, vL, vD]
/-- A copy under way. -/
structure MO (B : Nat) (tg : Nat → Nat) (s : Mst) (g gc cc i k n : Nat) (vF vK vL vD : Value) (xs ys : List Value) (w : World) : Prop where
  m : Blk w g 69 (cellsO s gc cc vF vK vL vD)
  f : BedU B tg 2 (fun j => 8 + 2 * j) s.f vF i xs w
  k : BedU B tg 3 (fun j => 9 + 2 * j) s.k vK k ys w
  c : RowR w gc 0 8 (carV s)
  cw : RowW w gc 0 8
  l : IOwn tg w vL n
  d : DOwn w vD s.d
  tm : tg g = 1
  tc : tg gc = 4
  tL : TagV tg vL 5
  tD : TagV tg vD 6
  lt : ∀ b, tg b ≠ 0 → b < w.heap.size
  lo : ∀ b, tg b ≠ 0 → B ≤ b
section
variable {B g gc cc i k n : Nat} {tg : Nat → Nat} {s : Mst} {vF vK vL vD : Value} {xs ys : List Value} {w w' : World}
theorem MO.lists (h : MO B tg s g gc cc i k n vF vK vL vD xs ys w) : (∃ A c, vF = .slice A i c) ∧ (∃ A c, vK = .slice A k c) ∧ ∃ A c, vL = .slice A n c := by
  obtain ⟨zs, hz, _⟩ := h.l
  exact ⟨own_form h.f.r, own_form h.k.r, own_form hz⟩
/-- Blocks that are not its own may change. -/
theorem MO.keep (h : MO B tg s g gc cc i k n vF vK vL vD xs ys w) (hk : ∀ b, tg b ≠ 0 → w'.heap[b]? = w.heap[b]?) (hz : w.heap.size ≤ w'.heap.size) : MO B tg s g gc cc i k n vF vK vL vD xs ys w' :=
  ⟨(hk g (by rw [h.tm]; omega)).trans h.m, h.f.keep (by omega) (fun j => by omega) (fun b hb => hk b (by rcases hb with hb | ⟨j, hb⟩ <;> omega)) fun _ _ => rfl, h.k.keep (by omega) (fun j => by omega) (fun b hb => hk b (by rcases hb with hb | ⟨j, hb⟩ <;> omega)) fun _ _ => rfl,
    h.c.blk (hk gc (by rw [h.tc]; omega)), h.cw.blk (hk gc (by rw [h.tc]; omega)), h.l.blk (fun b hb => hk b (by rw [h.tL b hb]; omega)) (fun b hb => hk b (by omega)), h.d.blk (fun b hb => hk b (by rw [h.tD b hb]; omega)), h.tm, h.tc, h.tL, h.tD, fun b hb => Nat.lt_of_lt_of_le (h.lt b hb) hz, h.lo⟩
theorem MO.below (h : MO B tg s g gc cc i k n vF vK vL vD xs ys w) (hb : Below w.heap.size w w') : MO B tg s g gc cc i k n vF vK vL vD xs ys w' := h.keep (fun b ht => hb.block b (h.lt b ht)) hb.size
/-- Marks of a new list and of the row that it was put to. -/
def tag2 (tg : Nat → Nat) (u v : Value) (cu cv : Nat) : Nat → Nat := retag (retag tg u cu) v cv
theorem tag2_old {u v : Value} {cu cv : Nat} (hu : ∀ b, u.ownBlock = some b → tg b = 0) (hv : ∀ b, v.ownBlock = some b → tg b = 0 ∨ tg b = cv) (b : Nat) (hb : tg b ≠ 0) : tag2 tg u v cu cv b = tg b := by
  unfold tag2 retag
  by_cases h1 : v.ownBlock = some b
  · rw [if_pos h1]
    rcases hv b h1 with h | h
    · exact absurd h hb
    · exact h.symm
  · rw [if_neg h1, if_neg fun e => hb (hu b e)]
theorem tag2_v (tg : Nat → Nat) (u v : Value) (cu cv : Nat) : TagV (tag2 tg u v cu cv) v cv := retag_new _ _
theorem tag2_u {u v : Value} {cu cv : Nat} (hd : ∀ b, u.ownBlock = some b → v.ownBlock ≠ some b) : TagV (tag2 tg u v cu cv) u cu := fun b hb => by
  unfold tag2 retag
  rw [if_neg (hd b hb), if_pos hb]
theorem tag2_or {u v : Value} {cu cv b : Nat} (hb : tag2 tg u v cu cv b ≠ 0) : v.ownBlock = some b ∨ u.ownBlock = some b ∨ tg b ≠ 0 := by
  unfold tag2 retag at hb
  by_cases h1 : v.ownBlock = some b
  · exact .inl h1
  · by_cases h2 : u.ownBlock = some b
    · exact .inr (.inl h2)
    · rw [if_neg h1, if_neg h2] at hb
      exact .inr (.inr hb)
/-- What an append of a new list u (to the row vo, whose mark is c) leaves. -/
structure Grew (B : Nat) (tg : Nat → Nat) (w w2 : World) (u vo v' : Value) (c : Nat) : Prop where
  fr : Fr w w2 (fun b => vo.ownBlock = some b)
  at_ : v'.ownBlock = vo.ownBlock ∨ ∃ b, v'.ownBlock = some b ∧ w.heap.size ≤ b
  t : TagV tg vo c
  u0 : ∀ b, u.ownBlock = some b → tg b = 0 ∧ B ≤ b ∧ b < w.heap.size
  vlt : ∀ b, v'.ownBlock = some b → b < w2.heap.size
  vlo : B ≤ w.heap.size
  c0 : c ≠ 0
  lt : ∀ b, tg b ≠ 0 → b < w.heap.size
  lo : ∀ b, tg b ≠ 0 → B ≤ b
section
variable {w2 : World} {u vo v' : Value} {c cu : Nat}
theorem Grew.v0 (h : Grew B tg w w2 u vo v' c) : ∀ b, v'.ownBlock = some b → tg b = 0 ∨ tg b = c := fun b hb => by
  rcases h.at_ with e | ⟨b', e, hb'⟩
  · exact .inr (h.t b (e.symm.trans hb))
  · obtain rfl := Option.some.inj (hb.symm.trans e)
    exact .inl (Decidable.byContradiction fun hn => by have := h.lt b hn; omega)
theorem Grew.old (h : Grew B tg w w2 u vo v' c) (b : Nat) (hb : tg b ≠ 0) : tag2 tg u v' cu c b = tg b := tag2_old (fun b hb => (h.u0 b hb).1) h.v0 b hb
theorem Grew.uv (h : Grew B tg w w2 u vo v' c) (hc : c ≠ 0) : ∀ b, u.ownBlock = some b → v'.ownBlock ≠ some b := fun b hb e => by
  have h1 := h.u0 b hb
  rcases h.at_ with e' | ⟨b', e', hb'⟩
  · have := h.t b (e'.symm.trans e)
    omega
  · have := Option.some.inj (e.symm.trans e')
    omega
theorem Grew.keep (h : Grew B tg w w2 u vo v' c) (hg : tg g = 1) (k : Nat) (x : Value) {b : Nat} (hb : tg b ≠ 0) (h1 : tg b ≠ 1) (h2 : tg b ≠ c) : (w2.setCell ⟨g, k, none⟩ x).heap[b]? = w.heap[b]? :=
  (set_keep _ _ _ _ (by intro e; rw [show b = g from e] at h1; exact h1 hg)).trans (h.fr.block b (h.lt b hb) fun e => h2 (h.t b e))
theorem Grew.keepU (h : Grew B tg w w2 u vo v' c) (hg : tg g = 1) (hc : c ≠ 0) (k : Nat) (x : Value) : ∀ b, u.ownBlock = some b → (w2.setCell ⟨g, k, none⟩ x).heap[b]? = w.heap[b]? := fun b hb =>
  (set_keep _ _ _ _ (by intro e; have := (h.u0 b hb).1; rw [show b = g from e, hg] at this; omega)).trans (h.fr.block b (h.u0 b hb).2.2 fun e => by have h1 := h.t b e; rw [(h.u0 b hb).1] at h1; exact hc h1.symm)
theorem Grew.vg (h : Grew B tg w w2 u vo v' c) (hg : tg g = 1) (hc : c ≠ 1) (k : Nat) (x : Value) : ∀ b, v'.ownBlock = some b → (w2.setCell ⟨g, k, none⟩ x).heap[b]? = w2.heap[b]? := fun b hb =>
  set_keep _ _ _ _ (by intro e; have := h.v0 b hb; rw [show b = g from e, hg] at this; omega)
theorem Grew.blk (h : Grew B tg w w2 u vo v' c) (hg : tg g = 1) (hc : c ≠ 1) {t : TypeId} {cs : Array Value} (hb : Blk w g t cs) : Blk w2 g t cs := (h.fr.block g (h.lt g (by omega)) fun e => by have := h.t g e; omega).trans hb
theorem Grew.lt' (h : Grew B tg w w2 u vo v' c) (p : Addr) (x : Value) : ∀ b, tag2 tg u v' cu c b ≠ 0 → b < (w2.setCell p x).heap.size := fun b hb => by
  rw [set_size]
  rcases tag2_or hb with e | e | e
  · exact h.vlt b e
  · exact Nat.lt_of_lt_of_le (h.u0 b e).2.2 h.fr.size
  · exact Nat.lt_of_lt_of_le (h.lt b e) h.fr.size
theorem Grew.lo' (h : Grew B tg w w2 u vo v' c) : ∀ b, tag2 tg u v' cu c b ≠ 0 → B ≤ b := fun b hb => by
  rcases tag2_or hb with e | e | e
  · rcases h.at_ with e' | ⟨b', e', hb'⟩
    · exact h.lo b (by rw [h.t b (e'.symm.trans e)]; exact h.c0)
    · have := Option.some.inj (e.symm.trans e')
      have := h.vlo
      omega
  · exact (h.u0 b e).2.1
  · exact h.lo b e
end
theorem MO.stepF {w2 : World} {u v' : Value} (h : MO B tg s g gc cc i k n vF vK vL vD xs ys w) (gr : Grew B tg w w2 u vF v' 2) (hu : LOwn w u (s.f i)) (hown : w2.ownsRow B 41 1 v' (i + 1) (xs ++ [u])) :
    MO B (tag2 tg u v' (8 + 2 * i) 2) s g gc cc (i + 1) k n v' vK vL vD (xs ++ [u]) ys (w2.setCell ⟨g, 2, none⟩ v') := by
  have kp := fun {b : Nat} => gr.keep (b := b) h.tm 2 v'
  refine ⟨(gr.blk h.tm (by omega) h.m).set_ 2 v', h.f.step (fun j => by omega) hown (gr.vg h.tm (by omega) 2 v') (hu.blk (gr.keepU h.tm (by omega) 2 v')) (fun b ⟨j, hb⟩ => kp (by omega) (by omega) (by omega)) gr.old (tag2_v _ _ _ _ _) (tag2_u (gr.uv (by omega))),
    h.k.keep (by omega) (fun j => by omega) (fun b hb => by rcases hb with hb | ⟨j, hb⟩ <;> exact kp (by omega) (by omega) (by omega)) gr.old, h.c.blk (kp (by rw [h.tc]; omega) (by rw [h.tc]; omega) (by rw [h.tc]; omega)), h.cw.blk (kp (by rw [h.tc]; omega) (by rw [h.tc]; omega) (by rw [h.tc]; omega)),
    (h.l.blk (fun b hb => kp (by rw [h.tL b hb]; omega) (by rw [h.tL b hb]; omega) (by rw [h.tL b hb]; omega)) fun b hb => kp (by omega) (by omega) (by omega)).tags fun y hy b hb => (gr.old b (by rw [hy b hb]; omega)).trans (hy b hb),
    h.d.blk fun b hb => kp (by rw [h.tD b hb]; omega) (by rw [h.tD b hb]; omega) (by rw [h.tD b hb]; omega), (gr.old g (by rw [h.tm]; omega)).trans h.tm, (gr.old gc (by rw [h.tc]; omega)).trans h.tc, fun b hb => (gr.old b (by rw [h.tL b hb]; omega)).trans (h.tL b hb), fun b hb => (gr.old b (by rw [h.tD b hb]; omega)).trans (h.tD b hb), gr.lt' _ _, gr.lo'⟩
theorem MO.stepK {w2 : World} {u v' : Value} (h : MO B tg s g gc cc i k n vF vK vL vD xs ys w) (gr : Grew B tg w w2 u vK v' 3) (hu : LOwn w u (s.k k)) (hown : w2.ownsRow B 41 1 v' (k + 1) (ys ++ [u])) :
    MO B (tag2 tg u v' (9 + 2 * k) 3) s g gc cc i (k + 1) n vF v' vL vD xs (ys ++ [u]) (w2.setCell ⟨g, 3, none⟩ v') := by
  have kp := fun {b : Nat} => gr.keep (b := b) h.tm 3 v'
  refine ⟨(gr.blk h.tm (by omega) h.m).set_ 3 v', h.f.keep (by omega) (fun j => by omega) (fun b hb => by rcases hb with hb | ⟨j, hb⟩ <;> exact kp (by omega) (by omega) (by omega)) gr.old, h.k.step (fun j => by omega) hown (gr.vg h.tm (by omega) 3 v') (hu.blk (gr.keepU h.tm (by omega) 3 v')) (fun b ⟨j, hb⟩ => kp (by omega) (by omega) (by omega)) gr.old (tag2_v _ _ _ _ _) (tag2_u (gr.uv (by omega))),
    h.c.blk (kp (by rw [h.tc]; omega) (by rw [h.tc]; omega) (by rw [h.tc]; omega)), h.cw.blk (kp (by rw [h.tc]; omega) (by rw [h.tc]; omega) (by rw [h.tc]; omega)),
    (h.l.blk (fun b hb => kp (by rw [h.tL b hb]; omega) (by rw [h.tL b hb]; omega) (by rw [h.tL b hb]; omega)) fun b hb => kp (by omega) (by omega) (by omega)).tags fun y hy b hb => (gr.old b (by rw [hy b hb]; omega)).trans (hy b hb),
    h.d.blk fun b hb => kp (by rw [h.tD b hb]; omega) (by rw [h.tD b hb]; omega) (by rw [h.tD b hb]; omega), (gr.old g (by rw [h.tm]; omega)).trans h.tm, (gr.old gc (by rw [h.tc]; omega)).trans h.tc, fun b hb => (gr.old b (by rw [h.tL b hb]; omega)).trans (h.tL b hb), fun b hb => (gr.old b (by rw [h.tD b hb]; omega)).trans (h.tD b hb), gr.lt' _ _, gr.lo'⟩
theorem MO.stepL {w2 : World} {u v' : Value} {q : Nat} {a0 a1 a2 a3 a4 : Int} {zs : List Value} (h : MO B tg s g gc cc i k n vF vK vL vD xs ys w) (gr : Grew B tg w w2 u vL v' 5) (hq : q ≤ 1048576) (hu : LOwn w u q)
    (hz : zs.length = n * 6) (hp : ∀ i, i < n → ∃ (z : Nat → Int) (u : Value) (k : Nat), (∀ t, t < 5 → zs[i * 6 + t]? = some (.int .i64 (z t))) ∧ zs[i * 6 + 5]? = some u ∧ k ≤ 1048576 ∧ LOwn w u k ∧ TagV tg u 7)
    (hown : w2.ownsRow 0 122 6 v' (n + 1) (zs ++ [.int .i64 a0, .int .i64 a1, .int .i64 a2, .int .i64 a3, .int .i64 a4, u])) :
    MO B (tag2 tg u v' 7 5) s g gc cc i k (n + 1) vF vK v' vD xs ys (w2.setCell ⟨g, 5, none⟩ v') := by
  have kp := fun {b : Nat} => gr.keep (b := b) h.tm 5 v'
  obtain ⟨A', c', rfl⟩ := own_form hown
  have hl : IOwn (tag2 tg u (.slice A' (n + 1) c') 7 5) (w2.setCell ⟨g, 5, none⟩ (.slice A' (n + 1) c')) (.slice A' (n + 1) c') (n + 1) :=
    IOwn.more (w := w2.setCell ⟨g, 5, none⟩ (.slice A' (n + 1) c')) (own_blk hown (gr.vg h.tm (by omega) 5 _)) hz (fun j hj => by
      obtain ⟨z, y, r, h0, h1, h2, h3, h4⟩ := hp j hj
      exact ⟨z, y, r, h0, h1, h2, h3.blk fun b hb => kp (by rw [h4 b hb]; omega) (by rw [h4 b hb]; omega) (by rw [h4 b hb]; omega), fun b hb => (gr.old b (by rw [h4 b hb]; omega)).trans (h4 b hb)⟩) (five_ints _ _ _ _ _ _) (by rfl) hq (hu.blk (gr.keepU h.tm (by omega) 5 _)) (tag2_u (gr.uv (by omega))) fun _ _ => rfl
  refine ⟨(gr.blk h.tm (by omega) h.m).set_ 5 _, h.f.keep (by omega) (fun j => by omega) (fun b hb => by rcases hb with hb | ⟨j, hb⟩ <;> exact kp (by omega) (by omega) (by omega)) gr.old, h.k.keep (by omega) (fun j => by omega) (fun b hb => by rcases hb with hb | ⟨j, hb⟩ <;> exact kp (by omega) (by omega) (by omega)) gr.old,
    h.c.blk (kp (by rw [h.tc]; omega) (by rw [h.tc]; omega) (by rw [h.tc]; omega)), h.cw.blk (kp (by rw [h.tc]; omega) (by rw [h.tc]; omega) (by rw [h.tc]; omega)), hl,
    h.d.blk fun b hb => kp (by rw [h.tD b hb]; omega) (by rw [h.tD b hb]; omega) (by rw [h.tD b hb]; omega), (gr.old g (by rw [h.tm]; omega)).trans h.tm, (gr.old gc (by rw [h.tc]; omega)).trans h.tc, tag2_v _ _ _ _ _, fun b hb => (gr.old b (by rw [h.tD b hb]; omega)).trans (h.tD b hb), gr.lt' _ _, gr.lo'⟩
theorem MO.mem (h : MO B tg s g gc cc s.W s.W s.n vF vK vL vD xs ys w) (hW : 1 ≤ s.W) : MakesM B (.agg (cellsO s gc cc vF vK vL vD)) s w := by
  obtain ⟨gf, cf, rfl⟩ : ∃ gf cf, vF = .slice (some ⟨gf, 0, none⟩) s.W cf := by
    rcases h.f.r.2 with ⟨_, h0⟩ | ⟨q, cap, _, e, _⟩
    · omega
    · exact ⟨q, cap, e⟩
  obtain ⟨gk, ck, rfl⟩ : ∃ gf cf, vK = .slice (some ⟨gf, 0, none⟩) s.W cf := by
    rcases h.k.r.2 with ⟨_, h0⟩ | ⟨q, cap, _, e, _⟩
    · omega
    · exact ⟨q, cap, e⟩
  have rw1 : ∀ {q c : Nat} {zs : List Value}, w.ownsRow B 41 1 (.slice (some ⟨q, 0, none⟩) s.W c) s.W zs → RowR w q 0 s.W (fun j => zs.getD j undef) ∧ RowW w q 0 s.W := fun {q c zs} ho => by
    have hl := ho.1
    refine ⟨fun j hj => ?_, by have := RowW.of_own ho; rwa [Nat.mul_one] at this⟩
    rw [Nat.zero_add, ho.cellAt j (by omega)]
    simp [List.getD, List.getElem?_eq_getElem (show j < zs.length by omega)]
  have hm : Mem tg ⟨g, gf, cf, gk, ck, gc, cc, fun j => xs.getD j undef, fun j => ys.getD j undef, vL, vD⟩ s w :=
    ⟨h.m, (rw1 h.f.r).1, (rw1 h.f.r).2, (rw1 h.k.r).1, (rw1 h.k.r).2, h.c, h.cw, h.f.l, h.k.l, h.l, h.d, h.tm, h.f.t _ rfl, h.k.t _ rfl, h.tc, h.tL, h.tD, h.f.e, h.k.e, h.lt⟩
  exact hm.makes h.lo
end
/-- Behind the struct's literal. -/
def OwCut (W0 : World) (s : Mst) (q : Nat) (s3 : Value) (wx : World) : Prop :=
  ∃ (g : Nat) (AC : Option Addr) (cC : Nat) (AP : Option Addr) (cP : Nat), s3 = .pointer (some ⟨g, 0, none⟩) ∧ Blk wx g 69 #[.int .i64 s.W, .int .i64 s.rk, .slice none 0 0, .slice none 0 0, .slice AC 4 cC, .slice none 0 0, .slice AP q cP] ∧ wx.ownsRow W0.heap.size 107 2 (.slice AC 4 cC) 4 (carL s) ∧ LOwn wx (.slice AP q cP) q ∧ W0.heap.size ≤ g ∧ (∀ b, (Value.slice AC 4 cC).ownBlock = some b → b ≠ g) ∧ (∀ b, (Value.slice AP q cP).ownBlock = some b → W0.heap.size ≤ b ∧ b ≠ g ∧ ∀ c, (Value.slice AC 4 cC).ownBlock = some c → b ≠ c) ∧ Below W0.heap.size W0 wx
theorem OwCut.start {W0 wx : World} {s : Mst} {q : Nat} {s3 : Value} (h : OwCut W0 s q s3 wx) (hq : q ≤ s.d) : ∃ g gc cc tg vD, s3 = .pointer (some ⟨g, 0, none⟩) ∧ MO W0.heap.size tg s g gc cc 0 0 0 (.slice none 0 0) (.slice none 0 0) (.slice none 0 0) vD [] [] wx ∧ Below W0.heap.size W0 wx := by
  obtain ⟨g, AC, cC, AP, cP, rfl, hm, hc, hd, hg, hnc, hnd, hb⟩ := h
  obtain ⟨gc, rfl, hgc⟩ : ∃ gc, AC = some ⟨gc, 0, none⟩ ∧ W0.heap.size ≤ gc := by
    rcases hc.2 with ⟨_, h0⟩ | ⟨y, cap, _, e, hy, _⟩
    · omega
    · injection e with e1 e2 e3
      exact ⟨y, e1, hy⟩
  have hcg : gc ≠ g := hnc gc rfl
  have hgc1 : gc < wx.heap.size := (hc.lt gc rfl).2
  have hrow : RowR wx gc 0 8 (carV s) := fun j hj => by
    rw [Nat.zero_add, hc.cellAt j (by omega)]
    simp [carL, List.getElem?_range hj]
  refine ⟨g, gc, cC, fun b => if b = g then 1 else if b = gc then 4 else if (Value.slice AP q cP).ownBlock = some b then 6 else 0, .slice AP q cP, rfl, ⟨hm, ⟨World.ownsRow_nil _ _ _ _, fun j hj => absurd hj (Nat.not_lt_zero _), fun b hb => (by cases hb), fun j hj => absurd hj (Nat.not_lt_zero _)⟩, ⟨World.ownsRow_nil _ _ _ _, fun j hj => absurd hj (Nat.not_lt_zero _), fun b hb => (by cases hb), fun j hj => absurd hj (Nat.not_lt_zero _)⟩, hrow, RowW.of_own hc,
    ⟨[], World.ownsRow_nil _ _ _ _, fun i hi => absurd hi (Nat.not_lt_zero _)⟩, ⟨q, hq, hd⟩, if_pos rfl, ?_, fun b hb => (by cases hb), fun b hb => ?_, fun b hb => ?_, fun b hb => ?_⟩, hb⟩
  · show (if gc = g then 1 else if gc = gc then 4 else _) = 4
    rw [if_neg hcg, if_pos rfl]
  · have h1 := hnd b hb
    show (if b = g then 1 else if b = gc then 4 else if _ = some b then 6 else 0) = 6
    rw [if_neg h1.2.1, if_neg (h1.2.2 gc rfl), if_pos hb]
  · by_cases h1 : b = g
    · subst h1; exact hm.lt
    · by_cases h2 : b = gc
      · subst h2; exact hgc1
      · by_cases h3 : (Value.slice AP q cP).ownBlock = some b
        · exact hd.lt b h3
        · exact absurd (show (if b = g then 1 else if b = gc then 4 else if (Value.slice AP q cP).ownBlock = some b then 6 else 0) = 0 by rw [if_neg h1, if_neg h2, if_neg h3]) hb
  · by_cases h1 : b = g
    · omega
    · by_cases h2 : b = gc
      · omega
      · by_cases h3 : (Value.slice AP q cP).ownBlock = some b
        · exact (hnd b h3).1
        · exact absurd (show (if b = g then 1 else if b = gc then 4 else if (Value.slice AP q cP).ownBlock = some b then 6 else 0) = 0 by rw [if_neg h1, if_neg h2, if_neg h3]) hb
section
variable {tg : Nat → Nat} {a : MAdr} {s : Mst} {D : Nat} {w : World}
set_option maxHeartbeats 8000000 in
theorem l07Own_any (H : Mem tg a s w) (hs : MOk s D) (hD : D ≤ 1000000) : Calls Try.prog 66 #[.pointer (some ⟨a.g, 0, none⟩)] w (NewMP w s) := by
  obtain ⟨i0, hi, iz, is, ib⟩ := info_parts infoLL
  obtain ⟨ic, hic, icz, ics, icb⟩ := info_parts infoCa
  obtain ⟨j0, hj, jz, js, jb⟩ := info_parts infoI
  have hfb := hs.fb
  have hkb := hs.kb
  have hnb := hs.nb
  have hdb := hs.db
  have hW1 := hs.w1
  have hW2 := hs.w2
  obtain ⟨W0, hW0⟩ : ∃ x, x = w.alloc (.cells zeroM 69) := ⟨_, rfl⟩
  have HB0 : Hid (Below w.heap.size w W0) := Lib.hid (hW0 ▸ (Below.refl _ _).alloc (Nat.le_refl _) _)
  have HRES : Hid (Blk W0 w.heap.size 69 zeroM) := Lib.hid (hW0 ▸ Blk.at_ _ _ _ rfl)
  have HS0 : Hid (W0.heap.size = w.heap.size + 1) := Lib.hid (by rw [hW0]; simp)
  have HW0 := Lib.hid hW0
  have H0 := H.below HB0.out
  obtain ⟨q, hqd, hq⟩ := H0.d
  obtain ⟨AD, cD, hAD⟩ := hq.form
  rw [hAD] at hq
  have m0 : W0.cell? ⟨a.g, 0, none⟩ = some (.int .i64 s.W) := H0.m.cell 0
  have m1 : W0.cell? ⟨a.g, 1, none⟩ = some (.int .i64 s.rk) := H0.m.cell 1
  have m4 : W0.cell? ⟨a.g, 4, none⟩ = some (.slice (some ⟨a.gc, 0, none⟩) 4 a.cc) := H0.m.cell 4
  have m6 : W0.cell? ⟨a.g, 6, none⟩ = some (.slice AD q cD) := (H0.m.cell 6).trans (by rw [← hAD]; rfl)
  have M0 := Lib.hid m0
  have M1 := Lib.hid m1
  have M4 := Lib.hid m4
  have M6 := Lib.hid m6
  have HLG : Hid (a.g < W0.heap.size) := Lib.hid (H0.lt a.g (by rw [H0.tm]; omega))
  have HLC : Hid (a.gc < W0.heap.size) := Lib.hid (H0.lt a.gc (by rw [H0.tc]; omega))
  have HCR := Lib.hid H0.c
  have HQ := Lib.hid hq
  have HH := Lib.hid H0
  obtain ⟨W, hW⟩ : ∃ x, x = W0.drew := ⟨_, rfl⟩
  have HB_W : Hid (Below W0.heap.size W0 W) := Lib.hid (hW ▸ (Below.refl _ _).drew)
  have hq106 : q ≤ 1048576 := by omega
  clear H H0 hW0 hq hs hAD
  go_enter Try.func66, Try.ntmps66
  go_upto_region 1 with (fail)
  unfold zeroM at HW0
  rw [← HW0.out]
  go_cut [3] from 7 to 26 (OwCut W0 s q)
  case first =>
    refine wp_region_lastL (S := fun w' => w'.cell? ⟨a.g, 0, none⟩ = some (.int .i64 s.W) ∧ w'.cell? ⟨a.g, 1, none⟩ = some (.int .i64 s.rk) ∧ w'.cell? ⟨a.g, 4, none⟩ = some (.slice (some ⟨a.gc, 0, none⟩) 4 a.cc) ∧ w'.cell? ⟨a.g, 6, none⟩ = some (.slice AD q cD)) _ (by simp) (by kernel_rfl) (by kernel_rfl) ⟨m0, m1, m4, m6⟩ (fun hHeld_W => ?_)
    simp only [List.dropLast, List.getLast_cons_cons, List.getLast_singleton, List.length_cons, List.length_nil]
    rw [← hW]
    rw [← hW] at hHeld_W
    have m0_W : W.cell? ⟨a.g, 0, none⟩ = some (.int .i64 s.W) := hW ▸ m0
    have m1_W : W.cell? ⟨a.g, 1, none⟩ = some (.int .i64 s.rk) := hW ▸ m1
    have m4_W : W.cell? ⟨a.g, 4, none⟩ = some (.slice (some ⟨a.gc, 0, none⟩) 4 a.cc) := hW ▸ m4
    have m6_W : W.cell? ⟨a.g, 6, none⟩ = some (.slice AD q cD) := hW ▸ m6
    clear m0 m1 m4 m6 hW
    refine wpAnyH_take (i := 0) (v := ?_) rfl (by kernel_rfl) (by kernel_rfl) (by kernel_rfl) (fun _ _ _ h => h) (Or.inl ⟨by rfl, ?_⟩) hHeld_W ?_
    rotate_left
    · (intro w0 hSw; (try dsimp only at hSw); go_simp <;> with_reducible rfl)
    simp only [List.getElem_toArray, List.getElem_cons_succ, List.getElem_cons_zero, Act.put, List.setIfInBounds_toArray, List.set_cons_zero, List.set_cons_succ]
    refine wpAnyH_take (i := 1) (v := ?_) rfl (by kernel_rfl) (by kernel_rfl) (by kernel_rfl) (fun _ _ _ h => h) (Or.inl ⟨by rfl, ?_⟩) hHeld_W ?_
    rotate_left
    · (intro w0 hSw; (try dsimp only at hSw); go_simp <;> with_reducible rfl)
    simp only [List.getElem_toArray, List.getElem_cons_succ, List.getElem_cons_zero, Act.put, List.setIfInBounds_toArray, List.set_cons_zero, List.set_cons_succ]
    refine wpAnyH_take (i := 2) (v := ?_) rfl (by kernel_rfl) (by kernel_rfl) (by kernel_rfl) (fun _ _ _ h => h) (Or.inl ⟨by rfl, ?_⟩) hHeld_W ?_
    rotate_left
    · (intro w0 hSw; (try dsimp only at hSw); go_simp <;> with_reducible rfl)
    simp only [List.getElem_toArray, List.getElem_cons_succ, List.getElem_cons_zero, Act.put, List.setIfInBounds_toArray, List.set_cons_zero, List.set_cons_succ]
    refine wpAnyH_take (i := 3) (v := ?_) rfl (by kernel_rfl) (by kernel_rfl) (by kernel_rfl) (fun _ _ _ h => h) (Or.inl ⟨by rfl, ?_⟩) hHeld_W ?_
    rotate_left
    · (intro w0 hSw; (try dsimp only at hSw); go_simp <;> with_reducible rfl)
    simp only [List.getElem_toArray, List.getElem_cons_succ, List.getElem_cons_zero, Act.put, List.setIfInBounds_toArray, List.set_cons_zero, List.set_cons_succ]
    refine wpAnyH_take (i := 4) (v := ?_) rfl (by kernel_rfl) (by kernel_rfl) (by kernel_rfl) (fun _ _ _ h => h) (Or.inl ⟨by rfl, ?_⟩) hHeld_W ?_
    rotate_left
    · (intro w0 hSw; (try dsimp only at hSw); go_simp <;> with_reducible rfl)
    simp only [List.getElem_toArray, List.getElem_cons_succ, List.getElem_cons_zero, Act.put, List.setIfInBounds_toArray, List.set_cons_zero, List.set_cons_succ]
    refine wpAnyH_take (i := 5) (v := ?_) rfl (by kernel_rfl) (by kernel_rfl) (by kernel_rfl) (fun _ _ _ h => h) (Or.inl ⟨by rfl, ?_⟩) hHeld_W ?_
    rotate_left
    · (intro w0 hSw; (try dsimp only at hSw); go_simp <;> with_reducible rfl)
    simp only [List.getElem_toArray, List.getElem_cons_succ, List.getElem_cons_zero, Act.put, List.setIfInBounds_toArray, List.set_cons_zero, List.set_cons_succ]
    refine wpAnyH_take (i := 6) (v := ?_) rfl (by kernel_rfl) (by kernel_rfl) (by kernel_rfl) (fun _ _ _ h => h) (Or.inl ⟨by rfl, ?_⟩) hHeld_W ?_
    rotate_left
    · (intro w0 hSw; (try dsimp only at hSw); go_simp <;> with_reducible rfl)
    simp only [List.getElem_toArray, List.getElem_cons_succ, List.getElem_cons_zero, Act.put, List.setIfInBounds_toArray, List.set_cons_zero, List.set_cons_succ]
    refine wpAnyH_take (i := 7) (v := ?_) rfl (by kernel_rfl) (by kernel_rfl) (by kernel_rfl) (fun _ _ _ h => h) (Or.inl ⟨by rfl, ?_⟩) hHeld_W ?_
    rotate_left
    · (intro w0 hSw; (try dsimp only at hSw); go_simp <;> with_reducible rfl)
    simp only [List.getElem_toArray, List.getElem_cons_succ, List.getElem_cons_zero, Act.put, List.setIfInBounds_toArray, List.set_cons_zero, List.set_cons_succ]
    refine wpAnyH_take (i := 9) (v := ?_) rfl (by kernel_rfl) (by kernel_rfl) (by kernel_rfl) (fun _ _ _ h => h) (Or.inl ⟨by rfl, ?_⟩) hHeld_W ?_
    rotate_left
    · (intro w0 hSw; (try dsimp only at hSw); go_simp <;> with_reducible rfl)
    simp only [List.getElem_toArray, List.getElem_cons_succ, List.getElem_cons_zero, Act.put, List.setIfInBounds_toArray, List.set_cons_zero, List.set_cons_succ]
    refine wpAnyH_take (i := 10) (v := ?_) rfl (by kernel_rfl) (by kernel_rfl) (by kernel_rfl) (fun _ _ _ h => h) (Or.inl ⟨by rfl, ?_⟩) hHeld_W ?_
    rotate_left
    · (intro w0 hSw; (try dsimp only at hSw); go_simp <;> with_reducible rfl)
    simp only [List.getElem_toArray, List.getElem_cons_succ, List.getElem_cons_zero, Act.put, List.setIfInBounds_toArray, List.set_cons_zero, List.set_cons_succ]
    refine wpAnyH_take (i := 11) (v := ?_) rfl (by kernel_rfl) (by kernel_rfl) (by kernel_rfl) (fun _ _ _ h => h) (Or.inl ⟨by rfl, ?_⟩) hHeld_W ?_
    rotate_left
    · (intro w0 hSw; (try dsimp only at hSw); go_simp <;> with_reducible rfl)
    simp only [List.getElem_toArray, List.getElem_cons_succ, List.getElem_cons_zero, Act.put, List.setIfInBounds_toArray, List.set_cons_zero, List.set_cons_succ]
    refine wpAnyH_take (i := 12) (v := ?_) rfl (by kernel_rfl) (by kernel_rfl) (by kernel_rfl) (fun _ _ _ h => h) (Or.inl ⟨by rfl, ?_⟩) hHeld_W ?_
    rotate_left
    · (intro w0 hSw; (try dsimp only at hSw); go_simp <;> with_reducible rfl)
    simp only [List.getElem_toArray, List.getElem_cons_succ, List.getElem_cons_zero, Act.put, List.setIfInBounds_toArray, List.set_cons_zero, List.set_cons_succ]
    refine wpAnyH_take (i := 14) (v := ?_) rfl (by kernel_rfl) (by kernel_rfl) (by kernel_rfl) (fun _ _ _ h => h) (Or.inl ⟨by rfl, ?_⟩) hHeld_W ?_
    rotate_left
    · (intro w0 hSw; (try dsimp only at hSw); go_simp <;> with_reducible rfl)
    simp only [List.getElem_toArray, List.getElem_cons_succ, List.getElem_cons_zero, Act.put, List.setIfInBounds_toArray, List.set_cons_zero, List.set_cons_succ]
    refine wpAnyH_take (i := 15) (v := ?_) rfl (by kernel_rfl) (by kernel_rfl) (by kernel_rfl) (fun _ _ _ h => h) (Or.inl ⟨by rfl, ?_⟩) hHeld_W ?_
    rotate_left
    · (intro w0 hSw; (try dsimp only at hSw); go_simp <;> with_reducible rfl)
    simp only [List.getElem_toArray, List.getElem_cons_succ, List.getElem_cons_zero, Act.put, List.setIfInBounds_toArray, List.set_cons_zero, List.set_cons_succ]
    refine wpAnyH_take (i := 16) (v := ?_) rfl (by kernel_rfl) (by kernel_rfl) (by kernel_rfl) (fun _ _ _ h => h) (Or.inl ⟨by rfl, ?_⟩) hHeld_W ?_
    rotate_left
    · (intro w0 hSw; (try dsimp only at hSw); go_simp <;> with_reducible rfl)
    simp only [List.getElem_toArray, List.getElem_cons_succ, List.getElem_cons_zero, Act.put, List.setIfInBounds_toArray, List.set_cons_zero, List.set_cons_succ]
    refine wpAnyH_take (i := 17) (v := ?_) rfl (by kernel_rfl) (by kernel_rfl) (by kernel_rfl) (fun _ _ _ h => h) (Or.inl ⟨by rfl, ?_⟩) hHeld_W ?_
    rotate_left
    · (intro w0 hSw; (try dsimp only at hSw); go_simp <;> with_reducible rfl)
    simp only [List.getElem_toArray, List.getElem_cons_succ, List.getElem_cons_zero, Act.put, List.setIfInBounds_toArray, List.set_cons_zero, List.set_cons_succ]
    refine wpAnyH_ready (rs := [8, 20]) (by kernel_rfl) (by simp) ?_
    refine AllReadyH.cons rfl (fun K hK => ?_) (AllReadyH.cons rfl (fun K hK => ?_) AllReadyH.nil)
    · simp only [List.getElem_toArray, List.getElem_cons_succ, List.getElem_cons_zero]
      go_simp
      obtain ⟨v1, hN⟩ : ∃ x, x = W.alloc (.cells #[] 107) := ⟨_, rfl⟩
      rw [← hN]
      have hbN : Below W.heap.size W v1 := hN ▸ (Below.refl _ _).alloc (Nat.le_refl _) _
      have HB_v1 : Hid (Below W0.heap.size W0 v1) := Lib.hid (HB_W.out.trans (hbN.mono HB_W.out.size))
      have m0_v1 := ((bcell HB_v1.out).1 a.g 0 HLG.out).trans M0.out
      have m1_v1 := ((bcell HB_v1.out).1 a.g 1 HLG.out).trans M1.out
      have m4_v1 := ((bcell HB_v1.out).1 a.g 4 HLG.out).trans M4.out
      have m6_v1 := ((bcell HB_v1.out).1 a.g 6 HLG.out).trans M6.out
      clear m0_W m1_W m4_W m6_W
      have HC_v1 : Hid (v1.ownsRow W0.heap.size 107 2 (.slice (some ⟨W.heap.size, 0, none⟩) 0 0) 0 []) := Lib.hid (hN ▸ own_base (World.ownsRow_made (e := 107) (size := 2) W #[] 0 (Nat.le_refl _) (by unfold maxLen; omega) rfl) HB_W.out.size)
      have HL8 : Hid (W.heap.size < v1.heap.size) := Lib.hid (by rw [hN]; simp)
      have HB8 := Lib.hid HB_W.out.size
      clear hbN hN
      refine hK.out _ _ ⟨m0_v1, m1_v1, m4_v1, m6_v1⟩ (fun hHeld_v1 => ?_)
      clear hK K hHeld_W
      refine wpAnyH_ready (rs := [13, 20]) (by kernel_rfl) (by simp) ?_
      refine AllReadyH.cons rfl (fun K hK => ?_) (AllReadyH.cons rfl (fun K hK => ?_) AllReadyH.nil)
      · simp only [List.getElem_toArray, List.getElem_cons_succ, List.getElem_cons_zero]
        refine step_appRb v1 (by rfl) (.tmp 15) (.tmp 19) _ (by rfl) W0.heap.size 107 ic _ 2 16 Try.underlying66 hic icz ics icb rfl (by omega) (.slice (some ⟨W.heap.size, 0, none⟩) 0 0) 0 [] (by rfl) HC_v1.out a.gc 0 4 a.cc (carV s) (by rfl) ((HCR.out).blk (HB_v1.out.block _ HLC.out)) (carV_one s) (by unfold maxLen; omega) (by omega) HB_v1.out.size ?_
        intro vN v2 hownN hfrN hatN
        obtain ⟨AC, cC, rfl⟩ := own_form hownN
        have hbN : Below W0.heap.size v1 v2 := hfrN.below HB_v1.out.size fun b hb => by obtain rfl : W.heap.size = b := Option.some.inj hb; exact HB8.out
        have HB_v2 : Hid (Below W0.heap.size W0 v2) := Lib.hid (HB_v1.out.trans hbN)
        have m0_v2 := ((bcell HB_v2.out).1 a.g 0 HLG.out).trans M0.out
        have m1_v2 := ((bcell HB_v2.out).1 a.g 1 HLG.out).trans M1.out
        have m4_v2 := ((bcell HB_v2.out).1 a.g 4 HLG.out).trans M4.out
        have m6_v2 := ((bcell HB_v2.out).1 a.g 6 HLG.out).trans M6.out
        clear m0_v1 m1_v1 m4_v1 m6_v1
        have HC_v2 : Hid (v2.ownsRow W0.heap.size 107 2 (.slice AC 4 cC) 4 (carL s)) := Lib.hid hownN
        have HAT : Hid ((Value.slice AC (0 + 4) cC).ownBlock = some W.heap.size ∨ (Value.slice AC (0 + 4) cC).ownBlock = some v1.heap.size) := Lib.hid hatN
        clear hownN hfrN hatN hbN
        refine hK.out _ _ ⟨m0_v2, m1_v2, m4_v2, m6_v2⟩ (fun hHeld_v2 => ?_)
        clear hK K hHeld_v1
        refine wpAnyH_ready (rs := [18, 20]) (by kernel_rfl) (by simp) ?_
        refine AllReadyH.cons rfl (fun K hK => ?_) (AllReadyH.cons rfl (fun K hK => ?_) AllReadyH.nil)
        · simp only [List.getElem_toArray, List.getElem_cons_succ, List.getElem_cons_zero]
          go_simp
          refine (l00Own_any _ q v2 (HQ.out.blk fun b hb => HB_v2.out.block b (HQ.out.lt b hb)) (by omega)).mono ?_
          rintro e v3 ⟨vp, rfl, hlp, hnp, hbN⟩
          obtain ⟨AP, cP, rfl⟩ := hlp.form
          have HB_v3 : Hid (Below W0.heap.size W0 v3) := Lib.hid (HB_v2.out.trans (hbN.mono HB_v2.out.size))
          have m0_v3 := ((bcell HB_v3.out).1 a.g 0 HLG.out).trans M0.out
          have m1_v3 := ((bcell HB_v3.out).1 a.g 1 HLG.out).trans M1.out
          have m4_v3 := ((bcell HB_v3.out).1 a.g 4 HLG.out).trans M4.out
          have m6_v3 := ((bcell HB_v3.out).1 a.g 6 HLG.out).trans M6.out
          clear m0_v2 m1_v2 m4_v2 m6_v2
          have HD_v3 := Lib.hid hlp
          have HC_v3 := Lib.hid (own_below HC_v2.out hbN)
          have HLD : Hid (∀ b, (Value.slice AP q cP).ownBlock = some b → v2.heap.size ≤ b ∧ b < v3.heap.size) := Lib.hid (fun b hb => ⟨hnp b hb, hlp.lt b hb⟩)
          have HLC8 : Hid (∀ b, (Value.slice AC 4 cC).ownBlock = some b → b < v2.heap.size) := Lib.hid (fun b hb => (HC_v2.out.lt b hb).2)
          have HLS := Lib.hid HB_v2.out.size
          clear hlp hnp hbN
          refine hK.out _ _ ⟨m0_v3, m1_v3, m4_v3, m6_v3⟩ (fun hHeld_v3 => ?_)
          clear hK K hHeld_v2
          refine wpAnyH_take (i := 19) (v := ?_) rfl (by kernel_rfl) (by kernel_rfl) (by kernel_rfl) (fun _ _ _ h => h) (Or.inl ⟨by rfl, ?_⟩) hHeld_v3 ?_
          rotate_left
          · (intro w0 hSw; (try dsimp only at hSw); go_simp <;> with_reducible rfl)
          simp only [List.getElem_toArray, List.getElem_cons_succ, List.getElem_cons_zero, Act.put, List.setIfInBounds_toArray, List.set_cons_zero, List.set_cons_succ]
          refine wpAnyH_ready (rs := [20]) (by kernel_rfl) (by simp) ?_
          refine AllReadyH.cons rfl (fun K hK => ?_) AllReadyH.nil
          simp only [List.getElem_toArray, List.getElem_cons_succ, List.getElem_cons_zero]
          go_simp
          obtain ⟨v4, hN⟩ : ∃ x, x = v3.alloc (.cells zeroM 69) := ⟨_, rfl⟩
          unfold zeroM at hN
          rw [← hN]
          have hbN : Below v3.heap.size v3 v4 := hN ▸ (Below.refl _ _).alloc (Nat.le_refl _) _
          have HB_v4 : Hid (Below W0.heap.size W0 v4) := Lib.hid (HB_v3.out.trans (hbN.mono HB_v3.out.size))
          have m0_v4 := ((bcell HB_v4.out).1 a.g 0 HLG.out).trans M0.out
          have m1_v4 := ((bcell HB_v4.out).1 a.g 1 HLG.out).trans M1.out
          have m4_v4 := ((bcell HB_v4.out).1 a.g 4 HLG.out).trans M4.out
          have m6_v4 := ((bcell HB_v4.out).1 a.g 6 HLG.out).trans M6.out
          clear m0_v3 m1_v3 m4_v3 m6_v3
          have HG_v4 : Hid (Blk v4 v3.heap.size 69 zeroM) := Lib.hid (hN ▸ Blk.at_ _ _ _ rfl)
          have HG0 := Lib.hid HB_v3.out.size
          have HC_v4 := Lib.hid (own_below HC_v3.out hbN)
          have HNC : Hid (∀ b, (Value.slice AC 4 cC).ownBlock = some b → b ≠ v3.heap.size) := Lib.hid (fun b hb => by have := (HC_v3.out.lt b hb).2; omega)
          have HD_v4 := Lib.hid (HD_v3.out.blk fun b hb => hbN.block b (HLD.out b hb).2)
          have HND : Hid (∀ b, (Value.slice AP q cP).ownBlock = some b → W0.heap.size ≤ b ∧ b ≠ v3.heap.size ∧ ∀ c, (Value.slice AC 4 cC).ownBlock = some c → b ≠ c) := Lib.hid (fun b hb => by
            have h1 := HLD.out b hb
            have h3 := HLS.out
            exact ⟨by omega, by omega, fun c hc => by have h4 := HLC8.out c hc; omega⟩)
          clear hbN hN
          refine hK.out _ _ ⟨m0_v4, m1_v4, m4_v4, m6_v4⟩ (fun hHeld_v4 => ?_)
          clear hK K hHeld_v3
          have hg0 := HG_v4.out.cell 0
          have hg1 := HG_v4.out.cell 1
          have hg2 := HG_v4.out.cell 2
          have hg3 := HG_v4.out.cell 3
          have hg4 := HG_v4.out.cell 4
          have hg5 := HG_v4.out.cell 5
          have hg6 := HG_v4.out.cell 6
          have hf0 := HG_v4.out.frozen 0
          have hf1 := HG_v4.out.frozen 1
          have hf2 := HG_v4.out.frozen 2
          have hf3 := HG_v4.out.frozen 3
          have hf4 := HG_v4.out.frozen 4
          have hf5 := HG_v4.out.frozen 5
          have hf6 := HG_v4.out.frozen 6
          refine wpAnyH_done (by kernel_rfl) ?_ _
          refine LastPost.of ?_
          go_simp
          clear hHeld_v4 m0_v4 m1_v4 m4_v4 m6_v4 hg0 hg1 hg2 hg3 hg4 hg5 hg6 hf0 hf1 hf2 hf3 hf4 hf5 hf6
          go_wp2_with fail
          go_meet
          exact ⟨v3.heap.size, AC, cC, AP, cP, rfl, (((((((HG_v4.out.set_ 0 _).set_ 1 _).set_ 2 _).set_ 3 _).set_ 4 _).set_ 5 _).set_ 6 _), (own_blk (own_blk (own_blk (own_blk (own_blk (own_blk (own_blk HC_v4.out fun b hb => set_keep _ _ _ _ (HNC.out b hb)) fun b hb => set_keep _ _ _ _ (HNC.out b hb)) fun b hb => set_keep _ _ _ _ (HNC.out b hb)) fun b hb => set_keep _ _ _ _ (HNC.out b hb)) fun b hb => set_keep _ _ _ _ (HNC.out b hb)) fun b hb => set_keep _ _ _ _ (HNC.out b hb)) fun b hb => set_keep _ _ _ _ (HNC.out b hb)), (((((((HD_v4.out.blk fun b hb => set_keep _ _ _ _ (HND.out b hb).2.1).blk fun b hb => set_keep _ _ _ _ (HND.out b hb).2.1).blk fun b hb => set_keep _ _ _ _ (HND.out b hb).2.1).blk fun b hb => set_keep _ _ _ _ (HND.out b hb).2.1).blk fun b hb => set_keep _ _ _ _ (HND.out b hb).2.1).blk fun b hb => set_keep _ _ _ _ (HND.out b hb).2.1).blk fun b hb => set_keep _ _ _ _ (HND.out b hb).2.1), HG0.out, HNC.out, HND.out, (((((((HB_v4.out.setCell HG0.out _).setCell HG0.out _).setCell HG0.out _).setCell HG0.out _).setCell HG0.out _).setCell HG0.out _).setCell HG0.out _)⟩
        · simp only [List.getElem_toArray, List.getElem_cons_succ, List.getElem_cons_zero]
          go_simp
          obtain ⟨v5, hN⟩ : ∃ x, x = v2.alloc (.cells zeroM 69) := ⟨_, rfl⟩
          unfold zeroM at hN
          rw [← hN]
          have hbN : Below v2.heap.size v2 v5 := hN ▸ (Below.refl _ _).alloc (Nat.le_refl _) _
          have HB_v5 : Hid (Below W0.heap.size W0 v5) := Lib.hid (HB_v2.out.trans (hbN.mono HB_v2.out.size))
          have m0_v5 := ((bcell HB_v5.out).1 a.g 0 HLG.out).trans M0.out
          have m1_v5 := ((bcell HB_v5.out).1 a.g 1 HLG.out).trans M1.out
          have m4_v5 := ((bcell HB_v5.out).1 a.g 4 HLG.out).trans M4.out
          have m6_v5 := ((bcell HB_v5.out).1 a.g 6 HLG.out).trans M6.out
          clear m0_v2 m1_v2 m4_v2 m6_v2
          have HG_v5 : Hid (Blk v5 v2.heap.size 69 zeroM) := Lib.hid (hN ▸ Blk.at_ _ _ _ rfl)
          have HG0 := Lib.hid HB_v2.out.size
          have HC_v5 := Lib.hid (own_below HC_v2.out hbN)
          have HNC : Hid (∀ b, (Value.slice AC 4 cC).ownBlock = some b → b ≠ v2.heap.size) := Lib.hid (fun b hb => by have := (HC_v2.out.lt b hb).2; omega)
          clear hbN hN
          refine hK.out _ _ ⟨m0_v5, m1_v5, m4_v5, m6_v5⟩ (fun hHeld_v5 => ?_)
          clear hK K hHeld_v2
          refine wpAnyH_ready (rs := [18]) (by kernel_rfl) (by simp) ?_
          refine AllReadyH.cons rfl (fun K hK => ?_) AllReadyH.nil
          simp only [List.getElem_toArray, List.getElem_cons_succ, List.getElem_cons_zero]
          go_simp
          refine (l00Own_any _ q v5 (HQ.out.blk fun b hb => HB_v5.out.block b (HQ.out.lt b hb)) (by omega)).mono ?_
          rintro e v6 ⟨vp, rfl, hlp, hnp, hbN⟩
          obtain ⟨AP, cP, rfl⟩ := hlp.form
          have HB_v6 : Hid (Below W0.heap.size W0 v6) := Lib.hid (HB_v5.out.trans (hbN.mono HB_v5.out.size))
          have m0_v6 := ((bcell HB_v6.out).1 a.g 0 HLG.out).trans M0.out
          have m1_v6 := ((bcell HB_v6.out).1 a.g 1 HLG.out).trans M1.out
          have m4_v6 := ((bcell HB_v6.out).1 a.g 4 HLG.out).trans M4.out
          have m6_v6 := ((bcell HB_v6.out).1 a.g 6 HLG.out).trans M6.out
          clear m0_v5 m1_v5 m4_v5 m6_v5
          have HD_v6 := Lib.hid hlp
          have HC_v6 := Lib.hid (own_below HC_v5.out hbN)
          have HLD : Hid (∀ b, (Value.slice AP q cP).ownBlock = some b → v5.heap.size ≤ b ∧ b < v6.heap.size) := Lib.hid (fun b hb => ⟨hnp b hb, hlp.lt b hb⟩)
          have HLC8 : Hid (∀ b, (Value.slice AC 4 cC).ownBlock = some b → b < v5.heap.size) := Lib.hid (fun b hb => (HC_v5.out.lt b hb).2)
          have HLS := Lib.hid HB_v5.out.size
          have HG_v6 := Lib.hid (HG_v5.out.below hbN HG_v5.out.lt)
          have HND : Hid (∀ b, (Value.slice AP q cP).ownBlock = some b → W0.heap.size ≤ b ∧ b ≠ v2.heap.size ∧ ∀ c, (Value.slice AC 4 cC).ownBlock = some c → b ≠ c) := Lib.hid (fun b hb => by
            have h1 := (HLD.out b hb).1
            have h2 := HG_v5.out.lt
            have h3 := HLS.out
            exact ⟨by omega, by omega, fun c hc => by have h4 := HLC8.out c hc; omega⟩)
          clear hlp hnp hbN
          refine hK.out _ _ ⟨m0_v6, m1_v6, m4_v6, m6_v6⟩ (fun hHeld_v6 => ?_)
          clear hK K hHeld_v5
          refine wpAnyH_take (i := 19) (v := ?_) rfl (by kernel_rfl) (by kernel_rfl) (by kernel_rfl) (fun _ _ _ h => h) (Or.inl ⟨by rfl, ?_⟩) hHeld_v6 ?_
          rotate_left
          · (intro w0 hSw; (try dsimp only at hSw); go_simp <;> with_reducible rfl)
          simp only [List.getElem_toArray, List.getElem_cons_succ, List.getElem_cons_zero, Act.put, List.setIfInBounds_toArray, List.set_cons_zero, List.set_cons_succ]
          have hg0 := HG_v6.out.cell 0
          have hg1 := HG_v6.out.cell 1
          have hg2 := HG_v6.out.cell 2
          have hg3 := HG_v6.out.cell 3
          have hg4 := HG_v6.out.cell 4
          have hg5 := HG_v6.out.cell 5
          have hg6 := HG_v6.out.cell 6
          have hf0 := HG_v6.out.frozen 0
          have hf1 := HG_v6.out.frozen 1
          have hf2 := HG_v6.out.frozen 2
          have hf3 := HG_v6.out.frozen 3
          have hf4 := HG_v6.out.frozen 4
          have hf5 := HG_v6.out.frozen 5
          have hf6 := HG_v6.out.frozen 6
          refine wpAnyH_done (by kernel_rfl) ?_ _
          refine LastPost.of ?_
          go_simp
          clear hHeld_v6 m0_v6 m1_v6 m4_v6 m6_v6 hg0 hg1 hg2 hg3 hg4 hg5 hg6 hf0 hf1 hf2 hf3 hf4 hf5 hf6
          go_wp2_with fail
          go_meet
          exact ⟨v2.heap.size, AC, cC, AP, cP, rfl, (((((((HG_v6.out.set_ 0 _).set_ 1 _).set_ 2 _).set_ 3 _).set_ 4 _).set_ 5 _).set_ 6 _), (own_blk (own_blk (own_blk (own_blk (own_blk (own_blk (own_blk HC_v6.out fun b hb => set_keep _ _ _ _ (HNC.out b hb)) fun b hb => set_keep _ _ _ _ (HNC.out b hb)) fun b hb => set_keep _ _ _ _ (HNC.out b hb)) fun b hb => set_keep _ _ _ _ (HNC.out b hb)) fun b hb => set_keep _ _ _ _ (HNC.out b hb)) fun b hb => set_keep _ _ _ _ (HNC.out b hb)) fun b hb => set_keep _ _ _ _ (HNC.out b hb)), (((((((HD_v6.out.blk fun b hb => set_keep _ _ _ _ (HND.out b hb).2.1).blk fun b hb => set_keep _ _ _ _ (HND.out b hb).2.1).blk fun b hb => set_keep _ _ _ _ (HND.out b hb).2.1).blk fun b hb => set_keep _ _ _ _ (HND.out b hb).2.1).blk fun b hb => set_keep _ _ _ _ (HND.out b hb).2.1).blk fun b hb => set_keep _ _ _ _ (HND.out b hb).2.1).blk fun b hb => set_keep _ _ _ _ (HND.out b hb).2.1), HG0.out, HNC.out, HND.out, (((((((HB_v6.out.setCell HG0.out _).setCell HG0.out _).setCell HG0.out _).setCell HG0.out _).setCell HG0.out _).setCell HG0.out _).setCell HG0.out _)⟩
      · simp only [List.getElem_toArray, List.getElem_cons_succ, List.getElem_cons_zero]
        go_simp
        obtain ⟨v7, hN⟩ : ∃ x, x = v1.alloc (.cells zeroM 69) := ⟨_, rfl⟩
        unfold zeroM at hN
        rw [← hN]
        have hbN : Below v1.heap.size v1 v7 := hN ▸ (Below.refl _ _).alloc (Nat.le_refl _) _
        have HB_v7 : Hid (Below W0.heap.size W0 v7) := Lib.hid (HB_v1.out.trans (hbN.mono HB_v1.out.size))
        have m0_v7 := ((bcell HB_v7.out).1 a.g 0 HLG.out).trans M0.out
        have m1_v7 := ((bcell HB_v7.out).1 a.g 1 HLG.out).trans M1.out
        have m4_v7 := ((bcell HB_v7.out).1 a.g 4 HLG.out).trans M4.out
        have m6_v7 := ((bcell HB_v7.out).1 a.g 6 HLG.out).trans M6.out
        clear m0_v1 m1_v1 m4_v1 m6_v1
        have HG_v7 : Hid (Blk v7 v1.heap.size 69 zeroM) := Lib.hid (hN ▸ Blk.at_ _ _ _ rfl)
        have HG0 := Lib.hid HB_v1.out.size
        have HC_v7 := Lib.hid (own_below HC_v1.out hbN)
        have HNB8 : Hid (W.heap.size < v1.heap.size) := Lib.hid (by have := (HC_v1.out.lt _ rfl).2; omega)
        clear hbN hN
        refine hK.out _ _ ⟨m0_v7, m1_v7, m4_v7, m6_v7⟩ (fun hHeld_v7 => ?_)
        clear hK K hHeld_v1
        refine wpAnyH_ready (rs := [13]) (by kernel_rfl) (by simp) ?_
        refine AllReadyH.cons rfl (fun K hK => ?_) AllReadyH.nil
        simp only [List.getElem_toArray, List.getElem_cons_succ, List.getElem_cons_zero]
        refine step_appRb v7 (by rfl) (.tmp 15) (.tmp 19) _ (by rfl) W0.heap.size 107 ic _ 2 16 Try.underlying66 hic icz ics icb rfl (by omega) (.slice (some ⟨W.heap.size, 0, none⟩) 0 0) 0 [] (by rfl) HC_v7.out a.gc 0 4 a.cc (carV s) (by rfl) ((HCR.out).blk (HB_v7.out.block _ HLC.out)) (carV_one s) (by unfold maxLen; omega) (by omega) HB_v7.out.size ?_
        intro vN v8 hownN hfrN hatN
        obtain ⟨AC, cC, rfl⟩ := own_form hownN
        have hbN : Below W0.heap.size v7 v8 := hfrN.below HB_v7.out.size fun b hb => by obtain rfl : W.heap.size = b := Option.some.inj hb; exact HB8.out
        have HB_v8 : Hid (Below W0.heap.size W0 v8) := Lib.hid (HB_v7.out.trans hbN)
        have m0_v8 := ((bcell HB_v8.out).1 a.g 0 HLG.out).trans M0.out
        have m1_v8 := ((bcell HB_v8.out).1 a.g 1 HLG.out).trans M1.out
        have m4_v8 := ((bcell HB_v8.out).1 a.g 4 HLG.out).trans M4.out
        have m6_v8 := ((bcell HB_v8.out).1 a.g 6 HLG.out).trans M6.out
        clear m0_v7 m1_v7 m4_v7 m6_v7
        have HC_v8 : Hid (v8.ownsRow W0.heap.size 107 2 (.slice AC 4 cC) 4 (carL s)) := Lib.hid hownN
        have HAT : Hid ((Value.slice AC (0 + 4) cC).ownBlock = some W.heap.size ∨ (Value.slice AC (0 + 4) cC).ownBlock = some v7.heap.size) := Lib.hid hatN
        have HNC : Hid (∀ b, (Value.slice AC 4 cC).ownBlock = some b → b ≠ v1.heap.size) := Lib.hid (fun b hb => by
          have h1 := HG_v7.out.lt
          have h2 := HNB8.out
          rcases HAT.out with h | h
          · have h3 := Option.some.inj (hb.symm.trans h); omega
          · have h3 := Option.some.inj (hb.symm.trans h); omega)
        have HG_v8 := Lib.hid (HG_v7.out.fr hfrN (fun e => by have h2 := HNB8.out; have h3 : W.heap.size = v1.heap.size := Option.some.inj e; omega))
        clear hownN hfrN hatN hbN
        refine hK.out _ _ ⟨m0_v8, m1_v8, m4_v8, m6_v8⟩ (fun hHeld_v8 => ?_)
        clear hK K hHeld_v7
        refine wpAnyH_ready (rs := [18]) (by kernel_rfl) (by simp) ?_
        refine AllReadyH.cons rfl (fun K hK => ?_) AllReadyH.nil
        simp only [List.getElem_toArray, List.getElem_cons_succ, List.getElem_cons_zero]
        go_simp
        refine (l00Own_any _ q v8 (HQ.out.blk fun b hb => HB_v8.out.block b (HQ.out.lt b hb)) (by omega)).mono ?_
        rintro e v9 ⟨vp, rfl, hlp, hnp, hbN⟩
        obtain ⟨AP, cP, rfl⟩ := hlp.form
        have HB_v9 : Hid (Below W0.heap.size W0 v9) := Lib.hid (HB_v8.out.trans (hbN.mono HB_v8.out.size))
        have m0_v9 := ((bcell HB_v9.out).1 a.g 0 HLG.out).trans M0.out
        have m1_v9 := ((bcell HB_v9.out).1 a.g 1 HLG.out).trans M1.out
        have m4_v9 := ((bcell HB_v9.out).1 a.g 4 HLG.out).trans M4.out
        have m6_v9 := ((bcell HB_v9.out).1 a.g 6 HLG.out).trans M6.out
        clear m0_v8 m1_v8 m4_v8 m6_v8
        have HD_v9 := Lib.hid hlp
        have HC_v9 := Lib.hid (own_below HC_v8.out hbN)
        have HLD : Hid (∀ b, (Value.slice AP q cP).ownBlock = some b → v8.heap.size ≤ b ∧ b < v9.heap.size) := Lib.hid (fun b hb => ⟨hnp b hb, hlp.lt b hb⟩)
        have HLC8 : Hid (∀ b, (Value.slice AC 4 cC).ownBlock = some b → b < v8.heap.size) := Lib.hid (fun b hb => (HC_v8.out.lt b hb).2)
        have HLS := Lib.hid HB_v8.out.size
        have HG_v9 := Lib.hid (HG_v8.out.below hbN HG_v8.out.lt)
        have HND : Hid (∀ b, (Value.slice AP q cP).ownBlock = some b → W0.heap.size ≤ b ∧ b ≠ v1.heap.size ∧ ∀ c, (Value.slice AC 4 cC).ownBlock = some c → b ≠ c) := Lib.hid (fun b hb => by
          have h1 := (HLD.out b hb).1
          have h2 := HG_v8.out.lt
          have h3 := HLS.out
          exact ⟨by omega, by omega, fun c hc => by have h4 := HLC8.out c hc; omega⟩)
        clear hlp hnp hbN
        refine hK.out _ _ ⟨m0_v9, m1_v9, m4_v9, m6_v9⟩ (fun hHeld_v9 => ?_)
        clear hK K hHeld_v8
        refine wpAnyH_take (i := 19) (v := ?_) rfl (by kernel_rfl) (by kernel_rfl) (by kernel_rfl) (fun _ _ _ h => h) (Or.inl ⟨by rfl, ?_⟩) hHeld_v9 ?_
        rotate_left
        · (intro w0 hSw; (try dsimp only at hSw); go_simp <;> with_reducible rfl)
        simp only [List.getElem_toArray, List.getElem_cons_succ, List.getElem_cons_zero, Act.put, List.setIfInBounds_toArray, List.set_cons_zero, List.set_cons_succ]
        have hg0 := HG_v9.out.cell 0
        have hg1 := HG_v9.out.cell 1
        have hg2 := HG_v9.out.cell 2
        have hg3 := HG_v9.out.cell 3
        have hg4 := HG_v9.out.cell 4
        have hg5 := HG_v9.out.cell 5
        have hg6 := HG_v9.out.cell 6
        have hf0 := HG_v9.out.frozen 0
        have hf1 := HG_v9.out.frozen 1
        have hf2 := HG_v9.out.frozen 2
        have hf3 := HG_v9.out.frozen 3
        have hf4 := HG_v9.out.frozen 4
        have hf5 := HG_v9.out.frozen 5
        have hf6 := HG_v9.out.frozen 6
        refine wpAnyH_done (by kernel_rfl) ?_ _
        refine LastPost.of ?_
        go_simp
        clear hHeld_v9 m0_v9 m1_v9 m4_v9 m6_v9 hg0 hg1 hg2 hg3 hg4 hg5 hg6 hf0 hf1 hf2 hf3 hf4 hf5 hf6
        go_wp2_with fail
        go_meet
        exact ⟨v1.heap.size, AC, cC, AP, cP, rfl, (((((((HG_v9.out.set_ 0 _).set_ 1 _).set_ 2 _).set_ 3 _).set_ 4 _).set_ 5 _).set_ 6 _), (own_blk (own_blk (own_blk (own_blk (own_blk (own_blk (own_blk HC_v9.out fun b hb => set_keep _ _ _ _ (HNC.out b hb)) fun b hb => set_keep _ _ _ _ (HNC.out b hb)) fun b hb => set_keep _ _ _ _ (HNC.out b hb)) fun b hb => set_keep _ _ _ _ (HNC.out b hb)) fun b hb => set_keep _ _ _ _ (HNC.out b hb)) fun b hb => set_keep _ _ _ _ (HNC.out b hb)) fun b hb => set_keep _ _ _ _ (HNC.out b hb)), (((((((HD_v9.out.blk fun b hb => set_keep _ _ _ _ (HND.out b hb).2.1).blk fun b hb => set_keep _ _ _ _ (HND.out b hb).2.1).blk fun b hb => set_keep _ _ _ _ (HND.out b hb).2.1).blk fun b hb => set_keep _ _ _ _ (HND.out b hb).2.1).blk fun b hb => set_keep _ _ _ _ (HND.out b hb).2.1).blk fun b hb => set_keep _ _ _ _ (HND.out b hb).2.1).blk fun b hb => set_keep _ _ _ _ (HND.out b hb).2.1), HG0.out, HNC.out, HND.out, (((((((HB_v9.out.setCell HG0.out _).setCell HG0.out _).setCell HG0.out _).setCell HG0.out _).setCell HG0.out _).setCell HG0.out _).setCell HG0.out _)⟩
    · simp only [List.getElem_toArray, List.getElem_cons_succ, List.getElem_cons_zero]
      go_simp
      obtain ⟨v10, hN⟩ : ∃ x, x = W.alloc (.cells zeroM 69) := ⟨_, rfl⟩
      unfold zeroM at hN
      rw [← hN]
      have hbN : Below W.heap.size W v10 := hN ▸ (Below.refl _ _).alloc (Nat.le_refl _) _
      have HB_v10 : Hid (Below W0.heap.size W0 v10) := Lib.hid (HB_W.out.trans (hbN.mono HB_W.out.size))
      have m0_v10 := ((bcell HB_v10.out).1 a.g 0 HLG.out).trans M0.out
      have m1_v10 := ((bcell HB_v10.out).1 a.g 1 HLG.out).trans M1.out
      have m4_v10 := ((bcell HB_v10.out).1 a.g 4 HLG.out).trans M4.out
      have m6_v10 := ((bcell HB_v10.out).1 a.g 6 HLG.out).trans M6.out
      clear m0_W m1_W m4_W m6_W
      have HG_v10 : Hid (Blk v10 W.heap.size 69 zeroM) := Lib.hid (hN ▸ Blk.at_ _ _ _ rfl)
      have HG0 := Lib.hid HB_W.out.size
      clear hbN hN
      refine hK.out _ _ ⟨m0_v10, m1_v10, m4_v10, m6_v10⟩ (fun hHeld_v10 => ?_)
      clear hK K hHeld_W
      refine wpAnyH_ready (rs := [8]) (by kernel_rfl) (by simp) ?_
      refine AllReadyH.cons rfl (fun K hK => ?_) AllReadyH.nil
      simp only [List.getElem_toArray, List.getElem_cons_succ, List.getElem_cons_zero]
      go_simp
      obtain ⟨v11, hN⟩ : ∃ x, x = v10.alloc (.cells #[] 107) := ⟨_, rfl⟩
      rw [← hN]
      have hbN : Below v10.heap.size v10 v11 := hN ▸ (Below.refl _ _).alloc (Nat.le_refl _) _
      have HB_v11 : Hid (Below W0.heap.size W0 v11) := Lib.hid (HB_v10.out.trans (hbN.mono HB_v10.out.size))
      have m0_v11 := ((bcell HB_v11.out).1 a.g 0 HLG.out).trans M0.out
      have m1_v11 := ((bcell HB_v11.out).1 a.g 1 HLG.out).trans M1.out
      have m4_v11 := ((bcell HB_v11.out).1 a.g 4 HLG.out).trans M4.out
      have m6_v11 := ((bcell HB_v11.out).1 a.g 6 HLG.out).trans M6.out
      clear m0_v10 m1_v10 m4_v10 m6_v10
      have HC_v11 : Hid (v11.ownsRow W0.heap.size 107 2 (.slice (some ⟨v10.heap.size, 0, none⟩) 0 0) 0 []) := Lib.hid (hN ▸ own_base (World.ownsRow_made (e := 107) (size := 2) v10 #[] 0 (Nat.le_refl _) (by unfold maxLen; omega) rfl) HB_v10.out.size)
      have HG_v11 := Lib.hid (HG_v10.out.below hbN HG_v10.out.lt)
      have HG8 : Hid (W.heap.size < v10.heap.size) := Lib.hid HG_v10.out.lt
      have HL8 : Hid (v10.heap.size < v11.heap.size) := Lib.hid (by rw [hN]; simp)
      have HB8 := Lib.hid HB_v10.out.size
      clear hbN hN
      have HNB8 : Hid (v10.heap.size ≠ W.heap.size) := Lib.hid (by have := HG8.out; omega)
      refine hK.out _ _ ⟨m0_v11, m1_v11, m4_v11, m6_v11⟩ (fun hHeld_v11 => ?_)
      clear hK K hHeld_v10
      refine wpAnyH_ready (rs := [13]) (by kernel_rfl) (by simp) ?_
      refine AllReadyH.cons rfl (fun K hK => ?_) AllReadyH.nil
      simp only [List.getElem_toArray, List.getElem_cons_succ, List.getElem_cons_zero]
      refine step_appRb v11 (by rfl) (.tmp 15) (.tmp 19) _ (by rfl) W0.heap.size 107 ic _ 2 16 Try.underlying66 hic icz ics icb rfl (by omega) (.slice (some ⟨v10.heap.size, 0, none⟩) 0 0) 0 [] (by rfl) HC_v11.out a.gc 0 4 a.cc (carV s) (by rfl) ((HCR.out).blk (HB_v11.out.block _ HLC.out)) (carV_one s) (by unfold maxLen; omega) (by omega) HB_v11.out.size ?_
      intro vN v12 hownN hfrN hatN
      obtain ⟨AC, cC, rfl⟩ := own_form hownN
      have hbN : Below W0.heap.size v11 v12 := hfrN.below HB_v11.out.size fun b hb => by obtain rfl : v10.heap.size = b := Option.some.inj hb; exact HB8.out
      have HB_v12 : Hid (Below W0.heap.size W0 v12) := Lib.hid (HB_v11.out.trans hbN)
      have m0_v12 := ((bcell HB_v12.out).1 a.g 0 HLG.out).trans M0.out
      have m1_v12 := ((bcell HB_v12.out).1 a.g 1 HLG.out).trans M1.out
      have m4_v12 := ((bcell HB_v12.out).1 a.g 4 HLG.out).trans M4.out
      have m6_v12 := ((bcell HB_v12.out).1 a.g 6 HLG.out).trans M6.out
      clear m0_v11 m1_v11 m4_v11 m6_v11
      have HC_v12 : Hid (v12.ownsRow W0.heap.size 107 2 (.slice AC 4 cC) 4 (carL s)) := Lib.hid hownN
      have HAT : Hid ((Value.slice AC (0 + 4) cC).ownBlock = some v10.heap.size ∨ (Value.slice AC (0 + 4) cC).ownBlock = some v11.heap.size) := Lib.hid hatN
      have HNC : Hid (∀ b, (Value.slice AC 4 cC).ownBlock = some b → b ≠ W.heap.size) := Lib.hid (fun b hb => by
        have h1 := HG_v11.out.lt
        have h2 := HNB8.out
        rcases HAT.out with h | h
        · have h3 := Option.some.inj (hb.symm.trans h); omega
        · have h3 := Option.some.inj (hb.symm.trans h); omega)
      have HG_v12 := Lib.hid (HG_v11.out.fr hfrN (fun e => by have h2 := HNB8.out; have h3 : v10.heap.size = W.heap.size := Option.some.inj e; omega))
      clear hownN hfrN hatN hbN
      refine hK.out _ _ ⟨m0_v12, m1_v12, m4_v12, m6_v12⟩ (fun hHeld_v12 => ?_)
      clear hK K hHeld_v11
      refine wpAnyH_ready (rs := [18]) (by kernel_rfl) (by simp) ?_
      refine AllReadyH.cons rfl (fun K hK => ?_) AllReadyH.nil
      simp only [List.getElem_toArray, List.getElem_cons_succ, List.getElem_cons_zero]
      go_simp
      refine (l00Own_any _ q v12 (HQ.out.blk fun b hb => HB_v12.out.block b (HQ.out.lt b hb)) (by omega)).mono ?_
      rintro e v13 ⟨vp, rfl, hlp, hnp, hbN⟩
      obtain ⟨AP, cP, rfl⟩ := hlp.form
      have HB_v13 : Hid (Below W0.heap.size W0 v13) := Lib.hid (HB_v12.out.trans (hbN.mono HB_v12.out.size))
      have m0_v13 := ((bcell HB_v13.out).1 a.g 0 HLG.out).trans M0.out
      have m1_v13 := ((bcell HB_v13.out).1 a.g 1 HLG.out).trans M1.out
      have m4_v13 := ((bcell HB_v13.out).1 a.g 4 HLG.out).trans M4.out
      have m6_v13 := ((bcell HB_v13.out).1 a.g 6 HLG.out).trans M6.out
      clear m0_v12 m1_v12 m4_v12 m6_v12
      have HD_v13 := Lib.hid hlp
      have HC_v13 := Lib.hid (own_below HC_v12.out hbN)
      have HLD : Hid (∀ b, (Value.slice AP q cP).ownBlock = some b → v12.heap.size ≤ b ∧ b < v13.heap.size) := Lib.hid (fun b hb => ⟨hnp b hb, hlp.lt b hb⟩)
      have HLC8 : Hid (∀ b, (Value.slice AC 4 cC).ownBlock = some b → b < v12.heap.size) := Lib.hid (fun b hb => (HC_v12.out.lt b hb).2)
      have HLS := Lib.hid HB_v12.out.size
      have HG_v13 := Lib.hid (HG_v12.out.below hbN HG_v12.out.lt)
      have HND : Hid (∀ b, (Value.slice AP q cP).ownBlock = some b → W0.heap.size ≤ b ∧ b ≠ W.heap.size ∧ ∀ c, (Value.slice AC 4 cC).ownBlock = some c → b ≠ c) := Lib.hid (fun b hb => by
        have h1 := (HLD.out b hb).1
        have h2 := HG_v12.out.lt
        have h3 := HLS.out
        exact ⟨by omega, by omega, fun c hc => by have h4 := HLC8.out c hc; omega⟩)
      clear hlp hnp hbN
      refine hK.out _ _ ⟨m0_v13, m1_v13, m4_v13, m6_v13⟩ (fun hHeld_v13 => ?_)
      clear hK K hHeld_v12
      refine wpAnyH_take (i := 19) (v := ?_) rfl (by kernel_rfl) (by kernel_rfl) (by kernel_rfl) (fun _ _ _ h => h) (Or.inl ⟨by rfl, ?_⟩) hHeld_v13 ?_
      rotate_left
      · (intro w0 hSw; (try dsimp only at hSw); go_simp <;> with_reducible rfl)
      simp only [List.getElem_toArray, List.getElem_cons_succ, List.getElem_cons_zero, Act.put, List.setIfInBounds_toArray, List.set_cons_zero, List.set_cons_succ]
      have hg0 := HG_v13.out.cell 0
      have hg1 := HG_v13.out.cell 1
      have hg2 := HG_v13.out.cell 2
      have hg3 := HG_v13.out.cell 3
      have hg4 := HG_v13.out.cell 4
      have hg5 := HG_v13.out.cell 5
      have hg6 := HG_v13.out.cell 6
      have hf0 := HG_v13.out.frozen 0
      have hf1 := HG_v13.out.frozen 1
      have hf2 := HG_v13.out.frozen 2
      have hf3 := HG_v13.out.frozen 3
      have hf4 := HG_v13.out.frozen 4
      have hf5 := HG_v13.out.frozen 5
      have hf6 := HG_v13.out.frozen 6
      refine wpAnyH_done (by kernel_rfl) ?_ _
      refine LastPost.of ?_
      go_simp
      clear hHeld_v13 m0_v13 m1_v13 m4_v13 m6_v13 hg0 hg1 hg2 hg3 hg4 hg5 hg6 hf0 hf1 hf2 hf3 hf4 hf5 hf6
      go_wp2_with fail
      go_meet
      exact ⟨W.heap.size, AC, cC, AP, cP, rfl, (((((((HG_v13.out.set_ 0 _).set_ 1 _).set_ 2 _).set_ 3 _).set_ 4 _).set_ 5 _).set_ 6 _), (own_blk (own_blk (own_blk (own_blk (own_blk (own_blk (own_blk HC_v13.out fun b hb => set_keep _ _ _ _ (HNC.out b hb)) fun b hb => set_keep _ _ _ _ (HNC.out b hb)) fun b hb => set_keep _ _ _ _ (HNC.out b hb)) fun b hb => set_keep _ _ _ _ (HNC.out b hb)) fun b hb => set_keep _ _ _ _ (HNC.out b hb)) fun b hb => set_keep _ _ _ _ (HNC.out b hb)) fun b hb => set_keep _ _ _ _ (HNC.out b hb)), (((((((HD_v13.out.blk fun b hb => set_keep _ _ _ _ (HND.out b hb).2.1).blk fun b hb => set_keep _ _ _ _ (HND.out b hb).2.1).blk fun b hb => set_keep _ _ _ _ (HND.out b hb).2.1).blk fun b hb => set_keep _ _ _ _ (HND.out b hb).2.1).blk fun b hb => set_keep _ _ _ _ (HND.out b hb).2.1).blk fun b hb => set_keep _ _ _ _ (HND.out b hb).2.1).blk fun b hb => set_keep _ _ _ _ (HND.out b hb).2.1), HG0.out, HNC.out, HND.out, (((((((HB_v13.out.setCell HG0.out _).setCell HG0.out _).setCell HG0.out _).setCell HG0.out _).setCell HG0.out _).setCell HG0.out _).setCell HG0.out _)⟩
  case rest =>
    obtain ⟨g, gc, cc, tgo, vD, rfl, hmo, hbc⟩ := hcut.start hqd
    have HMO := Lib.hid hmo
    have HBC := Lib.hid hbc
    have HDF : Hid (∃ A n c, vD = .slice A n c) := Lib.hid (by obtain ⟨y, _, ys, hy⟩ := hmo.d; obtain ⟨A, c, e⟩ := own_form hy; exact ⟨A, y, c, e⟩)
    clear hcut hmo hbc m0 m1 m4 m6 hW
    go_wp2_with fail
    go_loopw [4] (fun iv wr => ∃ (i : Nat) (tgwr : Nat → Nat) (vF vK : Value) (xs ys : List Value), i ≤ s.W ∧ iv = .int .i64 i ∧ MO W0.heap.size tgwr s g gc cc i i 0 vF vK (.slice none 0 0) vD xs ys wr ∧ Below W0.heap.size W0 wr) (fun iv _ => s.W - (intOf iv).toNat)
    case atStart => exact ⟨0, _, _, _, _, _, Nat.zero_le _, rfl, HMO.out, HBC.out⟩
    case round =>
      obtain ⟨i, tgwr, vF, vK, xs, ys, hile, rfl, hm, hb⟩ := hrel
      have HMwr := Lib.hid hm
      have HBwr := Lib.hid hb
      obtain ⟨⟨AF, cF, rfl⟩, ⟨AK, cK, rfl⟩, _⟩ := hm.lists
      have hmem0 := HH.out.below hb
      have m0 : wr.cell? ⟨a.g, 0, none⟩ = some (.int .i64 s.W) := hmem0.m.cell 0
      have m5 := hmem0.m.cell 5
      clear hm hb hmem0
      by_cases hlt : i < s.W
      · clear m5
        -- front
        have gr2 : Hid (wr.cell? ⟨g, 2, none⟩ = some (.slice AF i cF)) := Lib.hid (HMwr.out.m.cell 2)
        have hmem := HH.out.below HBwr.out
        have m2 : wr.cell? ⟨a.g, 2, none⟩ = some (.slice (some ⟨a.gf, 0, none⟩) s.W a.cf) := hmem.m.cell 2
        obtain ⟨Al, cl, hal⟩ := (hmem.lf i hlt).form
        have hli := hmem.lf i hlt
        rw [hal] at hli
        have x2 : wr.cell? ⟨a.gf, i, none⟩ = some (.slice Al (s.f i) cl) := by have h := hmem.f i hlt; rw [Nat.zero_add] at h; rw [h, hal]
        have hl4 := hfb i hlt
        have HLI := Lib.hid hli
        have hgf : Hid (a.gf < W0.heap.size) := Lib.hid (HH.out.lt a.gf (by rw [HH.out.tf]; omega))
        have g2 := gr2.out
        have X2 := Lib.hid x2
        have M2 := Lib.hid m2
        have HIB : Hid (i + 1 ≤ maxLen ∧ (i + 1) * 24 ≤ 140737488355328 ∧ s.f i ≤ 1048576) := Lib.hid ⟨by unfold maxLen; omega, by omega, by omega⟩
        clear hmem hal hli hl4
        go_wp2_with fail
        refine wp_region_lastL (S := fun w' => w'.cell? ⟨g, 2, none⟩ = some (.slice AF i cF) ∧ w'.cell? ⟨a.g, 2, none⟩ = some (.slice (some ⟨a.gf, 0, none⟩) s.W a.cf) ∧ w'.cell? ⟨a.gf, i, none⟩ = some (.slice Al (s.f i) cl)) _ (by simp) (by kernel_rfl) (by kernel_rfl) ⟨g2, m2, x2⟩ (fun hHeldR => ?_)
        simp only [List.dropLast, List.getLast_cons_cons, List.getLast_singleton, List.length_cons, List.length_nil]
        refine wpAnyH_take (i := 0) (v := ?_) rfl (by kernel_rfl) (by kernel_rfl) (by kernel_rfl) (fun _ _ _ h => h) (Or.inl ⟨by rfl, ?_⟩) hHeldR ?_
        rotate_left
        · (intro w0 hSw; (try dsimp only at hSw); go_simp <;> with_reducible rfl)
        simp only [List.getElem_toArray, List.getElem_cons_succ, List.getElem_cons_zero, Act.put, List.setIfInBounds_toArray, List.set_cons_zero, List.set_cons_succ]
        refine wpAnyH_take (i := 1) (v := ?_) rfl (by kernel_rfl) (by kernel_rfl) (by kernel_rfl) (fun _ _ _ h => h) (Or.inl ⟨by rfl, ?_⟩) hHeldR ?_
        rotate_left
        · (intro w0 hSw; (try dsimp only at hSw); go_simp <;> with_reducible rfl)
        simp only [List.getElem_toArray, List.getElem_cons_succ, List.getElem_cons_zero, Act.put, List.setIfInBounds_toArray, List.set_cons_zero, List.set_cons_succ]
        refine wpAnyH_take (i := 2) (v := ?_) rfl (by kernel_rfl) (by kernel_rfl) (by kernel_rfl) (fun _ _ _ h => h) (Or.inl ⟨by rfl, ?_⟩) hHeldR ?_
        rotate_left
        · (intro w0 hSw; (try dsimp only at hSw); go_simp <;> with_reducible rfl)
        simp only [List.getElem_toArray, List.getElem_cons_succ, List.getElem_cons_zero, Act.put, List.setIfInBounds_toArray, List.set_cons_zero, List.set_cons_succ]
        refine wpAnyH_take (i := 3) (v := ?_) rfl (by kernel_rfl) (by kernel_rfl) (by kernel_rfl) (fun _ _ _ h => h) (Or.inl ⟨by rfl, ?_⟩) hHeldR ?_
        rotate_left
        · (intro w0 hSw; (try dsimp only at hSw); go_simp <;> with_reducible rfl)
        simp only [List.getElem_toArray, List.getElem_cons_succ, List.getElem_cons_zero, Act.put, List.setIfInBounds_toArray, List.set_cons_zero, List.set_cons_succ]
        refine wpAnyH_take (i := 4) (v := ?_) rfl (by kernel_rfl) (by kernel_rfl) (by kernel_rfl) (fun _ _ _ h => h) (Or.inl ⟨by rfl, ?_⟩) hHeldR ?_
        rotate_left
        · (intro w0 hSw; (try dsimp only at hSw); go_simp <;> with_reducible rfl)
        simp only [List.getElem_toArray, List.getElem_cons_succ, List.getElem_cons_zero, Act.put, List.setIfInBounds_toArray, List.set_cons_zero, List.set_cons_succ]
        refine wpAnyH_take (i := 5) (v := ?_) rfl (by kernel_rfl) (by kernel_rfl) (by kernel_rfl) (fun _ _ _ h => h) (Or.inl ⟨by rfl, ?_⟩) hHeldR ?_
        rotate_left
        · (intro w0 hSw; (try dsimp only at hSw); go_simp <;> with_reducible rfl)
        simp only [List.getElem_toArray, List.getElem_cons_succ, List.getElem_cons_zero, Act.put, List.setIfInBounds_toArray, List.set_cons_zero, List.set_cons_succ]
        refine wpAnyH_take (i := 6) (v := ?_) rfl (by kernel_rfl) (by kernel_rfl) (by kernel_rfl) (fun _ _ _ h => h) (Or.inl ⟨by rfl, ?_⟩) hHeldR ?_
        rotate_left
        · (intro w0 hSw; (try dsimp only at hSw); go_simp <;> with_reducible rfl)
        simp only [List.getElem_toArray, List.getElem_cons_succ, List.getElem_cons_zero, Act.put, List.setIfInBounds_toArray, List.set_cons_zero, List.set_cons_succ]
        refine wpAnyH_take (i := 7) (v := ?_) rfl (by kernel_rfl) (by kernel_rfl) (by kernel_rfl) (fun _ _ _ h => h) (Or.inl ⟨by rfl, ?_⟩) hHeldR ?_
        rotate_left
        · (intro w0 hSw; (try dsimp only at hSw); go_simp <;> with_reducible rfl)
        simp only [List.getElem_toArray, List.getElem_cons_succ, List.getElem_cons_zero, Act.put, List.setIfInBounds_toArray, List.set_cons_zero, List.set_cons_succ]
        refine wpAnyH_take (i := 8) (v := ?_) rfl (by kernel_rfl) (by kernel_rfl) (by kernel_rfl) (fun _ _ _ h => h) (Or.inl ⟨by rfl, ?_⟩) hHeldR ?_
        rotate_left
        · (intro w0 hSw; (try dsimp only at hSw); go_simp <;> with_reducible rfl)
        simp only [List.getElem_toArray, List.getElem_cons_succ, List.getElem_cons_zero, Act.put, List.setIfInBounds_toArray, List.set_cons_zero, List.set_cons_succ]
        refine wpAnyH_ready (rs := [9]) (by kernel_rfl) (by simp) ?_
        refine AllReadyH.cons rfl (fun K hK => ?_) AllReadyH.nil
        simp only [List.getElem_toArray, List.getElem_cons_succ, List.getElem_cons_zero]
        go_simp
        refine (l00Own_any _ (s.f i) wr.drew (HLI.out.blk fun _ _ => rfl) HIB.out.2.2).mono ?_
        rintro e v1 ⟨vp, rfl, hlp, hnp, hbN⟩
        obtain ⟨Ap, cp, rfl⟩ := hlp.form
        have HX1 : Hid (Below wr.heap.size wr v1) := Lib.hid (((Below.refl wr.heap.size wr).drew).trans hbN)
        have HM1 := Lib.hid (HMwr.out.below HX1.out)
        have HLP := Lib.hid hlp
        have HNP : Hid (∀ b, (Value.slice Ap (s.f i) cp).ownBlock = some b → wr.heap.size ≤ b) := Lib.hid hnp
        have k0 : v1.cell? ⟨g, 2, none⟩ = some (.slice AF i cF) := HM1.out.m.cell 2
        have k1 := ((bcell HX1.out).1 a.g 2 (Nat.lt_of_lt_of_le HLG.out HBwr.out.size)).trans M2.out
        have k2 := ((bcell HX1.out).1 a.gf i (Nat.lt_of_lt_of_le hgf.out HBwr.out.size)).trans X2.out
        clear hlp hnp hbN m2 x2 g2
        refine hK.out _ _ ⟨k0, k1, k2⟩ (fun hHeld1 => ?_)
        clear hK K hHeldR
        refine wpAnyH_ready (rs := [10]) (by kernel_rfl) (by simp) ?_
        refine AllReadyH.cons rfl (fun K hK => ?_) AllReadyH.nil
        simp only [List.getElem_toArray, List.getElem_cons_succ, List.getElem_cons_zero]
        go_simp
        refine hK.out _ _ (by go_keep) (fun hHeld2 => ?_)
        clear hK K hHeld1
        refine wpAnyH_ready (rs := [11]) (by kernel_rfl) (by simp) ?_
        refine AllReadyH.cons rfl (fun K hK => ?_) AllReadyH.nil
        simp only [List.getElem_toArray, List.getElem_cons_succ, List.getElem_cons_zero]
        refine step_appGa v1 (by rfl) (.tmp 36) (.tmp 45) _ (by rfl) W0.heap.size 41 i0 _ 1 24 Try.underlying65 hi iz is ib rfl (by omega) (.slice AF i cF) i xs (by rfl) HM1.out.f.r _ 1 1 [.slice Ap (s.f i) cp] (by rfl) rfl (by simp [Value.oneCell']) HIB.out.1 HIB.out.2.1 (Nat.le_trans HBwr.out.size HX1.out.size) ?_
        intro v2 w2 hown2 hfr2 hat2
        obtain ⟨A2, c2, rfl⟩ := own_form hown2
        have gr : Grew W0.heap.size tgwr v1 w2 (.slice Ap (s.f i) cp) (.slice AF i cF) (.slice A2 (i + 1) c2) 2 :=
          ⟨hfr2, hat2.imp_right fun e => ⟨_, e, by omega⟩, HM1.out.f.t, fun b hb => ⟨Decidable.byContradiction fun hn => by have h1 := HMwr.out.lt b hn; have h2 := HNP.out b hb; omega, Nat.le_trans HBwr.out.size (HNP.out b hb), HLP.out.lt b hb⟩, fun b hb => (hown2.lt b hb).2, Nat.le_trans HBwr.out.size HX1.out.size, by omega, HM1.out.lt, HM1.out.lo⟩
        have hm2 := HM1.out.stepF gr HLP.out hown2
        have hblk := gr.blk HM1.out.tm (by omega) HM1.out.m
        have j0' : w2.cell? ⟨g, 2, none⟩ = some (.slice AF i cF) := hblk.cell 2
        have jf : w2.frozen? ⟨g, 2, none⟩ = false := hblk.frozen 2
        have hno : ∀ b, b < W0.heap.size → ¬ (Value.slice AF i cF).ownBlock = some b := fun b hb e => by have := HM1.out.lo b (by rw [HM1.out.f.t b e]; omega); omega
        have j1 := (hfr2.cells (Nat.lt_of_lt_of_le HLG.out (Nat.le_trans HBwr.out.size HX1.out.size)) (hno _ HLG.out) 2).trans k1
        have j2 := (hfr2.cells (Nat.lt_of_lt_of_le hgf.out (Nat.le_trans HBwr.out.size HX1.out.size)) (hno _ hgf.out) i).trans k2
        refine hK.out _ _ ⟨j0', j1, j2⟩ (fun hHeld3 => ?_)
        clear hK K hHeld2
        have hGW : W0.heap.size ≤ g := HM1.out.lo g (by rw [HM1.out.tm]; omega)
        have HBN0 : Hid (Below W0.heap.size W0 (w2.setCell ⟨g, 2, none⟩ (.slice A2 (i + 1) c2))) := Lib.hid (((HBwr.out.trans (HX1.out.mono HBwr.out.size)).trans (hfr2.below (Nat.le_trans HBwr.out.size HX1.out.size) fun b hb => HM1.out.lo b (by rw [HM1.out.f.t b hb]; omega))).setCell hGW _)
        have HMN0 := Lib.hid hm2
        clear gr hm2 hblk hno hfr2 hat2 hown2 k0 k1 k2 hGW
        refine wpAnyH_take (i := 12) (v := ?_) rfl (by kernel_rfl) (by kernel_rfl) (by kernel_rfl) (fun _ _ _ h => h) (Or.inl ⟨by rfl, ?_⟩) hHeld3 ?_
        rotate_left
        · (intro w0 hSw; (try dsimp only at hSw); go_simp <;> with_reducible rfl)
        simp only [List.getElem_toArray, List.getElem_cons_succ, List.getElem_cons_zero, Act.put, List.setIfInBounds_toArray, List.set_cons_zero, List.set_cons_succ]
        refine wpAnyH_done (by kernel_rfl) ?_ _
        refine LastPost.of ?_
        go_simp
        obtain ⟨w3, hw3⟩ : ∃ x, x = w2.setCell ⟨g, 2, none⟩ (.slice A2 (i + 1) c2) := ⟨_, rfl⟩
        rw [← hw3]
        rw [← hw3] at HMN0 HBN0
        obtain ⟨tgw3, htg3⟩ : ∃ x, x = tag2 tgwr (.slice Ap (s.f i) cp) (.slice A2 (i + 1) c2) (8 + 2 * i) 2 := ⟨_, rfl⟩
        rw [← htg3] at HMN0
        have HMw3 := HMN0
        have HBw3 := HBN0
        clear hHeld3 j0' jf j1 j2 hw3 htg3 HMN0 HBN0 HM1 HX1 HLP HNP HLI X2 M2 gr2 hgf HIB
        -- back
        have gr3 : Hid (w3.cell? ⟨g, 3, none⟩ = some (.slice AK i cK)) := Lib.hid (HMw3.out.m.cell 3)
        have hmem := HH.out.below HBw3.out
        have m2 : w3.cell? ⟨a.g, 3, none⟩ = some (.slice (some ⟨a.gk, 0, none⟩) s.W a.ck) := hmem.m.cell 3
        obtain ⟨Bl, dl, hal⟩ := (hmem.lk i hlt).form
        have hli := hmem.lk i hlt
        rw [hal] at hli
        have x2 : w3.cell? ⟨a.gk, i, none⟩ = some (.slice Bl (s.k i) dl) := by have h := hmem.k i hlt; rw [Nat.zero_add] at h; rw [h, hal]
        have hl4 := hkb i hlt
        have HLI := Lib.hid hli
        have hgf : Hid (a.gk < W0.heap.size) := Lib.hid (HH.out.lt a.gk (by rw [HH.out.tk]; omega))
        have g2 := gr3.out
        have X2 := Lib.hid x2
        have M2 := Lib.hid m2
        have HIB : Hid (i + 1 ≤ maxLen ∧ (i + 1) * 24 ≤ 140737488355328 ∧ s.k i ≤ 1048576) := Lib.hid ⟨by unfold maxLen; omega, by omega, by omega⟩
        clear hmem hal hli hl4
        go_wp2_with fail
        refine wp_region_lastL (S := fun w' => w'.cell? ⟨g, 3, none⟩ = some (.slice AK i cK) ∧ w'.cell? ⟨a.g, 3, none⟩ = some (.slice (some ⟨a.gk, 0, none⟩) s.W a.ck) ∧ w'.cell? ⟨a.gk, i, none⟩ = some (.slice Bl (s.k i) dl)) _ (by simp) (by kernel_rfl) (by kernel_rfl) ⟨g2, m2, x2⟩ (fun hHeldR => ?_)
        simp only [List.dropLast, List.getLast_cons_cons, List.getLast_singleton, List.length_cons, List.length_nil]
        refine wpAnyH_take (i := 0) (v := ?_) rfl (by kernel_rfl) (by kernel_rfl) (by kernel_rfl) (fun _ _ _ h => h) (Or.inl ⟨by rfl, ?_⟩) hHeldR ?_
        rotate_left
        · (intro w0 hSw; (try dsimp only at hSw); go_simp <;> with_reducible rfl)
        simp only [List.getElem_toArray, List.getElem_cons_succ, List.getElem_cons_zero, Act.put, List.setIfInBounds_toArray, List.set_cons_zero, List.set_cons_succ]
        refine wpAnyH_take (i := 1) (v := ?_) rfl (by kernel_rfl) (by kernel_rfl) (by kernel_rfl) (fun _ _ _ h => h) (Or.inl ⟨by rfl, ?_⟩) hHeldR ?_
        rotate_left
        · (intro w0 hSw; (try dsimp only at hSw); go_simp <;> with_reducible rfl)
        simp only [List.getElem_toArray, List.getElem_cons_succ, List.getElem_cons_zero, Act.put, List.setIfInBounds_toArray, List.set_cons_zero, List.set_cons_succ]
        refine wpAnyH_take (i := 2) (v := ?_) rfl (by kernel_rfl) (by kernel_rfl) (by kernel_rfl) (fun _ _ _ h => h) (Or.inl ⟨by rfl, ?_⟩) hHeldR ?_
        rotate_left
        · (intro w0 hSw; (try dsimp only at hSw); go_simp <;> with_reducible rfl)
        simp only [List.getElem_toArray, List.getElem_cons_succ, List.getElem_cons_zero, Act.put, List.setIfInBounds_toArray, List.set_cons_zero, List.set_cons_succ]
        refine wpAnyH_take (i := 3) (v := ?_) rfl (by kernel_rfl) (by kernel_rfl) (by kernel_rfl) (fun _ _ _ h => h) (Or.inl ⟨by rfl, ?_⟩) hHeldR ?_
        rotate_left
        · (intro w0 hSw; (try dsimp only at hSw); go_simp <;> with_reducible rfl)
        simp only [List.getElem_toArray, List.getElem_cons_succ, List.getElem_cons_zero, Act.put, List.setIfInBounds_toArray, List.set_cons_zero, List.set_cons_succ]
        refine wpAnyH_take (i := 4) (v := ?_) rfl (by kernel_rfl) (by kernel_rfl) (by kernel_rfl) (fun _ _ _ h => h) (Or.inl ⟨by rfl, ?_⟩) hHeldR ?_
        rotate_left
        · (intro w0 hSw; (try dsimp only at hSw); go_simp <;> with_reducible rfl)
        simp only [List.getElem_toArray, List.getElem_cons_succ, List.getElem_cons_zero, Act.put, List.setIfInBounds_toArray, List.set_cons_zero, List.set_cons_succ]
        refine wpAnyH_take (i := 5) (v := ?_) rfl (by kernel_rfl) (by kernel_rfl) (by kernel_rfl) (fun _ _ _ h => h) (Or.inl ⟨by rfl, ?_⟩) hHeldR ?_
        rotate_left
        · (intro w0 hSw; (try dsimp only at hSw); go_simp <;> with_reducible rfl)
        simp only [List.getElem_toArray, List.getElem_cons_succ, List.getElem_cons_zero, Act.put, List.setIfInBounds_toArray, List.set_cons_zero, List.set_cons_succ]
        refine wpAnyH_take (i := 6) (v := ?_) rfl (by kernel_rfl) (by kernel_rfl) (by kernel_rfl) (fun _ _ _ h => h) (Or.inl ⟨by rfl, ?_⟩) hHeldR ?_
        rotate_left
        · (intro w0 hSw; (try dsimp only at hSw); go_simp <;> with_reducible rfl)
        simp only [List.getElem_toArray, List.getElem_cons_succ, List.getElem_cons_zero, Act.put, List.setIfInBounds_toArray, List.set_cons_zero, List.set_cons_succ]
        refine wpAnyH_take (i := 7) (v := ?_) rfl (by kernel_rfl) (by kernel_rfl) (by kernel_rfl) (fun _ _ _ h => h) (Or.inl ⟨by rfl, ?_⟩) hHeldR ?_
        rotate_left
        · (intro w0 hSw; (try dsimp only at hSw); go_simp <;> with_reducible rfl)
        simp only [List.getElem_toArray, List.getElem_cons_succ, List.getElem_cons_zero, Act.put, List.setIfInBounds_toArray, List.set_cons_zero, List.set_cons_succ]
        refine wpAnyH_take (i := 8) (v := ?_) rfl (by kernel_rfl) (by kernel_rfl) (by kernel_rfl) (fun _ _ _ h => h) (Or.inl ⟨by rfl, ?_⟩) hHeldR ?_
        rotate_left
        · (intro w0 hSw; (try dsimp only at hSw); go_simp <;> with_reducible rfl)
        simp only [List.getElem_toArray, List.getElem_cons_succ, List.getElem_cons_zero, Act.put, List.setIfInBounds_toArray, List.set_cons_zero, List.set_cons_succ]
        refine wpAnyH_ready (rs := [9]) (by kernel_rfl) (by simp) ?_
        refine AllReadyH.cons rfl (fun K hK => ?_) AllReadyH.nil
        simp only [List.getElem_toArray, List.getElem_cons_succ, List.getElem_cons_zero]
        go_simp
        refine (l00Own_any _ (s.k i) w3.drew (HLI.out.blk fun _ _ => rfl) HIB.out.2.2).mono ?_
        rintro e v4 ⟨vp, rfl, hlp, hnp, hbN⟩
        obtain ⟨Bp, dp, rfl⟩ := hlp.form
        have HX1 : Hid (Below w3.heap.size w3 v4) := Lib.hid (((Below.refl w3.heap.size w3).drew).trans hbN)
        have HM1 := Lib.hid (HMw3.out.below HX1.out)
        have HLP := Lib.hid hlp
        have HNP : Hid (∀ b, (Value.slice Bp (s.k i) dp).ownBlock = some b → w3.heap.size ≤ b) := Lib.hid hnp
        have k0 : v4.cell? ⟨g, 3, none⟩ = some (.slice AK i cK) := HM1.out.m.cell 3
        have k1 := ((bcell HX1.out).1 a.g 3 (Nat.lt_of_lt_of_le HLG.out HBw3.out.size)).trans M2.out
        have k2 := ((bcell HX1.out).1 a.gk i (Nat.lt_of_lt_of_le hgf.out HBw3.out.size)).trans X2.out
        clear hlp hnp hbN m2 x2 g2
        refine hK.out _ _ ⟨k0, k1, k2⟩ (fun hHeld1 => ?_)
        clear hK K hHeldR
        refine wpAnyH_ready (rs := [10]) (by kernel_rfl) (by simp) ?_
        refine AllReadyH.cons rfl (fun K hK => ?_) AllReadyH.nil
        simp only [List.getElem_toArray, List.getElem_cons_succ, List.getElem_cons_zero]
        go_simp
        refine hK.out _ _ (by go_keep) (fun hHeld2 => ?_)
        clear hK K hHeld1
        refine wpAnyH_ready (rs := [11]) (by kernel_rfl) (by simp) ?_
        refine AllReadyH.cons rfl (fun K hK => ?_) AllReadyH.nil
        simp only [List.getElem_toArray, List.getElem_cons_succ, List.getElem_cons_zero]
        refine step_appGa v4 (by rfl) (.tmp 49) (.tmp 58) _ (by rfl) W0.heap.size 41 i0 _ 1 24 Try.underlying65 hi iz is ib rfl (by omega) (.slice AK i cK) i ys (by rfl) HM1.out.k.r _ 1 1 [.slice Bp (s.k i) dp] (by rfl) rfl (by simp [Value.oneCell']) HIB.out.1 HIB.out.2.1 (Nat.le_trans HBw3.out.size HX1.out.size) ?_
        intro v2 w5 hown2 hfr2 hat2
        obtain ⟨B2, d2, rfl⟩ := own_form hown2
        have gr : Grew W0.heap.size tgw3 v4 w5 (.slice Bp (s.k i) dp) (.slice AK i cK) (.slice B2 (i + 1) d2) 3 :=
          ⟨hfr2, hat2.imp_right fun e => ⟨_, e, by omega⟩, HM1.out.k.t, fun b hb => ⟨Decidable.byContradiction fun hn => by have h1 := HMw3.out.lt b hn; have h2 := HNP.out b hb; omega, Nat.le_trans HBw3.out.size (HNP.out b hb), HLP.out.lt b hb⟩, fun b hb => (hown2.lt b hb).2, Nat.le_trans HBw3.out.size HX1.out.size, by omega, HM1.out.lt, HM1.out.lo⟩
        have hm2 := HM1.out.stepK gr HLP.out hown2
        have hblk := gr.blk HM1.out.tm (by omega) HM1.out.m
        have j0' : w5.cell? ⟨g, 3, none⟩ = some (.slice AK i cK) := hblk.cell 3
        have jf : w5.frozen? ⟨g, 3, none⟩ = false := hblk.frozen 3
        have hno : ∀ b, b < W0.heap.size → ¬ (Value.slice AK i cK).ownBlock = some b := fun b hb e => by have := HM1.out.lo b (by rw [HM1.out.k.t b e]; omega); omega
        have j1 := (hfr2.cells (Nat.lt_of_lt_of_le HLG.out (Nat.le_trans HBw3.out.size HX1.out.size)) (hno _ HLG.out) 3).trans k1
        have j2 := (hfr2.cells (Nat.lt_of_lt_of_le hgf.out (Nat.le_trans HBw3.out.size HX1.out.size)) (hno _ hgf.out) i).trans k2
        refine hK.out _ _ ⟨j0', j1, j2⟩ (fun hHeld3 => ?_)
        clear hK K hHeld2
        have hGW : W0.heap.size ≤ g := HM1.out.lo g (by rw [HM1.out.tm]; omega)
        have HBN0 : Hid (Below W0.heap.size W0 (w5.setCell ⟨g, 3, none⟩ (.slice B2 (i + 1) d2))) := Lib.hid (((HBw3.out.trans (HX1.out.mono HBw3.out.size)).trans (hfr2.below (Nat.le_trans HBw3.out.size HX1.out.size) fun b hb => HM1.out.lo b (by rw [HM1.out.k.t b hb]; omega))).setCell hGW _)
        have HMN0 := Lib.hid hm2
        clear gr hm2 hblk hno hfr2 hat2 hown2 k0 k1 k2 hGW
        refine wpAnyH_take (i := 12) (v := ?_) rfl (by kernel_rfl) (by kernel_rfl) (by kernel_rfl) (fun _ _ _ h => h) (Or.inl ⟨by rfl, ?_⟩) hHeld3 ?_
        rotate_left
        · (intro w0 hSw; (try dsimp only at hSw); go_simp <;> with_reducible rfl)
        simp only [List.getElem_toArray, List.getElem_cons_succ, List.getElem_cons_zero, Act.put, List.setIfInBounds_toArray, List.set_cons_zero, List.set_cons_succ]
        refine wpAnyH_done (by kernel_rfl) ?_ _
        refine LastPost.of ?_
        go_simp
        obtain ⟨w6, hw3⟩ : ∃ x, x = w5.setCell ⟨g, 3, none⟩ (.slice B2 (i + 1) d2) := ⟨_, rfl⟩
        rw [← hw3]
        rw [← hw3] at HMN0 HBN0
        obtain ⟨tgw6, htg3⟩ : ∃ x, x = tag2 tgw3 (.slice Bp (s.k i) dp) (.slice B2 (i + 1) d2) (9 + 2 * i) 3 := ⟨_, rfl⟩
        rw [← htg3] at HMN0
        have HMw6 := HMN0
        have HBw6 := HBN0
        clear hHeld3 j0' jf j1 j2 hw3 htg3 HMN0 HBN0 HM1 HX1 HLP HNP HLI X2 M2 gr3 hgf HIB
        go_wp2_with fail
        go_roundw
        case rel => exact ⟨i + 1, _, _, _, _, _, hlt, by go_num, HMw6.out, HBw6.out⟩
        case measure => simp [intOf] <;> omega
      · obtain rfl : s.W = i := by omega
        obtain ⟨zs0, hzs0, _⟩ := (HH.out.below HBwr.out).l
        obtain ⟨AL, cL, hAL⟩ := own_form hzs0
        have HAL := Lib.hid hAL
        replace m5 : wr.cell? ⟨a.g, 5, none⟩ = some (.slice AL s.n cL) := m5.trans (by rw [← hAL]; rfl)
        clear hzs0 hAL m5
        have HB0r := Lib.hid (show Below W0.heap.size W0 wr from HBwr.out)
        go_wp2_with fail
        go_loopw [5] (fun iv wx => ∃ (i : Nat) (tgx : Nat → Nat) (vL : Value), i ≤ s.n ∧ iv = .int .i64 i ∧ MO W0.heap.size tgx s g gc cc s.W s.W i (.slice AF s.W cF) (.slice AK s.W cK) vL vD xs ys wx ∧ Below W0.heap.size W0 wx) (fun iv _ => s.n - (intOf iv).toNat)
        case atStart => exact ⟨0, _, _, Nat.zero_le _, rfl, HMwr.out, HBwr.out⟩
        case round =>
          obtain ⟨i, tgx, vL, hix, rfl, hmx, hbx⟩ := hrel
          have HMx := Lib.hid hmx
          have HBx := Lib.hid hbx
          obtain ⟨_, _, Av, cv, rfl⟩ := hmx.lists
          have hmem1 := HH.out.below hbx
          have m5 : wr.cell? ⟨a.g, 5, none⟩ = some (.slice AL s.n cL) := (hmem1.m.cell 5).trans (by rw [← HAL.out]; rfl)
          by_cases hlx : i < s.n
          · obtain ⟨zs, hzs, hps⟩ := hmem1.l
            rw [HAL.out] at hzs
            obtain ⟨gL, hAL⟩ : ∃ gL, AL = some ⟨gL, 0, none⟩ := by
              rcases hzs.2 with ⟨_, h0⟩ | ⟨y, cap, _, e, _⟩
              · omega
              · injection e with e1 e2 e3
                exact ⟨y, e1⟩
            subst hAL
            obtain ⟨z, u, k, hz, hu5, hk, hul, _⟩ := hps i hlx
            obtain ⟨Au, cu, rfl⟩ := hul.form
            have c0 : wr.cell? ⟨gL, i * 6, none⟩ = some (.int .i64 (z 0)) := (hzs.cellAt (i * 6) (by omega)).trans (hz 0 (by omega))
            have c1 : wr.cell? ⟨gL, i * 6 + 1, none⟩ = some (.int .i64 (z 1)) := (hzs.cellAt _ (by omega)).trans (hz 1 (by omega))
            have c2 : wr.cell? ⟨gL, i * 6 + 2, none⟩ = some (.int .i64 (z 2)) := (hzs.cellAt _ (by omega)).trans (hz 2 (by omega))
            have c3 : wr.cell? ⟨gL, i * 6 + 3, none⟩ = some (.int .i64 (z 3)) := (hzs.cellAt _ (by omega)).trans (hz 3 (by omega))
            have c4 : wr.cell? ⟨gL, i * 6 + 4, none⟩ = some (.int .i64 (z 4)) := (hzs.cellAt _ (by omega)).trans (hz 4 (by omega))
            have c5 : wr.cell? ⟨gL, i * 6 + 5, none⟩ = some (.slice Au k cu) := (hzs.cellAt _ (by omega)).trans hu5
            obtain ⟨z0, hz0⟩ : ∃ x, x = z 0 := ⟨_, rfl⟩
            obtain ⟨z1, hz1⟩ : ∃ x, x = z 1 := ⟨_, rfl⟩
            obtain ⟨z2, hz2⟩ : ∃ x, x = z 2 := ⟨_, rfl⟩
            obtain ⟨z3, hz3⟩ : ∃ x, x = z 3 := ⟨_, rfl⟩
            obtain ⟨z4, hz4⟩ : ∃ x, x = z 4 := ⟨_, rfl⟩
            rw [← hz0] at c0
            rw [← hz1] at c1
            rw [← hz2] at c2
            rw [← hz3] at c3
            rw [← hz4] at c4
            have HUL := Lib.hid hul
            have HIB : Hid (i + 1 ≤ maxLen ∧ (i + 1) * 64 ≤ 140737488355328 ∧ k ≤ 1048576) := Lib.hid ⟨by unfold maxLen; omega, by omega, hk⟩
            clear hz hz0 hz1 hz2 hz3 hz4 hzs hps hu5 hul hmem1 hmx hbx hk
            go_upto_region 11 with (fail)
            obtain ⟨W1, hW1⟩ : ∃ x, x = wr.alloc (.cells #[.int .i64 z0, .int .i64 z1, .int .i64 z2, .int .i64 z3, .int .i64 z4, .slice Au k cu] 122) := ⟨_, rfl⟩
            rw [← hW1]
            have hb1 : Below wr.heap.size wr W1 := hW1 ▸ (Below.refl _ _).alloc (Nat.le_refl _) _
            have hx1 : Blk W1 wr.heap.size 122 #[.int .i64 z0, .int .i64 z1, .int .i64 z2, .int .i64 z3, .int .i64 z4, .slice Au k cu] := hW1 ▸ Blk.at_ _ _ _ rfl
            have y5 : W1.cell? ⟨wr.heap.size, 5, none⟩ = some (.slice Au k cu) := hx1.cell 5
            have HB1 := Lib.hid hb1
            have HX1 := Lib.hid hx1
            clear hW1 hb1 hx1 c0 c1 c2 c3 c4 c5 m5
            go_wp2_with fail
            refine (l00Own_any _ k W1 (HUL.out.blk fun b hb => HB1.out.block b (HUL.out.lt b hb)) HIB.out.2.2).mono ?_
            rintro e w2 ⟨vp, rfl, hlp, hnp, hb2⟩
            obtain ⟨Ap, cp, rfl⟩ := hlp.form
            have hx2 := HX1.out.below hb2 HX1.out.lt
            have y5' : w2.cell? ⟨wr.heap.size, 5, none⟩ = some (.slice Au k cu) := hx2.cell 5
            have yf := hx2.frozen 5
            obtain ⟨W3, hW3⟩ : ∃ x, x = w2.setCell ⟨wr.heap.size, 5, none⟩ (.slice Ap k cp) := ⟨_, rfl⟩
            have HX3 : Hid (Blk W3 wr.heap.size 122 #[.int .i64 z0, .int .i64 z1, .int .i64 z2, .int .i64 z3, .int .i64 z4, .slice Ap k cp]) := Lib.hid (hW3 ▸ hx2.set_ 5 (.slice Ap k cp))
            have HB3 : Hid (Below wr.heap.size wr W3) := Lib.hid (hW3 ▸ (HB1.out.trans (hb2.mono HB1.out.size)).setCell (Nat.le_refl _) _)
            have HS1 : Hid (wr.heap.size < W1.heap.size) := Lib.hid HX1.out.lt
            have HNP : Hid (∀ b, (Value.slice Ap k cp).ownBlock = some b → W1.heap.size ≤ b) := Lib.hid hnp
            have HLP3 : Hid (LOwn W3 (.slice Ap k cp) k) := Lib.hid (hW3 ▸ hlp.blk fun b hb => set_keep _ _ _ _ (by intro e; have h1 : W1.heap.size ≤ b := hnp b hb; have h2 := HS1.out; rw [show b = wr.heap.size from e] at h1; omega))
            have HM3 := Lib.hid (HMx.out.below HB3.out)
            have HW3 := Lib.hid hW3
            clear hlp hnp hb2 hx2 y5 hW3
            go_upto_region 12 with (fail)
            rw [← HW3.out]
            obtain ⟨ys3, hys3, hps3⟩ := HM3.out.l
            have HY3 := Lib.hid hys3
            have HPS3 := Lib.hid hps3
            have p5 : W3.cell? ⟨g, 5, none⟩ = some (.slice Av i cv) := HM3.out.m.cell 5
            have q0 : W3.cell? ⟨wr.heap.size, 0, none⟩ = some (.int .i64 z0) := HX3.out.cell 0
            have q1 : W3.cell? ⟨wr.heap.size, 1, none⟩ = some (.int .i64 z1) := HX3.out.cell 1
            have q2 : W3.cell? ⟨wr.heap.size, 2, none⟩ = some (.int .i64 z2) := HX3.out.cell 2
            have q3 : W3.cell? ⟨wr.heap.size, 3, none⟩ = some (.int .i64 z3) := HX3.out.cell 3
            have q4 : W3.cell? ⟨wr.heap.size, 4, none⟩ = some (.int .i64 z4) := HX3.out.cell 4
            have q5 : W3.cell? ⟨wr.heap.size, 5, none⟩ = some (.slice Ap k cp) := HX3.out.cell 5
            have HGW : Hid (W0.heap.size ≤ g) := Lib.hid (HM3.out.lo g (by rw [HM3.out.tm]; omega))
            have HVLO : Hid (W0.heap.size ≤ W3.heap.size) := Lib.hid (Nat.le_trans HBx.out.size HB3.out.size)
            have HU0 : Hid (∀ b, (Value.slice Ap k cp).ownBlock = some b → tgx b = 0 ∧ W0.heap.size ≤ b ∧ b < W3.heap.size) := Lib.hid fun b hb => ⟨Decidable.byContradiction fun hn => by have h1 := HMx.out.lt b hn; have h2 := HNP.out b hb; have h3 := HS1.out; omega, by have h2 := HNP.out b hb; have h3 := HS1.out; have h4 := HBx.out.size; omega, HLP3.out.lt b hb⟩
            clear hys3 hps3 y5' yf
            go_wp2_with (at_builtin; go_must (refine wpList_appGa W3 rfl (.tmp 82) (.tmp 84) _ rfl 0 122 j0 _ 6 64 Try.underlying67 hj jz js jb rfl (by omega) (.slice Av i cv) i ys3 rfl HY3.out _ 1 1 [.int .i64 z0, .int .i64 z1, .int .i64 z2, .int .i64 z3, .int .i64 z4, .slice Ap k cp] rfl rfl (by simp [Value.oneCell']) HIB.out.1 HIB.out.2.1 (Nat.zero_le _) ?_); intro v' w4 hown4 hfr4 hat4; obtain ⟨A4, c4, rfl⟩ := own_form hown4; have gr : Grew W0.heap.size tgx W3 w4 (.slice Ap k cp) (.slice Av i cv) (.slice A4 (i + 1) c4) 5 := ⟨hfr4, hat4.imp_right fun e => ⟨_, e, by omega⟩, HM3.out.tL, HU0.out, fun b hb => (hown4.lt b hb).2, HVLO.out, by omega, HM3.out.lt, HM3.out.lo⟩; have hm5 := HM3.out.stepL gr HIB.out.2.2 HLP3.out HY3.out.1 HPS3.out hown4; have hblk := gr.blk HM3.out.tm (by omega) HM3.out.m; have p5' : w4.cell? ⟨g, 5, none⟩ = some (.slice Av i cv) := hblk.cell 5; have pf : w4.frozen? ⟨g, 5, none⟩ = false := hblk.frozen 5; have HM5 := Lib.hid hm5; have HB5 : Hid (Below W0.heap.size W0 (w4.setCell ⟨g, 5, none⟩ (.slice A4 (i + 1) c4))) := Lib.hid (((HBx.out.trans (HB3.out.mono HBx.out.size)).trans (hfr4.below HVLO.out fun b hb => HM3.out.lo b (by rw [HM3.out.tL b hb]; omega))).setCell HGW.out _); clear gr hm5 hblk hown4 hfr4 hat4)
            go_roundw
            case rel => exact ⟨i + 1, _, _, hlx, by go_num, HM5.out, HB5.out⟩
            case measure => simp [intOf] <;> omega
          · obtain rfl : s.n = i := by omega
            have hres := HRES.out.below hbx HRES.out.lt
            have HF : Hid (MakesM W0.heap.size (.agg (cellsO s gc cc (.slice AF s.W cF) (.slice AK s.W cK) (.slice Av s.n cv) vD)) s wr) := Lib.hid (HMx.out.mem hW1)
            have HBF : Hid (Below w.heap.size w wr) := Lib.hid (HB0.out.trans (hbx.mono HB0.out.size))
            have HLT : Hid (w.heap.size < W0.heap.size) := Lib.hid (by have := HS0.out; omega)
            obtain ⟨AD2, nD2, cD2, rfl⟩ := HDF.out
            have r0 := (show _ = some (Value.int .i64 s.W) from HMx.out.m.cell 0)
            have r1 := (show _ = some (Value.int .i64 s.rk) from HMx.out.m.cell 1)
            have r2 := (show _ = some (Value.slice AF s.W cF) from HMx.out.m.cell 2)
            have r3 := (show _ = some (Value.slice AK s.W cK) from HMx.out.m.cell 3)
            have r4 := (show _ = some (Value.slice (some ⟨gc, 0, none⟩) 4 cc) from HMx.out.m.cell 4)
            have r5 := (show _ = some (Value.slice Av s.n cv) from HMx.out.m.cell 5)
            have r6 := (show _ = some (Value.slice AD2 nD2 cD2) from HMx.out.m.cell 6)
            have q0 := (show _ = some (Value.int .i64 0) from hres.cell 0)
            have q1 := (show _ = some (Value.int .i64 0) from hres.cell 1)
            have q2 := (show _ = some (Value.slice none 0 0) from hres.cell 2)
            have q3 := (show _ = some (Value.slice none 0 0) from hres.cell 3)
            have q4 := (show _ = some (Value.slice none 0 0) from hres.cell 4)
            have q5 := (show _ = some (Value.slice none 0 0) from hres.cell 5)
            have q6 := (show _ = some (Value.slice none 0 0) from hres.cell 6)
            have f0 := fun o => hres.frozen o
            clear hres hmem1 hmx hbx
            go_wp2_with fail
            refine bodyPost_ret (v := .agg (cellsO s gc cc (.slice AF s.W cF) (.slice AK s.W cK) (.slice Av s.n cv) (.slice AD2 nD2 cD2))) (by simp [results, Try.results66, go_sem, q0, q1, q2, q3, q4, q5, q6]) rfl ⟨_, rfl, ?_, ?_⟩
            · exact (((((((HF.out.set _ _ _ HLT.out).set _ _ _ HLT.out).set _ _ _ HLT.out).set _ _ _ HLT.out).set _ _ _ HLT.out).set _ _ _ HLT.out).set _ _ _ HLT.out).lower (Nat.le_of_lt HLT.out)
            · exact ((((((HBF.out.setCell (Nat.le_refl _) _).setCell (Nat.le_refl _) _).setCell (Nat.le_refl _) _).setCell (Nat.le_refl _) _).setCell (Nat.le_refl _) _).setCell (Nat.le_refl _) _).setCell (Nat.le_refl _) _
end
end Go.Proofs.Ytpmfkpehmckgmaa
