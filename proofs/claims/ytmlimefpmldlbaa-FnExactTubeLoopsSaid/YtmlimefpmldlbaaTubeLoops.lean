/- Walks: both TubeLoops make, for a valid tube, a new list of the loops of each part; both return the same lists and codes. No condition. -/
import Derived.Test.YtmlimefpmldlbaaTubeValid
import Derived.Test.YtmlimefpmldlbaaAccSS
import Derived.OneCell
namespace Go.Proofs.Ytmlimefpmldlbaa
open Go.RowKit

theorem infoInt64 : (Try.prog.info? 2).map (fun i => (i.zero, i.size, i.bytes)) = some (some (.int .i64 0), 1, 8) := by kernel_rfl
theorem infoInts : (Try.prog.info? 46).map (fun i => (i.zero, i.size, i.bytes)) = some (some (.slice none 0 0), 1, 24) := by kernel_rfl

set_option maxHeartbeats 400000 in
theorem l20Count_any (a q : Int) (n : Nat) (w : World) (hq : q = n) (hn : n ≤ 1048576) (ha0 : 0 ≤ a) (ha : a ≤ 1000000000) :
    Calls Try.prog 48 #[.int .i64 a, .int .i64 q] w (NewP w n n (fun j => .int .i64 (a + j))) := by
  subst hq
  obtain ⟨i0, hi, iz, is, ib⟩ := info_parts infoInt64
  go_enter Try.func48, Try.ntmps48
  go_wp2_with fail
  go_loopw [5, 6] (fun v i wr => ∃ k : Nat, k ≤ n ∧ i = .int .i64 k ∧ wr.ownsRow w.heap.size 2 1 v k ((List.range k).map fun j : Nat => .int .i64 (a + j)) ∧ Below w.heap.size w wr) (fun _ i _ => n - (intOf i).toNat)
  case atStart => exact ⟨0, Nat.zero_le _, rfl, World.ownsRow_made w #[] 0 (Nat.le_refl _) (by unfold maxLen; omega) rfl, (Below.refl _ _).alloc (Nat.le_refl _) _⟩
  case round =>
    obtain ⟨k, hk, rfl, hown, hb⟩ := hrel
    have HB := Lib.hid hb
    have HOWN := Lib.hid hown
    clear hb hown
    by_cases hlt : k < n
    · go_wp2_with (at_builtin; go_must (refine wpList_app wr rfl (.tmp 13) (.tmp 17) _ rfl w.heap.size 2 i0 _ 1 8 Try.underlying46 hi iz is ib rfl (by omega) u5 k _ rfl HOWN.out _ 1 1 _ rfl rfl (by simp [Value.oneCell']) (by unfold maxLen; omega) (by omega) HB.out.size ?_); intro v' w' hown' hb')
      go_wp2
      go_roundw
      case rel =>
        refine ⟨k + 1, by omega, by go_num, ?_, HB.out.trans hb'⟩
        rw [List.range_succ, List.map_append, List.map_cons, List.map_nil]
        exact hown'
      case measure => simp [intOf] <;> omega
    · obtain rfl : k = n := by omega
      obtain ⟨A', c, rfl, hnew⟩ := New.of_own HB.out HOWN.out
      have HN := Lib.hid (hnew.congr (f' := fun j => .int .i64 (a + j)) (fun j hj => getD_int (z := fun j => a + j) (by omega)))
      rw [Nat.mul_one] at HN
      clear hnew
      go_wp2
      go_ret
      exact ⟨_, _, rfl, HN.out⟩

/-- The parts of a tube: how many, how long, and their numbers. -/
def loopsN (r : Int) (t : Bool) : Nat := r.toNat + 1 + t.toNat
def loopsLen (n r : Int) (j : Nat) : Nat := if j ≤ r.toNat then 2 * n.toNat else n.toNat
def loopsZ (n : Int) (j i : Nat) : Int := 2 * n * j + i

set_option maxHeartbeats 400000 in
theorem specTubeLoops_no (n r c : Int) (b t : Bool) (ns : Nat → Nat) (z : Nat → Nat → Int) (w : World) (h : tubeB n r c = false) :
    Calls Try.prog 26 #[.agg #[.int .i64 n, .int .i64 r, .int .i64 c, .bool b, .bool t]] w (NewSSP2 1 w 0 ns z 1) := by
  go_enter Try.func26, Try.ntmps26
  go_wp2_with ((go_at_call 36; refine (l28Ok_any _ n r c _ (by go_simp) (by go_simp) (by go_simp)).mono ?_; rintro e w' ⟨rfl, rfl⟩))
  go_ret2
  exact ⟨none, 0, fun _ => none, fun _ => 0, rfl, NewSS.none_ (by (repeat' first | exact Below.refl _ _ | refine Below.alloc ?_ ?_ _ | refine Below.setCell ?_ ?_ _ | refine Below.drew ?_ | (refine Below.trans ?_ (Below.mono (by assumption) ?_)) | exact Nat.le_refl _ | (simp; done) | (simp; omega) | omega)) _ _⟩

theorem loops_len1 {n r k : Nat} (h : k < r + 1) : loopsLen n r k = 2 * n := by
  have : k ≤ r := by omega
  simp only [loopsLen, Int.toNat_natCast]
  rw [if_pos this]
theorem loops_len2 (n r : Nat) : loopsLen n r (r + 1) = n := by
  simp only [loopsLen, Int.toNat_natCast]
  rw [if_neg (by omega)]

set_option maxHeartbeats 1000000 in
theorem specTubeLoops_yes (n r : Nat) (c : Int) (b t : Bool) (w : World) (h : tubeB n r c = true) (hn : n ≤ 6) (hr : r ≤ 8) :
    Calls Try.prog 26 #[.agg #[.int .i64 n, .int .i64 r, .int .i64 c, .bool b, .bool t]] w (NewSSP2 1 w (loopsN r t) (loopsLen n r) (loopsZ n) 0) := by
  obtain ⟨i0, hi, iz, is, ib⟩ := info_parts infoInts
  obtain ⟨W1, hW1⟩ : ∃ W1, W1 = w.alloc (.cells #[.int .i64 n, .int .i64 r, .int .i64 c, .bool b, .bool t] 25) := ⟨_, rfl⟩
  have hs1 : W1.heap.size = w.heap.size + 1 := by rw [hW1]; simp
  have hc0 : W1.cell? ⟨w.heap.size, 0, none⟩ = some (.int .i64 n) := by rw [hW1]; simp [World.cell?_alloc_at]
  have hc1 : W1.cell? ⟨w.heap.size, 1, none⟩ = some (.int .i64 r) := by rw [hW1]; simp [World.cell?_alloc_at]
  have hc2 : W1.cell? ⟨w.heap.size, 4, none⟩ = some (.bool t) := by rw [hW1]; simp [World.cell?_alloc_at]
  have C0 := Lib.hid hc0
  have C1 := Lib.hid hc1
  have C2 := Lib.hid hc2
  have hbW : Below w.heap.size w W1 := by rw [hW1]; exact (Below.refl _ _).alloc (Nat.le_refl _) _
  have HW := Lib.hid hW1
  have HS := Lib.hid hs1
  have HBW := Lib.hid hbW
  clear hc0 hc1 hc2 hW1 hs1 hbW
  go_enter Try.func26, Try.ntmps26
  go_wp2_with ((go_at_call 36; refine (l28Ok_any _ n r c _ (by go_simp) (by go_simp) (by go_simp)).mono ?_; rintro e w' ⟨rfl, rfl⟩))
  go_loopw [4, 5, 6] (fun v a i wr => ∃ k m : Nat, k ≤ r + 1 ∧ i = .int .i64 k ∧ a = .int .i64 m ∧ m ≤ 12 * k ∧ Hid ((m : Int) = 2 * (n : Int) * k) ∧ Below (w.heap.size + 1) W1 wr ∧ ∃ As cs, AccSS 1 46 (w.heap.size + 1) wr v k As (loopsLen n r) cs (loopsZ n)) (fun _ _ i _ => r + 1 - (intOf i).toNat)
  case atStart =>
    refine ⟨0, 0, Nat.zero_le _, rfl, rfl, Nat.le_refl _, by simp [Hid], ?_, fun _ => none, fun _ => 0, ?_⟩
    · rw [← HW.out]
      exact (Below.refl _ _).alloc (by rw [HS.out]; exact Nat.le_refl _) _
    · rw [← HW.out, ← HS.out]
      exact AccSS.start _ _ _ _ _ _ _ (Nat.le_refl _)
  case round =>
    obtain ⟨k, m, hk, rfl, rfl, hm, HM, hb, As, cs, hacc⟩ := hrel
    have HB := Lib.hid hb
    have HA := Lib.hid hacc
    have d0 := ((bcell hb).1 w.heap.size 0 (by omega)).trans C0.out
    have d1 := ((bcell hb).1 w.heap.size 1 (by omega)).trans C1.out
    have d2 := ((bcell hb).1 w.heap.size 4 (by omega)).trans C2.out
    have hsz : w.heap.size + 1 ≤ wr.heap.size := by have := hb.size; have := HS.out; omega
    clear hb hacc
    by_cases hlt : k < r + 1
    · go_wp2_with fail
      refine (l20Count_any m (2 * n) (2 * n) _ (by omega) (by omega) (by omega) (by omega)).mono ?_
      rintro e w1 ⟨A1, c1, rfl, hnew⟩
      have HN : Hid (New wr w1 A1 (loopsLen n r k * 1) (fun i => .int .i64 (loopsZ n k i))) := by
        rw [loops_len1 hlt, Nat.mul_one]
        exact hnew.congr fun j _ => by simp only [loopsZ, ← HM.out]
      have hb1 := hnew.bl
      have e0 := ((bcell hb1).1 w.heap.size 0 (by omega)).trans d0
      have e1 := ((bcell hb1).1 w.heap.size 1 (by omega)).trans d1
      have HB1 := Lib.hid (HB.out.trans (hb1.mono hsz))
      have hsz1 : w.heap.size + 1 ≤ w1.heap.size := Nat.le_trans hsz hb1.size
      clear hnew hb1
      go_wp2_with (at_builtin; go_must (refine wpList_appSS wr w1 rfl (.tmp 16) (.tmp 22) _ rfl (w.heap.size + 1) 46 i0 _ 24 Try.underlying41 hi iz is ib rfl 1 u4 k As (loopsLen n r) cs (loopsZ n) rfl HA.out _ A1 (2 * n) c1 _ (loops_len1 hlt).symm HN.out rfl (by unfold maxLen; omega) (by omega) hsz ?_); intro v' w' hacc' hb' _; have f0 := ((bcell hb').1 w.heap.size 0 (by omega)).trans e0)
      have HA' := Lib.hid hacc'
      have HB' := Lib.hid (HB1.out.trans hb')
      clear hacc' hb'
      go_wp2
      go_roundw
      case rel => exact ⟨k + 1, m + 2 * n, by omega, by go_num, by go_num, by omega, by have := HM.out; unfold Hid; rw [Int.natCast_add, this]; simp only [Int.natCast_add, Int.natCast_mul, Int.mul_add]; simp, HB'.out, _, _, HA'.out⟩
      case measure => simp [intOf] <;> omega
    · obtain rfl : k = r + 1 := by omega
      cases t with
      | false =>
        have hacc := (HA.out.mono (B' := w.heap.size) (by omega))
        obtain ⟨A, cc, rfl, hnew⟩ := hacc.new (HBW.out.trans (HB.out.mono (by omega)))
        have HN := Lib.hid hnew
        clear hacc hnew
        go_wp2
        go_ret2
        have e : loopsN r false = r + 1 := by simp [loopsN]
        rw [e]
        exact ⟨A, cc, As, cs, rfl, HN.out⟩
      | true =>
        go_wp2_with fail
        refine (l20Count_any m n n _ rfl (by omega) (by omega) (by omega)).mono ?_
        rintro e w1 ⟨A1, c1, rfl, hnew⟩
        have HN : Hid (New wr w1 A1 (loopsLen n r (r + 1) * 1) (fun i => .int .i64 (loopsZ n (r + 1) i))) := by
          rw [loops_len2, Nat.mul_one]
          exact hnew.congr fun j _ => by simp only [loopsZ, ← HM.out]
        have hb1 := hnew.bl
        have HB1 := Lib.hid (HB.out.trans (hb1.mono hsz))
        clear hnew hb1
        go_wp2_with (at_builtin; go_must (refine wpList_appSS wr w1 rfl (.tmp 31) (.tmp 36) _ rfl (w.heap.size + 1) 46 i0 _ 24 Try.underlying41 hi iz is ib rfl 1 u4 (r + 1) As (loopsLen n r) cs (loopsZ n) rfl HA.out _ A1 n c1 _ (loops_len2 n r).symm HN.out rfl (by unfold maxLen; omega) (by omega) hsz ?_); intro v' w' hacc' hb' _; have HA' := Lib.hid hacc'; have HB' := Lib.hid (HB1.out.trans hb'); clear hacc' hb')
        have hacc := (HA'.out.mono (B' := w.heap.size) (by omega))
        obtain ⟨A, cc, rfl, hnew⟩ := hacc.new (HBW.out.trans (HB'.out.mono (by omega)))
        have HN' := Lib.hid hnew
        clear hacc hnew
        go_wp2
        go_ret2
        have e : loopsN r true = r + 1 + 1 := by simp [loopsN]
        rw [e]
        exact ⟨A, cc, _, _, rfl, HN'.out⟩

/-- The state of the closure that adds a part: the next number, the list so far; where they lie. -/
structure AddSt (B gn go : Nat) (w : World) (m : Int) (v : Value) (k : Nat) (As : Nat → Option Addr) (ns cs : Nat → Nat) (z : Nat → Nat → Int) : Prop where
  nx : w.cell? ⟨gn, 0, none⟩ = some (.int .i64 m)
  nf : w.frozen? ⟨gn, 0, none⟩ = false
  ox : w.cell? ⟨go, 0, none⟩ = some v
  of : w.frozen? ⟨go, 0, none⟩ = false
  acc : AccSS 1 46 B w v k As ns cs z
  a1 : v.ownBlock ≠ some gn
  a2 : v.ownBlock ≠ some go
  a3 : ∀ j b, j < k → Fb (As j) (ns j * 1) b → b ≠ gn ∧ b ≠ go
  b1 : B ≤ gn
  b2 : B ≤ go
  ne : gn ≠ go
theorem AccSS.frame {S : Nat} {eo : TypeId} {B : Nat} {w w' : World} {v : Value} {k : Nat} {As : Nat → Option Addr} {ns cs : Nat → Nat} {z : Nat → Nat → Int} (h : AccSS S eo B w v k As ns cs z)
    (ho : ∀ b, v.ownBlock = some b → w'.heap[b]? = w.heap[b]?) (hi : ∀ j b, j < k → Fb (As j) (ns j * S) b → w'.heap[b]? = w.heap[b]?) : AccSS S eo B w' v k As ns cs z := by
  refine ⟨⟨h.own.1, ?_⟩, h.ab, fun j hj => (wr_obj _ _).1 w w' (h.wr j hj) (fun b hb => hi j b hj hb), fun j hj => (rd_obj _ _ _).1 w w' (h.rd j hj) (fun b hb => hi j b hj hb), h.out, h.dis⟩
  rcases h.own.2 with h2 | ⟨g, cap, cur, hv, hg, hh, r⟩
  · exact .inl h2
  · exact .inr ⟨g, cap, cur, hv, hg, by rw [ho g (by rw [hv]; rfl)]; exact hh, r⟩

def AddP (B gn go : Nat) (w : World) (m : Int) (k : Nat) (ns : Nat → Nat) (z : Nat → Nat → Int) (e : Ending) (w' : World) : Prop :=
  e = .returned (.tuple #[]) ∧ Below B w w' ∧ ∃ v As cs, AddSt B gn go w' m v k As ns cs z

set_option maxHeartbeats 1000000 in
theorem add_any (B gn go q : Nat) (qi : Int) (hqi : qi = q) (m : Nat) (v : Value) (k : Nat) (As : Nat → Option Addr) (ns cs : Nat → Nat) (z : Nat → Nat → Int) (w : World) (h : AddSt B gn go w m v k As ns cs z) (hq : q = ns k) (hz : ∀ i : Nat, z k i = m + i) (hn : q ≤ 100) (hm : m ≤ 10000) (hk : k ≤ 100) :
    Calls Try.prog 49 #[.int .i64 qi, .pointer (some ⟨gn, 0, none⟩), .pointer (some ⟨go, 0, none⟩)] w (AddP B gn go w (m + q) (k + 1) ns z) := by
  subst hqi
  obtain ⟨i0, hi, iz, is, ib⟩ := info_parts infoInt64
  obtain ⟨i1, hi1, iz1, is1, ib1⟩ := info_parts infoInts
  have H := Lib.hid h
  have HQ := Lib.hid hq
  have HZ := Lib.hid hz
  have hgn : gn < w.heap.size := World.block_lt_of_cell? w _ h.nx
  have hgo : go < w.heap.size := World.block_lt_of_cell? w _ h.ox
  clear h hq hz
  go_enter Try.func49, Try.ntmps49
  go_wp2
  go_loopw [4, 7] (fun l i wr => ∃ j : Nat, j ≤ q ∧ i = .int .i64 j ∧ wr.ownsRow w.heap.size 2 1 l j ((List.range j).map fun x : Nat => .int .i64 (m + x)) ∧ Fr w wr (fun b => b = gn) ∧ wr.cell? ⟨gn, 0, none⟩ = some (.int .i64 (m + j)) ∧ wr.frozen? ⟨gn, 0, none⟩ = false) (fun _ i _ => q - (intOf i).toNat)
  case atStart =>
    have hb := (Below.refl w.heap.size w).alloc (Nat.le_refl _) (.cells #[] 2)
    exact ⟨0, Nat.zero_le _, rfl, World.ownsRow_made w #[] 0 (Nat.le_refl _) (by unfold maxLen; omega) rfl, Fr.of_below hb _, by rw [(bcell hb).1 gn 0 hgn, H.out.nx]; simp, by rw [(bcell hb).2 gn 0 hgn, H.out.nf]⟩
  case round =>
    obtain ⟨j, hj, rfl, hown, hfr, hc, hf⟩ := hrel
    have HOWN := Lib.hid hown
    have HF := Lib.hid hfr
    clear hown hfr
    have hs := HF.out.size
    by_cases hlt : j < q
    · go_wp2_with (at_builtin; go_must (refine wpList_app wr rfl (.tmp 9) (.tmp 11) _ rfl w.heap.size 2 i0 _ 1 8 Try.underlying46 hi iz is ib rfl (by omega) u4 j _ rfl HOWN.out _ 1 1 _ rfl rfl (by simp [Value.oneCell']) (by unfold maxLen; omega) (by omega) hs ?_); intro v' w' hown' hb'; have hc' := ((bcell hb').1 gn 0 hgn).trans hc; have hf' := ((bcell hb').2 gn 0 hgn).trans hf)
      go_wp2
      go_roundw
      case rel =>
        refine ⟨j + 1, by omega, by go_num, ?_, ?_, ?_, ?_⟩
        · rw [List.range_succ, List.map_append, List.map_cons, List.map_nil]
          exact ownsRow_setCell_below hown' hgn _
        · exact (HF.out.then_below hb').trans (Fr.of_only ((Only.refl _ _).set 0 _) rfl)
        · rw [World.cell?_setCell_same _ _ _ hc']
          simp only [Option.some.injEq, Value.int.injEq, true_and]
          omega
        · rw [World.frozen?_setCell]
          exact hf'
      case measure => simp [intOf] <;> omega
    · obtain rfl : j = q := by omega
      have hblk : ∀ b, b < w.heap.size → b ≠ gn → wr.heap[b]? = w.heap[b]? := fun b hb hne => HF.out.block b hb hne
      have ho := (World.cell?_of_block (w := w) (a := ⟨go, 0, none⟩) (hblk go hgo (Ne.symm H.out.ne))).trans H.out.ox
      have hfo := (World.frozen?_of_block (w := w) (a := ⟨go, 0, none⟩) (hblk go hgo (Ne.symm H.out.ne))).trans H.out.of
      have hlt := H.out.acc.lt
      have HACC := Lib.hid (H.out.acc.frame (w' := wr) (fun b hb => hblk b (hlt.1 b hb) (fun e => by subst e; exact H.out.a1 hb)) (fun j b hj hb => hblk b (hlt.2 j b hj hb) (H.out.a3 j b hj hb).1))
      have HLT := Lib.hid hlt
      obtain ⟨A1, c1, rfl, hrow⟩ := own_row HOWN.out
      have HROW : Hid (NewRow w.heap.size wr A1 (ns k * 1) (fun i => .int .i64 (z k i))) := by
        rw [← HQ.out]
        refine ⟨hrow.1, hrow.2.1, hrow.2.2.congr fun i hi => ?_⟩
        rw [HZ.out, getD_int (z := fun x => (m : Int) + x) (by omega)]
      have HBW := Lib.hid (HF.out.below (B := B) (by have := H.out.b1; omega) (fun b hb => by subst hb; exact H.out.b1))
      have hB : B ≤ w.heap.size := by have := H.out.b1; omega
      clear hblk hlt hrow
      go_wp2_with (at_builtin; go_must (refine wpList_appSS' w.heap.size wr rfl (.tmp 16) (.tmp 18) _ rfl B 46 i1 _ 24 Try.underlying41 hi1 iz1 is1 ib1 rfl 1 v k As ns cs z rfl HACC.out _ A1 j c1 _ HQ.out HLT.out HROW.out rfl (by unfold maxLen; omega) (by omega) hB hs ?_); intro v' w' hacc' hb' hgr; obtain ⟨A', cc', rfl, _⟩ := own_row hacc'.own; have hco := hgr.1.block go (by omega) H.out.a2; have ho' := (World.cell?_of_block (w := wr) (a := ⟨go, 0, none⟩) hco).trans ho; have hfo' := (World.frozen?_of_block (w := wr) (a := ⟨go, 0, none⟩) hco).trans hfo; have HA' := Lib.hid hacc'; have HB' := Lib.hid hb'; have HG := Lib.hid hgr; clear hacc' hb' hgr hco)
      go_end0
      have hcn := HG.out.1.block gn (by omega) H.out.a1
      have hn' := (World.cell?_of_block (w := wr) (a := ⟨gn, 0, none⟩) hcn).trans hc
      have hfn' := (World.frozen?_of_block (w := wr) (a := ⟨gn, 0, none⟩) hcn).trans hf
      have hv1 : ∀ x, x < w.heap.size → v.ownBlock ≠ some x → (Value.slice A' (k + 1) cc').ownBlock ≠ some x := fun x hx hne e => by
        rcases HG.out.2 with e2 | ⟨b, e2, hb⟩
        · exact hne (e2 ▸ e)
        · rw [e2] at e
          injection e with e
          omega
      have h3 : ∀ j' b, j' < k + 1 → Fb (upd As k A1 j') (ns j' * 1) b → b ≠ gn ∧ b ≠ go := fun j' b hj' hb => by
        by_cases e : j' = k
        · subst e
          rw [upd_at] at hb
          have := HROW.out.1 b hb
          omega
        · rw [upd_ne _ _ e] at hb
          exact H.out.a3 j' b (by omega) hb
      refine ⟨rfl, HBW.out.trans ((HB'.out).trans ((Below.refl _ _).setCell H.out.b2 _)), _, _, _, ?_, ?_, ?_, ?_, HA'.out.frame (fun b hb => Below.heap_setCell _ _ _ _ (fun e => ?_)) (fun j' b hj' hb => Below.heap_setCell _ _ _ _ (h3 j' b hj' hb).2), hv1 gn hgn H.out.a1, hv1 go hgo H.out.a2, h3, H.out.b1, H.out.b2, H.out.ne⟩
      · rw [World.cell?_setCell_other _ _ _ _ (by intro e; injection e with e; exact H.out.ne e.symm)]
        exact hn'
      · rw [World.frozen?_setCell]
        exact hfn'
      · exact World.cell?_setCell_same _ _ _ ho'
      · rw [World.frozen?_setCell]
        exact hfo'
      · have e' : b = go := e
        subst e'
        exact hv1 b hgo H.out.a2 hb

set_option maxHeartbeats 400000 in
theorem implTubeLoops_no (n r c : Int) (b t : Bool) (ns : Nat → Nat) (z : Nat → Nat → Int) (w : World) (h : tubeB n r c = false) :
    Calls Try.prog 27 #[.agg #[.int .i64 n, .int .i64 r, .int .i64 c, .bool b, .bool t]] w (NewSSP2 1 w 0 ns z 1) := by
  go_enter Try.func27, Try.ntmps27
  go_wp2_with fail
  refine (validTube_any n r c b t _).mono ?_
  rintro e w1 ⟨rfl, hb⟩
  have HB := Lib.hid (((Below.refl w.heap.size w).alloc (Nat.le_refl _) (.cells #[.int .i64 n, .int .i64 r, .int .i64 c, .bool b, .bool t] 25)).trans (hb.mono (by simp)))
  clear hb
  go_wp2
  go_ret2
  exact ⟨none, 0, fun _ => none, fun _ => 0, rfl, NewSS.none_ HB.out _ _⟩

set_option maxHeartbeats 1000000 in
theorem implTubeLoops_yes (n r : Nat) (c : Int) (b t : Bool) (w : World) (h : tubeB n r c = true) (hn : n ≤ 6) (hr : r ≤ 8) :
    Calls Try.prog 27 #[.agg #[.int .i64 n, .int .i64 r, .int .i64 c, .bool b, .bool t]] w (NewSSP2 1 w (loopsN r t) (loopsLen n r) (loopsZ n) 0) := by
  go_enter Try.func27, Try.ntmps27
  go_wp2_with fail
  refine (validTube_any n r c b t _).mono ?_
  rintro e w1 ⟨rfl, hb⟩
  have hd : ∀ o, w1.cell? ⟨w.heap.size, o, none⟩ = (w.alloc (.cells #[.int .i64 n, .int .i64 r, .int .i64 c, .bool b, .bool t] 25)).cell? ⟨w.heap.size, o, none⟩ := fun o => (bcell hb).1 w.heap.size o (by simp)
  have C0 := Lib.hid ((hd 0).trans (show _ = some (Value.int .i64 n) by simp [World.cell?_alloc_at]))
  have C1 := Lib.hid ((hd 1).trans (show _ = some (Value.int .i64 r) by simp [World.cell?_alloc_at]))
  have C2 := Lib.hid ((hd 4).trans (show _ = some (Value.bool t) by simp [World.cell?_alloc_at]))
  have HB := Lib.hid (((Below.refl w.heap.size w).alloc (Nat.le_refl _) (.cells #[.int .i64 n, .int .i64 r, .int .i64 c, .bool b, .bool t] 25)).trans (hb.mono (by simp)))
  have hsz : w.heap.size < w1.heap.size := blt hb (by simp)
  clear hb hd
  have hca : ∀ (X Y Z : Obj) o, (((w1.alloc X).alloc Y).alloc Z).cell? ⟨w.heap.size, o, none⟩ = w1.cell? ⟨w.heap.size, o, none⟩ := fun X Y Z o => (bcell ((((Below.refl w1.heap.size w1).alloc (Nat.le_refl _) X).alloc (by simp) Y).alloc (by simp; omega) Z)).1 _ o hsz
  have hc1 := C1.out
  go_wp2_with fail
  clear hca hc1
  go_loopw [15] (fun i wr => ∃ k m : Nat, k ≤ r + 1 ∧ i = .int .i64 k ∧ m ≤ 12 * k ∧ Hid ((m : Int) = 2 * (n : Int) * k) ∧ Below w1.heap.size w1 wr ∧ ∃ v As cs, AddSt w1.heap.size (w1.heap.size + 1 + 1) (w1.heap.size + 1) wr m v k As (loopsLen n r) cs (loopsZ n)) (fun i _ => r + 1 - (intOf i).toNat)
  case atStart =>
    refine ⟨0, 0, Nat.zero_le _, rfl, Nat.le_refl _, by simp [Hid], (((Below.refl _ _).alloc (Nat.le_refl _) _).alloc (by simp) _).alloc (by simp; omega) _, .slice (some ⟨w1.heap.size, 0, none⟩) 0 0, fun _ => none, fun _ => 0, ?_⟩
    refine ⟨by simp [World.cell?_alloc_at], ?_, ?_, ?_, (AccSS.start 1 46 w1 (fun _ => none) (loopsLen n r) (fun _ => 0) (loopsZ n) (Nat.le_refl _)).below (((Below.refl _ _).alloc (Nat.le_refl _) _).alloc (by simp) _), by simp [Value.ownBlock]; omega, by simp [Value.ownBlock], fun j b hj => absurd hj (by omega), by omega, by omega, by omega⟩
    · simpa using frozen_new ((w1.alloc (.cells #[] 46)).alloc (.cells #[Value.slice (some { block := w1.heap.size, off := 0 }) 0 0] 41)) #[.int .i64 0] 2 0
    · rw [(bcell ((Below.refl _ _).alloc (Nat.le_refl _) _)).1 _ _ (by simp)]
      simp [World.cell?_alloc_at]
    · rw [(bcell ((Below.refl _ _).alloc (Nat.le_refl _) _)).2 _ _ (by simp)]
      simp
  case round =>
    obtain ⟨k, m, hk, rfl, hm, HM, hb, v, As, cs, hst⟩ := hrel
    have HBR := Lib.hid hb
    have HST := Lib.hid hst
    have d0 := ((bcell hb).1 w.heap.size 0 hsz).trans C0.out
    have d2 := ((bcell hb).1 w.heap.size 4 hsz).trans C2.out
    clear hb hst
    by_cases hlt : k < r + 1
    · go_wp2_with fail
      refine (add_any w1.heap.size _ _ (2 * n) (2 * n) (by omega) m v k As (loopsLen n r) cs (loopsZ n) _ HST.out (loops_len1 hlt).symm (fun i => by simp only [loopsZ, ← HM.out]) (by omega) (by omega) (by omega)).mono ?_
      rintro e w2 ⟨rfl, hb2, v2, As2, cs2, hst2⟩
      have HB2 := Lib.hid (HBR.out.trans hb2)
      have HST2 := Lib.hid hst2
      clear hb2 hst2
      go_wp2
      go_roundw
      case rel => exact ⟨k + 1, m + 2 * n, by omega, by go_num, by omega, by have := HM.out; unfold Hid; rw [Int.natCast_add, this]; simp only [Int.natCast_add, Int.natCast_mul, Int.mul_add]; simp, HB2.out, v2, As2, cs2, HST2.out⟩
      case measure => simp [intOf] <;> omega
    · obtain rfl : k = r + 1 := by omega
      cases t with
      | false =>
        obtain ⟨A, cc, rfl, hnew⟩ := (HST.out.acc.mono (B' := w.heap.size) (by omega)).new (HB.out.trans (HBR.out.mono (by omega)))
        have HN := Lib.hid hnew
        have hox := HST.out.ox
        clear hnew
        go_wp2
        go_ret2
        have e : loopsN r false = r + 1 := by simp [loopsN]
        rw [e]
        exact ⟨A, cc, As, cs, rfl, HN.out⟩
      | true =>
        go_wp2_with fail
        refine (add_any w1.heap.size _ _ n n rfl m v (r + 1) As (loopsLen n r) cs (loopsZ n) _ HST.out (loops_len2 n r).symm (fun i => by simp only [loopsZ, ← HM.out]) (by omega) (by omega) (by omega)).mono ?_
        rintro e w2 ⟨rfl, hb2, v2, As2, cs2, hst2⟩
        obtain ⟨A, cc, rfl, hnew⟩ := (hst2.acc.mono (B' := w.heap.size) (by omega)).new (HB.out.trans ((HBR.out.trans hb2).mono (by omega)))
        have HN := Lib.hid hnew
        have hox := hst2.ox
        clear hnew hb2 hst2
        go_wp2
        go_ret2
        have e : loopsN r true = r + 1 + 1 := by simp [loopsN]
        rw [e]
        exact ⟨A, cc, As2, cs2, rfl, HN.out⟩

/-- The parts of whatever tube: none where it is not valid. -/
def loopsK (n r c : Int) (t : Bool) : Nat := if tubeB n r c then loopsN r t else 0
def loopsL (n r c : Int) (j : Nat) : Nat := if tubeB n r c then loopsLen n r j else 0
def loopsCode (n r c : Int) : Int := if tubeB n r c then 0 else 1
theorem tubeB_true {n r c : Int} (h : tubeB n r c = true) : 1 ≤ n ∧ n ≤ 6 ∧ 0 ≤ r ∧ r ≤ 8 := by
  simp only [tubeB, Bool.and_eq_true] at h
  have h1 := inB_true h.1.1
  have h2 := inB_true h.1.2
  exact ⟨h1.1, h1.2, h2.1, h2.2⟩
theorem loopsK_le (n r c : Int) (t : Bool) : loopsK n r c t ≤ 10 := by
  unfold loopsK loopsN
  split
  · rename_i h
    have := tubeB_true h
    cases t <;> simp <;> omega
  · omega
theorem loopsLen_le (n r c : Int) (j : Nat) : loopsL n r c j ≤ 12 := by
  unfold loopsL loopsLen
  split
  · rename_i h
    have := tubeB_true h
    split <;> omega
  · omega
theorem offS_le (S : Nat) (ns : Nat → Nat) (m : Nat) (h : ∀ j, ns j ≤ m) (k : Nat) : offS S ns k ≤ k * (m * S) := by
  induction k with
  | zero => simp [offS]
  | succ k ih =>
    have := Nat.mul_le_mul_right S (h k)
    rw [offS, Nat.succ_mul]
    omega
theorem loops_sum (n r c : Int) (t : Bool) : offS 1 (loopsL n r c) (loopsK n r c t) ≤ 120 := by
  have h1 := offS_le 1 (loopsL n r c) 12 (loopsLen_le n r c) (loopsK n r c t)
  have h2 := loopsK_le n r c t
  omega

theorem specTubeLoops_any (n r c : Int) (b t : Bool) (w : World) :
    Calls Try.prog 26 #[.agg #[.int .i64 n, .int .i64 r, .int .i64 c, .bool b, .bool t]] w (NewSSP2 1 w (loopsK n r c t) (loopsL n r c) (loopsZ n) (loopsCode n r c)) := by
  cases h : tubeB n r c
  · have e1 : loopsK n r c t = 0 := by simp [loopsK, h]
    have e2 : loopsCode n r c = 1 := by simp [loopsCode, h]
    rw [e1, e2]
    exact specTubeLoops_no n r c b t _ _ w h
  · have e1 : loopsK n r c t = loopsN r t := by simp [loopsK, h]
    have e2 : loopsCode n r c = 0 := by simp [loopsCode, h]
    have e3 : loopsL n r c = loopsLen n r := by funext j; simp [loopsL, h]
    rw [e1, e2, e3]
    have hb := tubeB_true h
    obtain ⟨n, rfl⟩ := Int.eq_ofNat_of_zero_le (show 0 ≤ n by omega)
    obtain ⟨r, rfl⟩ := Int.eq_ofNat_of_zero_le (show 0 ≤ r by omega)
    exact specTubeLoops_yes n r c b t w h (by omega) (by omega)
theorem implTubeLoops_any (n r c : Int) (b t : Bool) (w : World) :
    Calls Try.prog 27 #[.agg #[.int .i64 n, .int .i64 r, .int .i64 c, .bool b, .bool t]] w (NewSSP2 1 w (loopsK n r c t) (loopsL n r c) (loopsZ n) (loopsCode n r c)) := by
  cases h : tubeB n r c
  · have e1 : loopsK n r c t = 0 := by simp [loopsK, h]
    have e2 : loopsCode n r c = 1 := by simp [loopsCode, h]
    rw [e1, e2]
    exact implTubeLoops_no n r c b t _ _ w h
  · have e1 : loopsK n r c t = loopsN r t := by simp [loopsK, h]
    have e2 : loopsCode n r c = 0 := by simp [loopsCode, h]
    have e3 : loopsL n r c = loopsLen n r := by funext j; simp [loopsL, h]
    rw [e1, e2, e3]
    have hb := tubeB_true h
    obtain ⟨n, rfl⟩ := Int.eq_ofNat_of_zero_le (show 0 ≤ n by omega)
    obtain ⟨r, rfl⟩ := Int.eq_ofNat_of_zero_le (show 0 ≤ r by omega)
    exact implTubeLoops_yes n r c b t w h (by omega) (by omega)
end Go.Proofs.Ytmlimefpmldlbaa
