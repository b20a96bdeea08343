/- Walk: slices.Concat of two lists of operations that the caller owns: a new list of both. No condition but the bounds. -/
import Derived.Test.YtpmfkpehmckgmaaTubes
import Derived.Lib.AppendZeros
namespace Go.Proofs.Ytpmfkpehmckgmaa
open Go.RowKit
set_option maxRecDepth 20000

/-- 'append(s[:cap(s)], make(.., n)...)' on a nil s: n zeros in a new block. -/
theorem wpList_zeros {P : Program} (w : World) {ops : Array Oper} {rest : List Oper} {o : Oper} {a : Act} {Q : Exit → Act → World → Prop} (hgd : o.guard = none) (s x : Operand) (t tn : TypeId)
    (ho : o.op = .call { callee := .builtin .append, args := #[s, x], argTypes := #[t, tn] }) (e : TypeId) (i : TypeInfo) (z : Value) (size bytes : Nat) (ht : P.underlying t = some (.slice e)) (htn : P.underlying tn = some (.int .i64)) (hi : P.info? e = some i) (hz : i.zero = some z)
    (hsize : i.size = size) (hby : i.bytes = bytes) (hzs : z.cells.size = size) (hsz : 0 < size) (n : Nat) (h0 : 0 < n) (h63 : n ≤ maxLen) (hb : n * bytes ≤ 281474976710656)
    (hs : a.eval s = .slice none 0 0) (hx : a.eval x = .int .i64 n)
    (h : ∀ c w', (w'.ownsRow w.heap.size e size (.slice (some ⟨w.heap.size, 0, none⟩) 0 c) 0 []) → n ≤ c → Below w.heap.size w w' → w.heap.size < w'.heap.size → wpList P ops Q rest (a.put o.dst (.slice (some ⟨w.heap.size, 0, none⟩) n c)) w') :
    wpList P ops Q (o :: rest) a w := by
  subst hsize
  subst hby
  have hr := Lib.run_append_nil_zeros (P := P) w t tn o.type e i z .i64 .i64 ht htn hi hz n h0 hsz (by unfold maxLen at h63; omega) hb
  refine wpList_plain hgd fun K hK => ?_
  unfold Oper.wp execOp
  simp only [ho, resolve, invoke, builtin, Sem.run_bind, Sem.run_pure, Result.andThen_ok, List.map_toArray, List.map_cons, List.map_nil, hs, hx, hr]
  have hge := grownCap_ge w n 0 e
  have hle := grownCap_le_maxLen w n 0 e h63
  refine hK _ _ (h _ _ (World.ownsRow_made w.drew _ _ (Nat.le_refl _) hle ?_) hge ?_ ?_)
  · simp only [Array.size_append, size_zeroCells, hzs, ← Nat.add_mul]
    congr 1
    omega
  · exact (Below.refl _ _).drew.alloc (Nat.le_refl _) _
  · simp
theorem growOp_nil (n : Nat) (w : World) (h0 : 0 < n) (hn : n ≤ 4000) :
    Calls Try.prog 103 #[.slice none 0 0, .int .i64 n] w (OwnZ w 0 []) := by
  obtain ⟨i0, hi, iz, is, ib⟩ := info_parts infoOp
  go_enter Try.func103, Try.ntmps103
  go_wp2_with (at_builtin; go_must (refine wpList_zeros _ rfl (.tmp 20) (.tmp 21) _ _ rfl 58 i0 _ 8 64 Try.underlying26 Try.underlying3 hi iz is ib rfl (by omega) n h0 (by unfold maxLen; omega) (by omega) rfl rfl ?_); intro c w' hown hc hb hlt)
  go_ret
  exact ⟨_, rfl, hown, hb⟩

/-- The first k of two lists. -/
def sumK (n1 n2 k : Nat) : Nat := if k = 0 then 0 else if k = 1 then n1 else n1 + n2
def appK (l1 l2 : List Int) (k : Nat) : List Int := if k = 0 then [] else if k = 1 then l1 else l1 ++ l2
set_option maxHeartbeats 1000000 in
theorem concatOp_any (g cp : Nat) (A1 A2 : Option Addr) (n1 n2 c1 c2 B1 B2 : Nat) (l1 l2 : List Int) (w : World) (h0 : w.cell? ⟨g, 0, none⟩ = some (.slice A1 n1 c1)) (h1 : w.cell? ⟨g, 1, none⟩ = some (.slice A2 n2 c2))
    (o1 : w.ownsRow B1 58 8 (.slice A1 n1 c1) n1 (ints l1)) (o2 : w.ownsRow B2 58 8 (.slice A2 n2 c2) n2 (ints l2)) (hp : 0 < n1 + n2) (hn1 : n1 ≤ 1000) (hn2 : n2 ≤ 1000) :
    Calls Try.prog 78 #[.slice (some ⟨g, 0, none⟩) 2 cp] w (OwnZ w (n1 + n2) (l1 ++ l2)) := by
  obtain ⟨i0, hi, iz, is, ib⟩ := info_parts infoOp
  have hg := World.block_lt_of_cell? w _ h0
  have H0 := Lib.hid h0
  have H1 := Lib.hid h1
  have O1 := Lib.hid o1
  have O2 := Lib.hid o2
  clear h0 h1 o1 o2
  go_enter Try.func78, Try.ntmps78
  go_wp2
  go_loop [3, 11] (fun s i => ∃ k : Nat, k ≤ 2 ∧ i = .int .i64 k ∧ s = .int .i64 (sumK n1 n2 k)) (fun _ i => 2 - (intOf i).toNat)
  case atStart => exact ⟨0, by omega, rfl, rfl⟩
  case round =>
    obtain ⟨k, hk, rfl, rfl⟩ := hrel
    have k0 := H0.out
    have k1 := H1.out
    rcases (show k = 0 ∨ k = 1 ∨ k = 2 by omega) with rfl | rfl | rfl
    · simp only [sumK] at *
      go_wp2
      go_round
      case rel => exact ⟨1, by omega, by go_num, by simp⟩
      case measure => simp [intOf] <;> omega
    · simp only [sumK] at *
      go_wp2
      go_round
      case rel => exact ⟨2, by omega, by go_num, by simp⟩
      case measure => simp [intOf] <;> omega
    · simp only [sumK] at *
      go_wp2_with fail
      rw [← Int.natCast_add]
      refine (growOp_nil (n1 + n2) _ hp (by omega)).mono ?_
      rintro e w1 ⟨v1, rfl, ho1, hb1⟩
      have HO1 := Lib.hid ho1
      have HB1 := Lib.hid hb1
      clear ho1 hb1 k0 k1
      go_wp2_with fail
      go_loopw [6, 27] (fun v i wr => ∃ k : Nat, k ≤ 2 ∧ i = .int .i64 k ∧ wr.ownsRow w.heap.size 58 8 v (sumK n1 n2 k) (ints (appK l1 l2 k)) ∧ Below w.heap.size w wr) (fun _ i _ => 2 - (intOf i).toNat)
      case atStart => exact ⟨0, by omega, rfl, HO1.out, HB1.out⟩
      case round =>
        obtain ⟨k, hk, rfl, hown, hb⟩ := hrel
        have k0 := ((bcell hb).1 _ _ hg).trans H0.out
        have k1 := ((bcell hb).1 _ _ hg).trans H1.out
        have P1 := Lib.hid (own_below O1.out hb)
        have P2 := Lib.hid (own_below O2.out hb)
        have hgr : g < wr.heap.size := blt hb hg
        have HB := Lib.hid hb
        have HOWN := Lib.hid hown
        clear hb hown
        rcases (show k = 0 ∨ k = 1 ∨ k = 2 by omega) with rfl | rfl | rfl
        · go_wp2_with (at_builtin; go_must (refine wpList_app_own _ rfl (.tmp 31) (.tmp 32) _ rfl w.heap.size 58 i0 _ 8 64 Try.underlying26 hi iz is ib rfl (by omega) u6 0 _ rfl HOWN.out _ _ n1 _ rfl P1.out (ints_one _) (by unfold maxLen; omega) (by omega) HB.out.size ?_); intro v' w' hown' hb')
          go_wp2
          go_roundw
          case rel => exact ⟨1, by omega, by go_num, by simpa [sumK, appK, ints] using hown', HB.out.trans hb'⟩
          case measure => simp [intOf] <;> omega
        · go_wp2_with (at_builtin; go_must (refine wpList_app_own _ rfl (.tmp 31) (.tmp 32) _ rfl w.heap.size 58 i0 _ 8 64 Try.underlying26 hi iz is ib rfl (by omega) u6 n1 _ rfl HOWN.out _ _ n2 _ rfl P2.out (ints_one _) (by unfold maxLen; omega) (by omega) HB.out.size ?_); intro v' w' hown' hb')
          go_wp2
          go_roundw
          case rel => exact ⟨2, by omega, by go_num, by simpa [sumK, appK, ints] using hown', HB.out.trans hb'⟩
          case measure => simp [intOf] <;> omega
        · go_wp2
          go_ret
          exact ⟨_, rfl, HOWN.out, HB.out⟩
end Go.Proofs.Ytpmfkpehmckgmaa
