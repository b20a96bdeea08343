/- Walks: all faults that are possible, by the reference and by the program. No condition but the bounds. -/
import Derived.Test.YtpmfkpehmckgmaaMachP
import Derived.Test.YtpmfkpehmckgmaaMachRu
namespace Go.Proofs.Ytpmfkpehmckgmaa
open Go.RowKit
set_option maxRecDepth 20000

/-- Whether a fault of a kind is possible at an operation of a kind. -/
def canB (f k : Int) : Bool := if f = 1 then k == 4 else if f = 2 then (k == 1 || k == 2 || k == 5) else if f = 3 then k == 1 else if f = 4 then k == 7 else false
theorem canB1 (k : Int) : canB 1 k = (k == 4) := rfl
theorem canB2 (k : Int) : canB 2 k = (k == 1 || k == 2 || k == 5) := rfl
theorem canB3 (k : Int) : canB 3 k = (k == 1) := rfl
theorem canB4 (k : Int) : canB 4 k = (k == 7) := rfl
theorem canB0 {f k : Int} (h1 : f ≠ 1) (h2 : f ≠ 2) (h3 : f ≠ 3) (h4 : f ≠ 4) : canB f k = false := by
  unfold canB
  rw [if_neg h1, if_neg h2, if_neg h3, if_neg h4]
theorem canFail_any (f k : Int) (w : World) (h1 : 1 ≤ k) (h9 : k ≤ 9) : Calls Try.prog 67 #[.int .i64 f, .int .i64 k] w fun e w' => e = .returned (.bool (canB f k)) ∧ w = w' := by
  have hk : k = 1 ∨ k = 2 ∨ k = 3 ∨ k = 4 ∨ k = 5 ∨ k = 6 ∨ k = 7 ∨ k = 8 ∨ k = 9 := by omega
  have HML := Lib.hid (makesLoop_any k w h1 h9)
  clear h1 h9
  by_cases f1 : f = 1
  · subst f1
    clear HML
    rcases hk with rfl | rfl | rfl | rfl | rfl | rfl | rfl | rfl | rfl
    all_goals
      go_enter Try.func67, Try.ntmps67
      go_wp2
      go_ret
      exact ⟨rfl, rfl⟩
  · have f1' : (f == 1) = false := by simpa using f1
    by_cases f2 : f = 2
    · subst f2
      rcases hk with rfl | rfl | rfl | rfl | rfl | rfl | rfl | rfl | rfl
      all_goals
        go_enter Try.func67, Try.ntmps67
        go_wp2_with fail
        refine HML.out.mono ?_
        rintro e w1 ⟨rfl, rfl⟩
        go_wp2_with fail
        go_ret
        exact ⟨rfl, rfl⟩
    · have f2' : (f == 2) = false := by simpa using f2
      clear HML
      by_cases f3 : f = 3
      · subst f3
        rcases hk with rfl | rfl | rfl | rfl | rfl | rfl | rfl | rfl | rfl
        all_goals
          go_enter Try.func67, Try.ntmps67
          go_wp2
          go_ret
          exact ⟨rfl, rfl⟩
      · have f3' : (f == 3) = false := by simpa using f3
        by_cases f4 : f = 4
        · subst f4
          rcases hk with rfl | rfl | rfl | rfl | rfl | rfl | rfl | rfl | rfl
          all_goals
            go_enter Try.func67, Try.ntmps67
            go_wp2
            go_ret
            exact ⟨rfl, rfl⟩
        · have f4' : (f == 4) = false := by simpa using f4
          have HC := Lib.hid (canB0 (k := k) f1 f2 f3 f4)
          clear f1 f2 f3 f4 hk
          go_enter Try.func67, Try.ntmps67
          go_wp2
          go_ret
          exact ⟨by rw [HC.out]; rfl, rfl⟩
theorem l29Kind_any (f k : Int) (ga o : Nat) (w : World) (h0 : w.cell? ⟨ga, o, none⟩ = some (.int .i64 k)) (h1 : 1 ≤ k) (h9 : k ≤ 9) : Calls Try.prog 52 #[.int .i64 f, .pointer (some ⟨ga, o, none⟩)] w fun e w' => e = .returned (.bool (canB f k)) ∧ w = w' := by
  have hk : k = 1 ∨ k = 2 ∨ k = 3 ∨ k = 4 ∨ k = 5 ∨ k = 6 ∨ k = 7 ∨ k = 8 ∨ k = 9 := by omega
  clear h1 h9
  by_cases f1 : f = 1
  · subst f1
    rcases hk with rfl | rfl | rfl | rfl | rfl | rfl | rfl | rfl | rfl
    all_goals
      go_enter Try.func52, Try.ntmps52
      go_wp2
      go_ret
      exact ⟨rfl, rfl⟩
  · have f1' : (f == 1) = false := by simpa using f1
    by_cases f2 : f = 2
    · subst f2
      rcases hk with rfl | rfl | rfl | rfl | rfl | rfl | rfl | rfl | rfl
      all_goals
        go_enter Try.func52, Try.ntmps52
        go_wp2
        go_ret
        exact ⟨rfl, rfl⟩
    · have f2' : (f == 2) = false := by simpa using f2
      by_cases f3 : f = 3
      · subst f3
        rcases hk with rfl | rfl | rfl | rfl | rfl | rfl | rfl | rfl | rfl
        all_goals
          go_enter Try.func52, Try.ntmps52
          go_wp2
          go_ret
          exact ⟨rfl, rfl⟩
      · have f3' : (f == 3) = false := by simpa using f3
        by_cases f4 : f = 4
        · subst f4
          rcases hk with rfl | rfl | rfl | rfl | rfl | rfl | rfl | rfl | rfl
          all_goals
            go_enter Try.func52, Try.ntmps52
            go_wp2
            go_ret
            exact ⟨rfl, rfl⟩
        · have f4' : (f == 4) = false := by simpa using f4
          have HC := Lib.hid (canB0 (k := k) f1 f2 f3 f4)
          clear f1 f2 f3 f4 hk
          go_enter Try.func52, Try.ntmps52
          go_wp2
          go_ret
          exact ⟨by rw [HC.out]; rfl, rfl⟩
/-- The faults of an operation, kind after kind, behind those before; all faults (two numbers each). -/
def fK (z : Nat → Int) (i : Nat) (b : List Int) : Nat → List Int
  | 0 => b
  | f + 1 => if canB ((f : Int) + 1) (z (i * 8)) = true then fK z i b f ++ [(f : Int) + 1, (i : Int)] else fK z i b f
def fL (z : Nat → Int) : Nat → List Int
  | 0 => []
  | i + 1 => fK z i (fL z i) 4
theorem fK_len (z : Nat → Int) (i m : Nat) (b : List Int) (h : b.length = 2 * m) : ∀ f, ∃ m', (fK z i b f).length = 2 * m' ∧ m' ≤ m + f
  | 0 => ⟨m, h, Nat.le_refl _⟩
  | f + 1 => by
    obtain ⟨m', h1, h2⟩ := fK_len z i m b h f
    unfold fK
    split
    · exact ⟨m' + 1, by simp [h1]; omega, by omega⟩
    · exact ⟨m', h1, by omega⟩
theorem fL_len (z : Nat → Int) : ∀ i, ∃ m, (fL z i).length = 2 * m ∧ m ≤ 4 * i
  | 0 => ⟨0, rfl, Nat.le_refl _⟩
  | i + 1 => by
    obtain ⟨m, h1, h2⟩ := fL_len z i
    obtain ⟨m', h3, h4⟩ := fK_len z i m _ h1 4
    exact ⟨m', h3, by omega⟩
theorem infoFa : (Try.prog.info? 52).map (fun i => (i.zero, i.size, i.bytes)) = some (some (.agg #[.int .i64 0, .int .i64 0]), 2, 16) := by kernel_rfl
def FaP (w : World) (L : List Int) (e : Ending) (w' : World) : Prop := ∃ (v : Value) (m : Nat), e = .returned v ∧ L.length = 2 * m ∧ m ≤ 6000 ∧ w'.ownsRow w.heap.size 52 2 v m (ints L) ∧ Below w.heap.size w w'
section
variable (A : Option Addr) (n q : Nat) (z : Nat → Int) (w : World)
set_option maxHeartbeats 4000000 in
theorem l29Faults_any (ha : Rd w A (n * 8) (fun j => .int .i64 (z j))) (hn : n ≤ 1500) (hk : ∀ i, i < n → 1 ≤ z (i * 8) ∧ z (i * 8) ≤ 9) : Calls Try.prog 43 #[.slice A n q] w (FaP w (fL z n)) := by
  obtain ⟨i0, hi, iz, is, ib⟩ := info_parts infoFa
  have HA := Lib.hid ha
  have HKK := Lib.hid hk
  have H0 : Hid ((w.alloc (.cells #[] 52)).ownsRow w.heap.size 52 2 (.slice (some ⟨w.heap.size, 0, none⟩) 0 0) 0 (ints (fL z 0))) := Lib.hid (own_lit w [] 0 (Nat.le_refl _) (Nat.zero_le _) rfl)
  clear ha hk
  go_enter Try.func43, Try.ntmps43
  go_wp2_with fail
  go_loopw [3, 4, 5] (fun ov iv _ wr => ∃ (i m : Nat) (L : List Int), i ≤ n ∧ iv = .int .i64 i ∧ L = fL z i ∧ L.length = 2 * m ∧ m ≤ 4 * i ∧ wr.ownsRow w.heap.size 52 2 ov m (ints L) ∧ Below w.heap.size w wr) (fun _ iv _ _ => n - (intOf iv).toNat)
  case atStart => exact ⟨0, 0, _, Nat.zero_le _, rfl, rfl, rfl, Nat.le_refl _, H0.out, (Below.refl _ _).alloc (Nat.le_refl _) _⟩
  case round =>
    obtain ⟨i, m, L, hile, rfl, hL, hlen, hmi, hown, hb⟩ := hrel
    have HL := Lib.hid hL
    have HOWN := Lib.hid hown
    have HB := Lib.hid hb
    have HLEN := Lib.hid hlen
    clear hL hown hb hlen
    by_cases hlt : i < n
    · have HLT := Lib.hid hlt
      obtain ⟨ga, o, rfl, hga, hra⟩ := HA.out (by omega)
      have HO : Hid (∀ w', Below w.heap.size w w' → w'.cell? ⟨ga, o + i * 8, none⟩ = some (.int .i64 (z (i * 8)))) := Lib.hid fun w' hb => ((bcell hb).1 ga _ hga).trans (hra (i * 8) (by omega))
      have hk1 := (HKK.out i hlt).1
      have hk9 := (HKK.out i hlt).2
      obtain ⟨k, hk⟩ : ∃ x, x = z (i * 8) := ⟨_, rfl⟩
      rw [← hk] at HO hk1 hk9
      have HK := Lib.hid hk
      have HK1 := Lib.hid hk1
      have HK9 := Lib.hid hk9
      clear hra hga hk hk1 hk9
      go_wp2_with fail
      go_loopw [3, 5] (fun ov fv wx => ∃ (f m' : Nat) (L' : List Int), f ≤ 4 ∧ fv = .int .i64 ((f : Int) + 1) ∧ L' = fK z i L f ∧ L'.length = 2 * m' ∧ m' ≤ m + f ∧ wx.ownsRow w.heap.size 52 2 ov m' (ints L') ∧ Below w.heap.size w wx) (fun _ fv _ => 5 - (intOf fv).toNat)
      case atStart => exact ⟨0, m, L, Nat.zero_le _, rfl, rfl, HLEN.out, Nat.le_refl _, HOWN.out, HB.out⟩
      case round =>
        obtain ⟨f, m', L', hf, rfl, hL', hlen', hm', hown', hb'⟩ := hrel
        have HL' := Lib.hid hL'
        have HOWN' := Lib.hid hown'
        have HB' := Lib.hid hb'
        have HLEN' := Lib.hid hlen'
        clear hL' hown' hb' hlen'
        by_cases hf4 : f < 4
        · have e0 := HO.out _ HB'.out
          have hkk := l29Kind_any ((f : Int) + 1) k ga (o + i * 8) _ e0 HK1.out HK9.out
          cases hc : canB ((f : Int) + 1) k
          · rw [hc] at hkk
            have HN : Hid (fK z i L (f + 1) = L') := Lib.hid ((show fK z i L (f + 1) = if canB ((f : Int) + 1) (z (i * 8)) = true then fK z i L f ++ [(f : Int) + 1, (i : Int)] else fK z i L f from rfl).trans (by rw [← HK.out, hc, if_neg (by decide), HL'.out]))
            have HKD := Lib.hid hkk
            clear hkk e0 hc
            go_wp2_with fail
            refine HKD.out.mono ?_
            rintro e w1 ⟨rfl, rfl⟩
            go_wp2_with fail
            go_roundw
            case rel => exact ⟨f + 1, m', L', hf4, by go_num, HN.out.symm, HLEN'.out, by omega, HOWN'.out, HB'.out⟩
            case measure => simp [intOf] <;> omega
          · rw [hc] at hkk
            have HN : Hid (fK z i L (f + 1) = L' ++ [(f : Int) + 1, (i : Int)]) := Lib.hid ((show fK z i L (f + 1) = if canB ((f : Int) + 1) (z (i * 8)) = true then fK z i L f ++ [(f : Int) + 1, (i : Int)] else fK z i L f from rfl).trans (by rw [← HK.out, hc, if_pos rfl, HL'.out]))
            have HKD := Lib.hid hkk
            clear hkk e0 hc
            go_wp2_with fail
            refine HKD.out.mono ?_
            rintro e w1 ⟨rfl, rfl⟩
            obtain ⟨Ao, co, rfl⟩ := own_form HOWN'.out
            go_wp2_with (at_builtin; go_must (refine wpList_app _ rfl (.tmp 22) (.tmp 26) _ rfl w.heap.size 52 i0 _ 2 16 Try.underlying30 hi iz is ib rfl (by omega) (.slice Ao m' co) m' _ (by rfl) HOWN'.out _ 1 1 (ints [(f : Int) + 1, (i : Int)]) rfl rfl (ints_one _) (by unfold maxLen; omega) (by omega) HB'.out.size ?_); intro v' w' hown' hb'; rw [← ints_app] at hown'; have HOWN2 := Lib.hid hown'; have HB2 := Lib.hid (HB'.out.trans hb'); clear hown' hb')
            go_wp2_with fail
            go_roundw
            case rel => exact ⟨f + 1, m' + 1, L' ++ [(f : Int) + 1, (i : Int)], hf4, by go_num, HN.out.symm, by have := HLEN'.out; simp; omega, by omega, HOWN2.out, HB2.out⟩
            case measure => simp [intOf] <;> omega
        · obtain rfl : f = 4 := by omega
          have HN : Hid (L' = fL z (i + 1)) := Lib.hid (by rw [HL'.out, HL.out]; rfl)
          go_wp2_with fail
          go_roundw
          case rel => exact ⟨i + 1, m', L', HLT.out, by go_num, HN.out, HLEN'.out, by omega, HOWN'.out, HB'.out⟩
          case measure => simp [intOf] <;> omega
    · obtain rfl : i = n := by omega
      obtain ⟨A', c', rfl⟩ := own_form HOWN.out
      go_wp2_with fail
      go_ret
      exact ⟨_, m, rfl, by rw [← HL.out]; exact HLEN.out, by omega, by rw [← HL.out]; exact HOWN.out, HB.out⟩
set_option maxHeartbeats 4000000 in
theorem faultsOf_any (ha : Rd w A (n * 8) (fun j => .int .i64 (z j))) (hn : n ≤ 1500) (hk : ∀ i, i < n → 1 ≤ z (i * 8) ∧ z (i * 8) ≤ 9) : Calls Try.prog 44 #[.slice A n q] w (FaP w (fL z n)) := by
  obtain ⟨i0, hi, iz, is, ib⟩ := info_parts infoFa
  have HA := Lib.hid ha
  have HKK := Lib.hid hk
  have H0 : Hid ((w.alloc (.cells #[] 52)).ownsRow w.heap.size 52 2 (.slice (some ⟨w.heap.size, 0, none⟩) 0 0) 0 (ints (fL z 0))) := Lib.hid (own_lit w [] 0 (Nat.le_refl _) (Nat.zero_le _) rfl)
  clear ha hk
  go_enter Try.func44, Try.ntmps44
  go_wp2_with fail
  go_loopw [3, 10] (fun ov iv wr => ∃ (i m : Nat) (L : List Int), i ≤ n ∧ iv = .int .i64 i ∧ L = fL z i ∧ L.length = 2 * m ∧ m ≤ 4 * i ∧ wr.ownsRow w.heap.size 52 2 ov m (ints L) ∧ Below w.heap.size w wr) (fun _ iv _ => n - (intOf iv).toNat)
  case atStart => exact ⟨0, 0, _, Nat.zero_le _, rfl, rfl, rfl, Nat.le_refl _, H0.out, (Below.refl _ _).alloc (Nat.le_refl _) _⟩
  case round =>
    obtain ⟨i, m, L, hile, rfl, hL, hlen, hmi, hown, hb⟩ := hrel
    have HL := Lib.hid hL
    have HOWN := Lib.hid hown
    have HB := Lib.hid hb
    have HLEN := Lib.hid hlen
    clear hL hown hb hlen
    by_cases hlt : i < n
    · have HLT := Lib.hid hlt
      obtain ⟨ga, o, rfl, hga, hra⟩ := HA.out (by omega)
      have hce := opCe_of (hra.below hga HB.out) hlt
      have hk1 := (HKK.out i hlt).1
      have hk9 := (HKK.out i hlt).2
      obtain ⟨k, hx0⟩ : ∃ x, x = z (i * 8) := ⟨_, rfl⟩
      obtain ⟨d, hx1⟩ : ∃ x, x = z (i * 8 + 1) := ⟨_, rfl⟩
      obtain ⟨fb, hx2⟩ : ∃ x, x = z (i * 8 + 2) := ⟨_, rfl⟩
      obtain ⟨fa, hx3⟩ : ∃ x, x = z (i * 8 + 3) := ⟨_, rfl⟩
      obtain ⟨tb, hx4⟩ : ∃ x, x = z (i * 8 + 4) := ⟨_, rfl⟩
      obtain ⟨ta, hx5⟩ : ∃ x, x = z (i * 8 + 5) := ⟨_, rfl⟩
      obtain ⟨c, hx6⟩ : ∃ x, x = z (i * 8 + 6) := ⟨_, rfl⟩
      obtain ⟨r, hx7⟩ : ∃ x, x = z (i * 8 + 7) := ⟨_, rfl⟩
      rw [← hx0] at hk1 hk9
      rw [← hx0, ← hx1, ← hx2, ← hx3, ← hx4, ← hx5, ← hx6, ← hx7] at hce
      have HK := Lib.hid hx0
      have HK1 := Lib.hid hk1
      have HK9 := Lib.hid hk9
      have o0 := hce.c0
      have o1 := hce.c1
      have o2 := hce.c2
      have o3 := hce.c3
      have o4 := hce.c4
      have o5 := hce.c5
      have o6 := hce.c6
      have o7 := hce.c7
      clear hra hga hx0 hx1 hx2 hx3 hx4 hx5 hx6 hx7 hk1 hk9 hce
      go_upto_region 5 with (fail)
      obtain ⟨W1, hW1⟩ : ∃ x, x = wr.alloc (.cells #[.int .i64 k, .int .i64 d, .int .i64 fb, .int .i64 fa, .int .i64 tb, .int .i64 ta, .int .i64 c, .int .i64 r] 58) := ⟨_, rfl⟩
      rw [← hW1]
      obtain ⟨bx, hbx⟩ : ∃ x, x = wr.heap.size := ⟨_, rfl⟩
      rw [← hbx]
      obtain ⟨AO, cO, rfl⟩ := own_form HOWN.out
      have hb1 : Below wr.heap.size wr W1 := hW1 ▸ (Below.refl _ _).alloc (Nat.le_refl _) _
      have HBX : Hid (Blk W1 bx 58 #[.int .i64 k, .int .i64 d, .int .i64 fb, .int .i64 fa, .int .i64 tb, .int .i64 ta, .int .i64 c, .int .i64 r]) := Lib.hid (hW1 ▸ Blk.at_ _ _ _ hbx)
      have HOWN1 := Lib.hid (own_below HOWN.out hb1)
      have HB1 := Lib.hid (HB.out.trans (hb1.mono HB.out.size))
      have HNE : Hid (∀ b, (Value.slice AO m cO).ownBlock = some b → b ≠ bx) := Lib.hid fun b hb => by have := (HOWN.out.lt b hb).2; omega
      clear hb1 hW1 hbx o0 o1 o2 o3 o4 o5 o6 o7
      go_wp2_with fail
      go_loopw [3, 6] (fun ov fv wx => ∃ (f m' : Nat) (L' : List Int), f ≤ 4 ∧ fv = .int .i64 ((f : Int) + 1) ∧ L' = fK z i L f ∧ L'.length = 2 * m' ∧ m' ≤ m + f ∧ wx.ownsRow w.heap.size 52 2 ov m' (ints L') ∧ (∀ b, ov.ownBlock = some b → b ≠ bx) ∧ Blk wx bx 58 #[.int .i64 k, .int .i64 d, .int .i64 fb, .int .i64 fa, .int .i64 tb, .int .i64 ta, .int .i64 c, .int .i64 r] ∧ Below w.heap.size w wx) (fun _ fv _ => 5 - (intOf fv).toNat)
      case atStart => exact ⟨0, m, L, Nat.zero_le _, rfl, rfl, HLEN.out, Nat.le_refl _, HOWN1.out, HNE.out, HBX.out, HB1.out⟩
      case round =>
        obtain ⟨f, m', L', hf, rfl, hL', hlen', hm', hown', hne', hbx', hb'⟩ := hrel
        have HL' := Lib.hid hL'
        have HOWN' := Lib.hid hown'
        have HB' := Lib.hid hb'
        have HLEN' := Lib.hid hlen'
        have HNE' := Lib.hid hne'
        have HBX' := Lib.hid hbx'
        clear hL' hown' hb' hlen' hne' hbx'
        by_cases hf4 : f < 4
        · have e0 := HBX'.out.cell 0
          replace e0 := (show _ = some (Value.int .i64 k) from e0)
          have hkk := fun w0 : World => canFail_any ((f : Int) + 1) k w0 HK1.out HK9.out
          cases hc : canB ((f : Int) + 1) k
          · rw [hc] at hkk
            have HN : Hid (fK z i L (f + 1) = L') := Lib.hid ((show fK z i L (f + 1) = if canB ((f : Int) + 1) (z (i * 8)) = true then fK z i L f ++ [(f : Int) + 1, (i : Int)] else fK z i L f from rfl).trans (by rw [← HK.out, hc, if_neg (by decide), HL'.out]))
            have HKD := Lib.hid hkk
            clear hkk hc
            go_wp2_with fail
            refine (HKD.out _).mono ?_
            rintro e w1 ⟨rfl, rfl⟩
            go_wp2_with fail
            go_roundw
            case rel => exact ⟨f + 1, m', L', hf4, by go_num, HN.out.symm, HLEN'.out, by omega, HOWN'.out, HNE'.out, HBX'.out, HB'.out⟩
            case measure => simp [intOf] <;> omega
          · rw [hc] at hkk
            have HN : Hid (fK z i L (f + 1) = L' ++ [(f : Int) + 1, (i : Int)]) := Lib.hid ((show fK z i L (f + 1) = if canB ((f : Int) + 1) (z (i * 8)) = true then fK z i L f ++ [(f : Int) + 1, (i : Int)] else fK z i L f from rfl).trans (by rw [← HK.out, hc, if_pos rfl, HL'.out]))
            have HKD := Lib.hid hkk
            clear hkk hc
            go_wp2_with fail
            refine (HKD.out _).mono ?_
            rintro e w1 ⟨rfl, rfl⟩
            obtain ⟨Ao, co, rfl⟩ := own_form HOWN'.out
            go_wp2_with (at_builtin; go_must (refine wpList_appGa _ rfl (.tmp 23) (.tmp 27) _ rfl w.heap.size 52 i0 _ 2 16 Try.underlying30 hi iz is ib rfl (by omega) (.slice Ao m' co) m' _ (by rfl) HOWN'.out _ 1 1 (ints [(f : Int) + 1, (i : Int)]) rfl rfl (ints_one _) (by unfold maxLen; omega) (by omega) HB'.out.size ?_); intro v' w' hown' hfr' hat'; have HB2 := Lib.hid (HB'.out.trans (hfr'.own HOWN'.out HB'.out.size)); have HBX2 := Lib.hid (HBX'.out.fr hfr' (fun e => HNE'.out _ e rfl)); have HNE2 : Hid (∀ b, v'.ownBlock = some b → b ≠ bx) := Lib.hid (fun b hb => by rcases hat' with h | h; exact HNE'.out b (h.symm.trans hb); have h1 := Option.some.inj (hb.symm.trans h); have h2 := HBX'.out.lt; omega); rw [← ints_app] at hown'; have HOWN2 := Lib.hid hown'; clear hown' hfr' hat')
            go_wp2_with fail
            go_roundw
            case rel => exact ⟨f + 1, m' + 1, L' ++ [(f : Int) + 1, (i : Int)], hf4, by go_num, HN.out.symm, by have := HLEN'.out; simp; omega, by omega, HOWN2.out, HNE2.out, HBX2.out, HB2.out⟩
            case measure => simp [intOf] <;> omega
        · obtain rfl : f = 4 := by omega
          have HN : Hid (L' = fL z (i + 1)) := Lib.hid (by rw [HL'.out, HL.out]; rfl)
          go_wp2_with fail
          go_roundw
          case rel => exact ⟨i + 1, m', L', HLT.out, by go_num, HN.out, HLEN'.out, by omega, HOWN'.out, HB'.out⟩
          case measure => simp [intOf] <;> omega
    · obtain rfl : i = n := by omega
      obtain ⟨A', c', rfl⟩ := own_form HOWN.out
      go_wp2_with fail
      go_ret
      exact ⟨_, m, rfl, by rw [← HL.out]; exact HLEN.out, by omega, by rw [← HL.out]; exact HOWN.out, HB.out⟩
end
end Go.Proofs.Ytpmfkpehmckgmaa
