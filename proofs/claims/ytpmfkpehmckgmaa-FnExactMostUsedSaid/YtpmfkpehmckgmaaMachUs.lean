/- Walks: how often needles are named, by the reference and by the program. No condition but the bounds. Walks: both NeedleUses. No condition but the bounds. -/
import Derived.Test.YtpmfkpehmckgmaaMachPk
namespace Go.Proofs.Ytpmfkpehmckgmaa
open Go.RowKit
set_option maxRecDepth 20000

theorem make64m (m : Nat) (hm : m ≤ 1000000) : ∃ cs : Array Value, cs.size = m ∧ (∀ j, j < m → cs[j]? = some (.int .i64 0)) ∧ ∀ w : World, (Instr.makeSlice 41 (.int .i64 (m : Int)) (.int .i64 (m : Int))).run Try.prog w = .ok (.slice (some ⟨w.heap.size, 0, none⟩) m m) (w.alloc (.cells cs 2)) := by
  obtain ⟨i0, hi, iz, is, ib⟩ := info_parts infoN
  refine ⟨madeCells (Value.int .i64 0).cells m, size_madeCells _ _, fun j hj => ?_, fun w => ?_⟩
  · simp [madeCells, hj, Value.cells, Nat.mod_one]
  · have h := run_makeSlice (P := Try.prog) w 41 2 i0 (.int .i64 0) Try.underlying41 hi iz .i64 .i64 m m (by omega) (Int.le_refl _) (by rw [is]; simp; omega) (by rw [ib]; omega) (by omega)
    rw [is] at h
    simpa using h
/-- Numbers as cells. -/
def arrI (f : Nat → Int) (W : Nat) : Array Value := ((List.range W).map fun j => Value.int .i64 (f j)).toArray
theorem arrI_at (f : Nat → Int) (W : Nat) {j : Nat} (hj : j < W) : (arrI f W)[j]? = some (.int .i64 (f j)) := by simp [arrI, hj]
theorem arrI_q (f : Nat → Int) (W i : Nat) : (arrI f W)[i]? = if i < W then some (.int .i64 (f i)) else none := by
  split
  · exact arrI_at f W ‹_›
  · exact Array.getElem?_eq_none (by simp [arrI]; omega)
theorem arrI_set (f : Nat → Int) (W : Nat) {x : Nat} (u : Int) : (arrI f W).setIfInBounds x (.int .i64 u) = arrI (fun q => if q = x then u else f q) W := by
  have hs : (arrI f W).size = W := by simp [arrI]
  apply Array.ext_getElem?
  intro i
  rw [Array.getElem?_setIfInBounds, arrI_q, arrI_q, hs]
  by_cases h : x = i
  · subst h
    by_cases hx : x < W
    · simp [hx]
    · simp [hx]
  · rw [if_neg h, show (if i = x then u else f i) = f i from if_neg (fun e => h e.symm)]
theorem arrI_zero {cs : Array Value} {W : Nat} (hs : cs.size = W) (hc : ∀ j, j < W → cs[j]? = some (.int .i64 0)) : cs = arrI (fun _ => 0) W := by
  apply Array.ext
  · simp [arrI, hs]
  · intro i h1 h2
    have h := hc i (by omega)
    rw [Array.getElem?_eq_getElem h1] at h
    injection h with h
    rw [h]
    simp [arrI]
/-- Whether an operation's end names needle x of bed b. -/
def one (b : Int) (x : Nat) (nb na : Int) : Int := if nb = b ∧ na = (x : Int) then 1 else 0
def uU (z : Nat → Int) (b : Int) : Nat → Nat → Int
  | 0, _ => 0
  | i + 1, x => uU z b i x + one b x (z (i * 8 + 2)) (z (i * 8 + 3)) + one b x (z (i * 8 + 4)) (z (i * 8 + 5))
def uH (z : Nat → Int) (b : Int) (i x : Nat) : Int := uU z b i x + one b x (z (i * 8 + 2)) (z (i * 8 + 3))
theorem one_bd (b : Int) (x : Nat) (nb na : Int) : 0 ≤ one b x nb na ∧ one b x nb na ≤ 1 := by unfold one; split <;> omega
theorem uU_bd (z : Nat → Int) (b : Int) (i x : Nat) : 0 ≤ uU z b i x ∧ uU z b i x ≤ 2 * (i : Int) := by
  induction i with
  | zero => simp [uU]
  | succ i ih =>
    have h1 := one_bd b x (z (i * 8 + 2)) (z (i * 8 + 3))
    have h2 := one_bd b x (z (i * 8 + 4)) (z (i * 8 + 5))
    simp only [uU]
    omega
theorem uH_bd (z : Nat → Int) (b : Int) (i x : Nat) : 0 ≤ uH z b i x ∧ uH z b i x ≤ 2 * (i : Int) + 1 := by
  have h1 := one_bd b x (z (i * 8 + 2)) (z (i * 8 + 3))
  have h2 := uU_bd z b i x
  unfold uH
  omega
/-- Numbers with one more at a needle, if the bed is the one. -/
def plus (f : Nat → Int) (b nb na : Int) (q : Nat) : Int := f q + one b q nb na
theorem plus_yes (f : Nat → Int) (b : Int) {na : Int} (h0 : 0 ≤ na) : (fun q => if q = na.toNat then f na.toNat + 1 else f q) = plus f b b na := by
  funext q
  unfold plus one
  by_cases h : q = na.toNat
  · rw [if_pos h, if_pos ⟨rfl, by omega⟩, h]
  · rw [if_neg h, if_neg (fun e => h (by omega))]
    omega
theorem plus_no (f : Nat → Int) {b nb : Int} (na : Int) (h : nb ≠ b) : plus f b nb na = f := by
  funext q
  unfold plus one
  rw [if_neg (fun e => h e.1)]
  omega
/-- The two counts in memory. -/
structure Use2 (gF gK W : Nat) (f k : Nat → Int) (w : World) : Prop where
  f : Blk w gF 2 (arrI f W)
  k : Blk w gK 2 (arrI k W)
  ne : gF ≠ gK
section
variable {gF gK W : Nat} {f k : Nat → Int} {w w' : World}
theorem Use2.below (h : Use2 gF gK W f k w) (hb : Below w.heap.size w w') : Use2 gF gK W f k w' := ⟨h.f.below hb h.f.lt, h.k.below hb h.k.lt, h.ne⟩
theorem Use2.incF (h : Use2 gF gK W f k w) (na : Int) (h0 : 0 ≤ na) : Use2 gF gK W (plus f 1 1 na) (plus k 2 1 na) (w.setCell ⟨gF, na.toNat, none⟩ (.int .i64 (f na.toNat + 1))) := by
  refine ⟨?_, ?_, h.ne⟩
  · have := h.f.set_ na.toNat (.int .i64 (f na.toNat + 1))
    rw [arrI_set, plus_yes f 1 h0] at this
    exact this
  · rw [plus_no k na (by omega)]
    exact h.k.far (p := ⟨gF, na.toNat, none⟩) h.ne.symm _
theorem Use2.incK (h : Use2 gF gK W f k w) (na : Int) (h0 : 0 ≤ na) : Use2 gF gK W (plus f 1 2 na) (plus k 2 2 na) (w.setCell ⟨gK, na.toNat, none⟩ (.int .i64 (k na.toNat + 1))) := by
  refine ⟨?_, ?_, h.ne⟩
  · rw [plus_no f na (by omega)]
    exact h.f.far (p := ⟨gK, na.toNat, none⟩) h.ne _
  · have := h.k.set_ na.toNat (.int .i64 (k na.toNat + 1))
    rw [arrI_set, plus_yes k 2 h0] at this
    exact this
theorem Use2.no (h : Use2 gF gK W f k w) {nb : Int} (na : Int) (h1 : nb ≠ 1) (h2 : nb ≠ 2) : Use2 gF gK W (plus f 1 nb na) (plus k 2 nb na) w := by
  rw [plus_no f na h1, plus_no k na h2]
  exact h
def UseP (w : World) (gF gK W : Nat) (f k : Nat → Int) (nb na : Int) (e : Ending) (w' : World) : Prop :=
  e = .returned (.tuple #[]) ∧ Use2 gF gK W (plus f 1 nb na) (plus k 2 nb na) w' ∧ Fr w w' (fun b => b = gF ∨ b = gK)
set_option maxHeartbeats 1000000 in
theorem l27Use_any (nb na : Int) (c1 c2 : Nat) (H : Use2 gF gK W f k w) (h0 : 0 ≤ na) (h1 : na < W) (hbd : ∀ q, 0 ≤ f q ∧ f q ≤ 1000000) (hbk : ∀ q, 0 ≤ k q ∧ k q ≤ 1000000) (hW : W ≤ 24) :
    Calls Try.prog 47 #[.slice (some ⟨gF, 0, none⟩) W c1, .slice (some ⟨gK, 0, none⟩) W c2, .agg #[.int .i64 nb, .int .i64 na]] w (UseP w gF gK W f k nb na) := by
  have hb1 : Below w.heap.size w (w.alloc (.cells #[.int .i64 nb, .int .i64 na] 37)) := (Below.refl _ _).alloc (Nat.le_refl _) _
  have HH := Lib.hid (H.below hb1)
  have HB1 := Lib.hid hb1
  have cf := (HH.out.f.cell na.toNat).trans (arrI_at f W (by omega))
  have ck := (HH.out.k.cell na.toNat).trans (arrI_at k W (by omega))
  have ff := HH.out.f.frozen na.toNat
  have fk := HH.out.k.frozen na.toNat
  have bf := hbd na.toNat
  have bk := hbk na.toNat
  have n1 : w.heap.size ≠ gF := by have := H.f.lt; omega
  have n2 : w.heap.size ≠ gK := by have := H.k.lt; omega
  obtain ⟨fv, hfv⟩ : ∃ x, x = f na.toNat := ⟨_, rfl⟩
  obtain ⟨kv, hkv⟩ : ∃ x, x = k na.toNat := ⟨_, rfl⟩
  rw [← hfv] at cf bf
  rw [← hkv] at ck bk
  have HFV := Lib.hid hfv
  have HKV := Lib.hid hkv
  clear H hb1 hbd hbk hfv hkv
  by_cases hb : nb = 1
  · subst hb
    have HF := Lib.hid (HH.out.incF na h0)
    rw [← HFV.out] at HF
    have HFR := Lib.hid ((Fr.of_below HB1.out (fun b => b = gF ∨ b = gK)).set (p := ⟨gF, na.toNat, none⟩) (.inl rfl) (.int .i64 (fv + 1)))
    go_enter Try.func47, Try.ntmps47
    go_wp2_with fail
    go_end0
    exact ⟨rfl, HF.out, HFR.out⟩
  · by_cases hb2 : nb = 2
    · subst hb2
      have HF := Lib.hid (HH.out.incK na h0)
      rw [← HKV.out] at HF
      have HFR := Lib.hid ((Fr.of_below HB1.out (fun b => b = gF ∨ b = gK)).set (p := ⟨gK, na.toNat, none⟩) (.inr rfl) (.int .i64 (kv + 1)))
      go_enter Try.func47, Try.ntmps47
      go_wp2_with fail
      go_end0
      exact ⟨rfl, HF.out, HFR.out⟩
    · have hb' : (nb == 1) = false := by simpa using hb
      have hb2' : (nb == 2) = false := by simpa using hb2
      have HF := Lib.hid (HH.out.no na hb hb2)
      have HFR := Lib.hid (Fr.of_below HB1.out (fun b => b = gF ∨ b = gK))
      clear hb hb2
      go_enter Try.func47, Try.ntmps47
      go_wp2_with fail
      go_end0
      exact ⟨rfl, HF.out, HFR.out⟩
end
/-- Two new lists. -/
def New2P (w : World) (N : Nat) (f k : Nat → Int) (c : Int) (e : Ending) (w' : World) : Prop :=
  ∃ A B cA cB, e = .returned (.tuple #[.slice A N cA, .slice B N cB, .int .i64 c]) ∧ New w w' A (N * 1) (fun j => .int .i64 (f j)) ∧ New w w' B (N * 1) (fun j => .int .i64 (k j)) ∧ ∀ b, Fb A (N * 1) b → ¬ Fb B (N * 1) b
theorem Blk.new {w w' : World} {g W : Nat} {f : Nat → Int} (hb : Below w.heap.size w w') (hg : w.heap.size ≤ g) (h : Blk w' g 2 (arrI f W)) : New w w' (some ⟨g, 0, none⟩) (W * 1) (fun j => .int .i64 (f j)) := by
  rw [Nat.mul_one]
  refine ⟨hb, fun a e => by injection e with e; subst e; exact hg, fun a e => by injection e with e; subst e; exact h.lt, fun _ => ⟨g, 0, rfl, fun j hj => ⟨⟨_, (h.cell _).trans (by rw [Nat.zero_add]; exact arrI_at f W hj)⟩, h.frozen _⟩⟩, fun _ => ⟨g, 0, rfl, h.lt, fun j hj => (h.cell _).trans (by rw [Nat.zero_add]; exact arrI_at f W hj)⟩⟩
theorem New2P.of {w w' : World} {gF gK W : Nat} {f k : Nat → Int} {cA cB : Nat} (hb : Below w.heap.size w w') (hF : w.heap.size ≤ gF) (hK : w.heap.size ≤ gK) (h : Use2 gF gK W f k w') : New2P w W f k 0 (.returned (.tuple #[.slice (some ⟨gF, 0, none⟩) W cA, .slice (some ⟨gK, 0, none⟩) W cB, .int .i64 0])) w' :=
  ⟨_, _, _, _, rfl, h.f.new hb hF, h.k.new hb hK, fun b ⟨_, a, e, h1⟩ ⟨_, a', e', h2⟩ => by
    injection e with e
    injection e' with e'
    subst e e'
    exact h.ne (h1.trans h2.symm)⟩
theorem New2P.none_ {w w' : World} (hb : Below w.heap.size w w') (f k : Nat → Int) (c : Int) : New2P w 0 f k c (.returned (.tuple #[.slice none 0 0, .slice none 0 0, .int .i64 c])) w' :=
  ⟨none, none, 0, 0, rfl, New.none_ hb _, New.none_ hb _, fun b ⟨h, _⟩ => absurd h (by omega)⟩
end Go.Proofs.Ytpmfkpehmckgmaa

namespace Go.Proofs.Ytpmfkpehmckgmaa
open Go.RowKit
set_option maxRecDepth 20000

def okW (W : Int) (z : Nat → Int) (n : Nat) : Nat := if codeOf W z n = 0 then W.toNat else 0
theorem okW_le (W : Int) (z : Nat → Int) (n : Nat) : okW W z n ≤ 24 := by
  unfold okW
  split
  · obtain ⟨W', rfl, _, h, _⟩ := codeOf_ok ‹_›
    simpa using h
  · omega
section
variable (W : Int) (A : Option Addr) (n q : Nat) (z : Nat → Int) (w : World)
set_option maxHeartbeats 2000000 in
theorem specNeedleUses_any (ha : Rd w A (n * 8) (fun j => .int .i64 (z j))) (hn : n ≤ 1048576) : Calls Try.prog 26 #[.int .i64 W, .slice A n q] w (New2P w (okW W z n) (uU z 1 n) (uU z 2 n) (codeOf W z n)) := by
  have hr := l27Run_any W A n q z w ha hn
  have HA := Lib.hid ha
  clear ha
  by_cases hc : codeOf W z n = 0
  · obtain ⟨W, rfl, hW1, hW2, hn15, hops, _⟩ := codeOf_ok hc
    have HX := Lib.hid (show okW (W : Int) z n = W from (if_pos hc).trans (Int.toNat_natCast _))
    obtain ⟨cs, hcs, hcz, hmk⟩ := make64m W (by omega)
    obtain rfl := arrI_zero hcs hcz
    have HC := Lib.hid hc
    have HR := Lib.hid hr
    have HOPS := Lib.hid hops
    clear hc hr hops hcs hcz
    go_enter Try.func26, Try.ntmps26
    go_wp2_with fail
    refine HR.out.mono ?_
    rintro e w1 ⟨_, h2⟩
    obtain ⟨g, rfl, _, _, hb⟩ := h2 HC.out
    have HB1 := Lib.hid hb
    clear h2 hb
    have HU0 : Hid (Use2 w1.heap.size (w1.heap.size + 1) W (uU z 1 0) (uU z 2 0) ((w1.alloc (.cells (arrI (fun _ => 0) W) 2)).alloc (.cells (arrI (fun _ => 0) W) 2))) := Lib.hid ⟨(Blk.at_ _ _ _ rfl).alloc _, Blk.at_ _ _ _ (by simp), by omega⟩
    have hs1 : w.heap.size ≤ w1.heap.size := HB1.out.size
    go_wp2_with fail
    go_loopw [14] (fun iv wr => ∃ i : Nat, i ≤ n ∧ iv = .int .i64 i ∧ Use2 w1.heap.size (w1.heap.size + 1) W (uU z 1 i) (uU z 2 i) wr ∧ Below w.heap.size w wr) (fun iv _ => n - (intOf iv).toNat)
    case atStart => exact ⟨0, Nat.zero_le _, rfl, HU0.out, (HB1.out.alloc hs1 _).alloc (by simp; omega) _⟩
    case round =>
      obtain ⟨i, hi, rfl, hu, hb⟩ := hrel
      have HU := Lib.hid hu
      have HB := Lib.hid hb
      clear hu hb
      by_cases hlt : i < n
      · obtain ⟨ga, o, rfl, hga, hra⟩ := HA.out (by omega)
        have hce := opCe_of (hra.below hga HB.out) hlt
        have hp := opOk_at hW1 (HOPS.out i hlt)
        have h0 := hp.f0
        have h1 := hp.f1
        have t0 := hp.t0
        have t1 := hp.t1
        have HCE := Lib.hid hce
        have o2 := hce.c2
        have o3 := hce.c3
        have HLT := Lib.hid hlt
        obtain ⟨fb, hfb⟩ : ∃ x, x = z (i * 8 + 2) := ⟨_, rfl⟩
        obtain ⟨fa, hfa⟩ : ∃ x, x = z (i * 8 + 3) := ⟨_, rfl⟩
        obtain ⟨tb, htb⟩ : ∃ x, x = z (i * 8 + 4) := ⟨_, rfl⟩
        obtain ⟨ta, hta⟩ : ∃ x, x = z (i * 8 + 5) := ⟨_, rfl⟩
        rw [← hfb] at o2
        rw [← hfa] at o3 h0 h1
        rw [← hta] at t0 t1
        have HFB := Lib.hid hfb
        have HFA := Lib.hid hfa
        have HTB := Lib.hid htb
        have HTA := Lib.hid hta
        clear hce hp hra hga hfb hfa htb hta
        go_wp2_with fail
        refine (l27Use_any fb fa W W HU.out h0 h1 (fun x => by have := uU_bd z 1 i x; omega) (fun x => by have := uU_bd z 2 i x; omega) hW2).mono ?_
        rintro e w2 ⟨rfl, hu2, hf2⟩
        have hb2 : Below w.heap.size w w2 := HB.out.trans (hf2.below HB.out.size fun b hb => by rcases hb with rfl | rfl <;> omega)
        have hce2 : OpCe ga (o + i * 8) (z (i * 8)) (z (i * 8 + 1)) (z (i * 8 + 2)) (z (i * 8 + 3)) (z (i * 8 + 4)) (z (i * 8 + 5)) (z (i * 8 + 6)) (z (i * 8 + 7)) w2 := by
          obtain ⟨ga', o', e, hga', hra'⟩ := HA.out (by omega)
          injection e with e
          injection e with e1 e2
          subst e1 e2
          exact opCe_of (hra'.below hga' hb2) HLT.out
        have HU2 := Lib.hid hu2
        have HB2 := Lib.hid hb2
        have o4 := hce2.c4
        have o5 := hce2.c5
        rw [← HTB.out] at o4
        rw [← HTA.out] at o5
        clear hu2 hf2 hb2 hce2 o2 o3
        go_wp2_with fail
        refine (l27Use_any tb ta W W HU2.out t0 t1 (fun x => by have := uU_bd z 1 i x; have := one_bd 1 x fb fa; unfold plus; omega) (fun x => by have := uU_bd z 2 i x; have := one_bd 2 x fb fa; unfold plus; omega) hW2).mono ?_
        rintro e w3 ⟨rfl, hu3, hf3⟩
        have HB3 := Lib.hid (HB2.out.trans (hf3.below HB2.out.size fun b hb => by rcases hb with rfl | rfl <;> omega))
        have HU3 : Hid (Use2 w1.heap.size (w1.heap.size + 1) W (uU z 1 (i + 1)) (uU z 2 (i + 1)) w3) := Lib.hid (by
          have e1 : plus (plus (uU z 1 i) 1 fb fa) 1 tb ta = uU z 1 (i + 1) := by funext x; unfold plus; simp only [uU]; rw [HFB.out, HFA.out, HTB.out, HTA.out]
          have e2 : plus (plus (uU z 2 i) 2 fb fa) 2 tb ta = uU z 2 (i + 1) := by funext x; unfold plus; simp only [uU]; rw [HFB.out, HFA.out, HTB.out, HTA.out]
          rw [← e1, ← e2]
          exact hu3)
        clear hu3 hf3 o4 o5
        go_wp2_with fail
        go_roundw
        case rel => exact ⟨i + 1, HLT.out, by go_num, HU3.out, HB3.out⟩
        case measure => simp [intOf] <;> omega
      · obtain rfl : n = i := by omega
        go_wp2_with fail
        go_ret3
        rw [HX.out, HC.out]
        exact New2P.of HB.out hs1 (by omega) HU.out
  · have HX := Lib.hid (show okW W z n = 0 from if_neg hc)
    have HC := Lib.hid hc
    have HR := Lib.hid hr
    obtain ⟨cd, hcd⟩ : ∃ x, x = codeOf W z n := ⟨_, rfl⟩
    have hc1 : (cd == 0) = false := by rw [hcd]; simpa using hc
    have HCD := Lib.hid hcd
    clear hc hr hcd
    go_enter Try.func26, Try.ntmps26
    go_wp2_with fail
    refine HR.out.mono ?_
    rintro e w1 ⟨h1, _⟩
    obtain ⟨rfl, hb⟩ := h1 HC.out
    have HB := Lib.hid hb
    clear h1 hb
    rw [← HCD.out]
    go_wp2_with fail
    go_ret3
    rw [HX.out, ← HCD.out]
    exact New2P.none_ HB.out _ _ _
set_option maxHeartbeats 4000000 in
theorem implNeedleUses_any (ha : Rd w A (n * 8) (fun j => .int .i64 (z j))) (hn : n ≤ 1048576) : Calls Try.prog 27 #[.int .i64 W, .slice A n q] w (New2P w (okW W z n) (uU z 1 n) (uU z 2 n) (codeOf W z n)) := by
  have hr := runCode_any W A n q z w ha hn
  have HA := Lib.hid ha
  clear ha
  by_cases hc : codeOf W z n = 0
  · obtain ⟨W, rfl, hW1, hW2, hn15, hops, _⟩ := codeOf_ok hc
    have HX := Lib.hid (show okW (W : Int) z n = W from (if_pos hc).trans (Int.toNat_natCast _))
    obtain ⟨cs, hcs, hcz, hmk⟩ := make64m W (by omega)
    obtain rfl := arrI_zero hcs hcz
    rw [hc] at hr
    have HC := Lib.hid hc
    have HR := Lib.hid hr
    have HOPS := Lib.hid hops
    clear hc hr hops hcs hcz
    go_enter Try.func27, Try.ntmps27
    go_wp2_with fail
    refine HR.out.mono ?_
    rintro e w1 ⟨rfl, hb⟩
    have HB1 := Lib.hid hb
    clear hb
    have hs1 : w.heap.size ≤ w1.heap.size := HB1.out.size
    go_wp2_with fail
    go_region
    · have HU0 : Hid (Use2 w1.heap.size (w1.heap.size + 1) W (uU z 1 0) (uU z 2 0) (((w1.alloc (.cells (arrI (fun _ => 0) W) 2)).alloc (.cells (arrI (fun _ => 0) W) 2)).drew)) := Lib.hid ⟨((Blk.at_ _ _ _ rfl).alloc _).drew1, (Blk.at_ _ _ _ (by simp)).drew1, by omega⟩
      have hgF : w.heap.size ≤ w1.heap.size := by omega
      have hgK : w.heap.size ≤ (w1.heap.size + 1) := by omega
      have HBS := Lib.hid ((HB1.out.alloc hs1 (.cells (arrI (fun _ => 0) W) 2)).alloc (by simp; omega) (.cells (arrI (fun _ => 0) W) 2)).drew
      go_wp2_with fail
      go_loopw [26] (fun iv wr => ∃ i : Nat, i ≤ n ∧ iv = .int .i64 i ∧ Use2 w1.heap.size (w1.heap.size + 1) W (uU z 1 i) (uU z 2 i) wr ∧ Below w.heap.size w wr) (fun iv _ => n - (intOf iv).toNat)
      case atStart => exact ⟨0, Nat.zero_le _, rfl, HU0.out, HBS.out⟩
      case round =>
        obtain ⟨i, hi, rfl, hu, hb⟩ := hrel
        obtain ⟨wo, hwo⟩ : ∃ x, x = wr := ⟨_, rfl⟩
        subst hwo
        have HU := Lib.hid hu
        have HB := Lib.hid hb
        clear hu hb
        by_cases hlt : i < n
        · obtain ⟨ga, o, rfl, hga, hra⟩ := HA.out (by omega)
          have hce := opCe_of (hra.below hga HB.out) hlt
          have hp := opOk_at hW1 (HOPS.out i hlt)
          have h0 := hp.f0
          have h1 := hp.f1
          have t0 := hp.t0
          have t1 := hp.t1
          have HLT := Lib.hid hlt
          generalize hx0 : z (i * 8) = k at *
          generalize hx1 : z (i * 8 + 1) = d at *
          generalize hx2 : z (i * 8 + 2) = fb at *
          generalize hx3 : z (i * 8 + 3) = fa at *
          generalize hx4 : z (i * 8 + 4) = tb at *
          generalize hx5 : z (i * 8 + 5) = ta at *
          generalize hx6 : z (i * 8 + 6) = c at *
          generalize hx7 : z (i * 8 + 7) = r at *
          have HE1 : Hid (plus (plus (uU z 1 i) 1 fb fa) 1 tb ta = uU z 1 (i + 1)) := Lib.hid (by funext x; unfold plus; simp only [uU]; rw [hx2, hx3, hx4, hx5])
          have HE2 : Hid (plus (plus (uU z 2 i) 2 fb fa) 2 tb ta = uU z 2 (i + 1)) := Lib.hid (by funext x; unfold plus; simp only [uU]; rw [hx2, hx3, hx4, hx5])
          have HF0 := Lib.hid (fun x => uU_bd z 1 i x)
          have HK0 := Lib.hid (fun x => uU_bd z 2 i x)
          have o0 := hce.c0
          have o1 := hce.c1
          have o2 := hce.c2
          have o3 : wo.cell? ⟨ga, o + i * 8 + 3, none⟩ = some (.int .i64 fa) := hce.c3
          have o4 := hce.c4
          have o5 : wo.cell? ⟨ga, o + i * 8 + 5, none⟩ = some (.int .i64 ta) := hce.c5
          have o6 := hce.c6
          have o7 := hce.c7
          have hbw : Below wo.heap.size wo ((wo.alloc (.cells #[.int .i64 k, .int .i64 d, .int .i64 fb, .int .i64 fa, .int .i64 tb, .int .i64 ta, .int .i64 c, .int .i64 r] 58)).alloc (.cells #[.int .i64 fb, .int .i64 fa, .int .i64 tb, .int .i64 ta] 37)) := by (repeat' first | with_reducible exact Below.refl _ _ | with_reducible refine Below.alloc ?_ ?_ _ | with_reducible refine Below.setCell ?_ ?_ _ | with_reducible refine Below.drew ?_ | with_reducible refine Below.drewN' ?_ _ | with_reducible (refine Below.trans ?_ (Below.mono (by assumption) ?_)) | exact Nat.le_refl _ | (simp; done) | (simp; omega) | omega)
          have HU1 := Lib.hid (HU.out.below hbw)
          have HB2 := Lib.hid (HB.out.trans (hbw.mono HB.out.size))
          have HN : Hid (Blk ((wo.alloc (.cells #[.int .i64 k, .int .i64 d, .int .i64 fb, .int .i64 fa, .int .i64 tb, .int .i64 ta, .int .i64 c, .int .i64 r] 58)).alloc (.cells #[.int .i64 fb, .int .i64 fa, .int .i64 tb, .int .i64 ta] 37)) (wo.heap.size + 1) 37 #[.int .i64 fb, .int .i64 fa, .int .i64 tb, .int .i64 ta]) := Lib.hid (Blk.at_ _ _ _ (by simp))
          have hgf := HU.out.f.lt
          have hgk := HU.out.k.lt
          clear hx0 hx1 hx2 hx3 hx4 hx5 hx6 hx7 hce hp hra hga hbw
          go_wp2_with fail
          go_loopw [36] (fun tv wr => ∃ (t : Nat) (ff kf : Nat → Int), t ≤ 2 ∧ tv = .int .i64 t ∧ Use2 w1.heap.size (w1.heap.size + 1) W ff kf wr ∧ Blk wr (wo.heap.size + 1) 37 #[.int .i64 fb, .int .i64 fa, .int .i64 tb, .int .i64 ta] ∧ Below w.heap.size w wr ∧ (t = 0 → ff = uU z 1 i ∧ kf = uU z 2 i) ∧ (t = 1 → ff = plus (uU z 1 i) 1 fb fa ∧ kf = plus (uU z 2 i) 2 fb fa) ∧ (t = 2 → ff = uU z 1 (i + 1) ∧ kf = uU z 2 (i + 1))) (fun tv _ => 2 - (intOf tv).toNat)
          case atStart => exact ⟨0, _, _, by omega, rfl, HU1.out, HN.out, HB2.out, fun _ => ⟨rfl, rfl⟩, fun h => by omega, fun h => by omega⟩
          case round =>
            obtain ⟨t, ff, kf, ht, rfl, hu, hnb, hb, e0, e1, e2⟩ := hrel
            have HB3 := Lib.hid hb
            have HNB := Lib.hid hnb
            have c0 := (show wr.cell? ⟨wo.heap.size + 1, 0, none⟩ = some (Value.int .i64 fb) from hnb.cell 0)
            have c1 := (show wr.cell? ⟨wo.heap.size + 1, 1, none⟩ = some (Value.int .i64 fa) from hnb.cell 1)
            have c2 := (show wr.cell? ⟨wo.heap.size + 1, 2, none⟩ = some (Value.int .i64 tb) from hnb.cell 2)
            have c3 := (show wr.cell? ⟨wo.heap.size + 1, 3, none⟩ = some (Value.int .i64 ta) from hnb.cell 3)
            have HNL := Lib.hid hnb.lt
            rcases (show t = 0 ∨ t = 1 ∨ t = 2 by omega) with rfl | rfl | rfl
            · obtain ⟨rfl, rfl⟩ := e0 rfl
              clear e0 e1 e2 hb
              have hbw : Below wr.heap.size wr (wr.alloc (.cells #[.int .i64 fb, .int .i64 fa] 37)) := (Below.refl _ _).alloc (Nat.le_refl _) _
              have HU3 := Lib.hid (hu.below hbw)
              have HB4 := Lib.hid (HB3.out.trans (hbw.mono HB3.out.size))
              have HN4 := Lib.hid (hnb.below hbw hnb.lt)
              have cf := (HU3.out.f.cell fa.toNat).trans (arrI_at _ W (by omega))
              have ck := (HU3.out.k.cell fa.toNat).trans (arrI_at _ W (by omega))
              have ff := HU3.out.f.frozen fa.toNat
              have fk := HU3.out.k.frozen fa.toNat
              have bf := HF0.out fa.toNat
              have bk := HK0.out fa.toNat
              have n1 : wr.heap.size ≠ w1.heap.size := by have := hu.f.lt; omega
              have n2 : wr.heap.size ≠ (w1.heap.size + 1) := by have := hu.k.lt; omega
              have HLF := Lib.hid hu.f.lt
              have HLK := Lib.hid hu.k.lt
              clear hu hnb hbw
              by_cases hb1 : fb = 1
              · subst hb1
                have HF := Lib.hid (HU3.out.incF fa h0)
                have HNF := Lib.hid (HN4.out.far (p := ⟨w1.heap.size, fa.toNat, none⟩) (by show wo.heap.size + 1 ≠ w1.heap.size; omega) (.int .i64 (uU z 1 i fa.toNat + 1)))
                obtain ⟨fv, hfv⟩ : ∃ x, x = uU z 1 i fa.toNat := ⟨_, rfl⟩
                rw [← hfv] at cf bf HF HNF
                clear hfv ck bk
                go_wp2_with fail
                go_roundw
                case rel => exact ⟨1, _, _, by omega, by go_num, HF.out, HNF.out, HB4.out.setCell (by show w.heap.size ≤ w1.heap.size; omega) _, fun h => by omega, fun _ => ⟨rfl, rfl⟩, fun h => by omega⟩
                case measure => simp [intOf] <;> omega
              · by_cases hb2 : fb = 2
                · subst hb2
                  have HF := Lib.hid (HU3.out.incK fa h0)
                  have HNF := Lib.hid (HN4.out.far (p := ⟨(w1.heap.size + 1), fa.toNat, none⟩) (by show wo.heap.size + 1 ≠ (w1.heap.size + 1); omega) (.int .i64 (uU z 2 i fa.toNat + 1)))
                  obtain ⟨kv, hkv⟩ : ∃ x, x = uU z 2 i fa.toNat := ⟨_, rfl⟩
                  rw [← hkv] at ck bk HF HNF
                  clear hkv cf bf
                  go_wp2_with fail
                  go_roundw
                  case rel => exact ⟨1, _, _, by omega, by go_num, HF.out, HNF.out, HB4.out.setCell (by show w.heap.size ≤ (w1.heap.size + 1); omega) _, fun h => by omega, fun _ => ⟨rfl, rfl⟩, fun h => by omega⟩
                  case measure => simp [intOf] <;> omega
                · have hb1' : (fb == 1) = false := by simpa using hb1
                  have hb2' : (fb == 2) = false := by simpa using hb2
                  have HF := Lib.hid (HU3.out.no fa hb1 hb2)
                  clear hb1 hb2 cf ck bf bk
                  go_wp2_with fail
                  go_roundw
                  case rel => exact ⟨1, _, _, by omega, by go_num, HF.out, HN4.out, HB4.out, fun h => by omega, fun _ => ⟨rfl, rfl⟩, fun h => by omega⟩
                  case measure => simp [intOf] <;> omega
            · obtain ⟨rfl, rfl⟩ := e1 rfl
              clear e0 e1 e2 hb
              have hbw : Below wr.heap.size wr (wr.alloc (.cells #[.int .i64 tb, .int .i64 ta] 37)) := (Below.refl _ _).alloc (Nat.le_refl _) _
              have HU3 := Lib.hid (hu.below hbw)
              have HB4 := Lib.hid (HB3.out.trans (hbw.mono HB3.out.size))
              have HN4 := Lib.hid (hnb.below hbw hnb.lt)
              have cf := (HU3.out.f.cell ta.toNat).trans (arrI_at _ W (by omega))
              have ck := (HU3.out.k.cell ta.toNat).trans (arrI_at _ W (by omega))
              have ff := HU3.out.f.frozen ta.toNat
              have fk := HU3.out.k.frozen ta.toNat
              have bf := (show 0 ≤ plus (uU z 1 i) 1 fb fa ta.toNat ∧ plus (uU z 1 i) 1 fb fa ta.toNat ≤ 1000000 from by have := HF0.out ta.toNat; have := one_bd 1 ta.toNat fb fa; unfold plus; omega)
              have bk := (show 0 ≤ plus (uU z 2 i) 2 fb fa ta.toNat ∧ plus (uU z 2 i) 2 fb fa ta.toNat ≤ 1000000 from by have := HK0.out ta.toNat; have := one_bd 2 ta.toNat fb fa; unfold plus; omega)
              have n1 : wr.heap.size ≠ w1.heap.size := by have := hu.f.lt; omega
              have n2 : wr.heap.size ≠ (w1.heap.size + 1) := by have := hu.k.lt; omega
              have HLF := Lib.hid hu.f.lt
              have HLK := Lib.hid hu.k.lt
              clear hu hnb hbw
              by_cases hb1 : tb = 1
              · subst hb1
                have HF := Lib.hid (HU3.out.incF ta t0)
                have HNF := Lib.hid (HN4.out.far (p := ⟨w1.heap.size, ta.toNat, none⟩) (by show wo.heap.size + 1 ≠ w1.heap.size; omega) (.int .i64 (plus (uU z 1 i) 1 fb fa ta.toNat + 1)))
                obtain ⟨fv, hfv⟩ : ∃ x, x = plus (uU z 1 i) 1 fb fa ta.toNat := ⟨_, rfl⟩
                rw [← hfv] at cf bf HF HNF
                clear hfv ck bk
                go_wp2_with fail
                go_roundw
                case rel => exact ⟨2, _, _, by omega, by go_num, HF.out, HNF.out, HB4.out.setCell (by show w.heap.size ≤ w1.heap.size; omega) _, fun h => by omega, fun h => by omega, fun _ => ⟨HE1.out, HE2.out⟩⟩
                case measure => simp [intOf] <;> omega
              · by_cases hb2 : tb = 2
                · subst hb2
                  have HF := Lib.hid (HU3.out.incK ta t0)
                  have HNF := Lib.hid (HN4.out.far (p := ⟨(w1.heap.size + 1), ta.toNat, none⟩) (by show wo.heap.size + 1 ≠ (w1.heap.size + 1); omega) (.int .i64 (plus (uU z 2 i) 2 fb fa ta.toNat + 1)))
                  obtain ⟨kv, hkv⟩ : ∃ x, x = plus (uU z 2 i) 2 fb fa ta.toNat := ⟨_, rfl⟩
                  rw [← hkv] at ck bk HF HNF
                  clear hkv cf bf
                  go_wp2_with fail
                  go_roundw
                  case rel => exact ⟨2, _, _, by omega, by go_num, HF.out, HNF.out, HB4.out.setCell (by show w.heap.size ≤ (w1.heap.size + 1); omega) _, fun h => by omega, fun h => by omega, fun _ => ⟨HE1.out, HE2.out⟩⟩
                  case measure => simp [intOf] <;> omega
                · have hb1' : (tb == 1) = false := by simpa using hb1
                  have hb2' : (tb == 2) = false := by simpa using hb2
                  have HF := Lib.hid (HU3.out.no ta hb1 hb2)
                  clear hb1 hb2 cf ck bf bk
                  go_wp2_with fail
                  go_roundw
                  case rel => exact ⟨2, _, _, by omega, by go_num, HF.out, HN4.out, HB4.out, fun h => by omega, fun h => by omega, fun _ => ⟨HE1.out, HE2.out⟩⟩
                  case measure => simp [intOf] <;> omega
            · obtain ⟨rfl, rfl⟩ := e2 rfl
              have HU5 := Lib.hid hu
              clear e0 e1 e2 hb hu hnb
              go_wp2_with fail
              go_roundw
              case rel => exact ⟨i + 1, HLT.out, by go_num, HU5.out, HB3.out⟩
              case measure => simp [intOf] <;> omega
        · obtain rfl : n = i := by omega
          go_wp2_with fail
          go_ret3
          rw [HX.out, HC.out]
          exact New2P.of HB.out hgF hgK HU.out
    · have HU0 : Hid (Use2 (w1.heap.size + 1) w1.heap.size W (uU z 1 0) (uU z 2 0) (((w1.alloc (.cells (arrI (fun _ => 0) W) 2)).alloc (.cells (arrI (fun _ => 0) W) 2)).drew)) := Lib.hid ⟨(Blk.at_ _ _ _ (by simp)).drew1, ((Blk.at_ _ _ _ rfl).alloc _).drew1, by omega⟩
      have hgF : w.heap.size ≤ (w1.heap.size + 1) := by omega
      have hgK : w.heap.size ≤ w1.heap.size := by omega
      have HBS := Lib.hid ((HB1.out.alloc hs1 (.cells (arrI (fun _ => 0) W) 2)).alloc (by simp; omega) (.cells (arrI (fun _ => 0) W) 2)).drew
      go_wp2_with fail
      go_loopw [26] (fun iv wr => ∃ i : Nat, i ≤ n ∧ iv = .int .i64 i ∧ Use2 (w1.heap.size + 1) w1.heap.size W (uU z 1 i) (uU z 2 i) wr ∧ Below w.heap.size w wr) (fun iv _ => n - (intOf iv).toNat)
      case atStart => exact ⟨0, Nat.zero_le _, rfl, HU0.out, HBS.out⟩
      case round =>
        obtain ⟨i, hi, rfl, hu, hb⟩ := hrel
        obtain ⟨wo, hwo⟩ : ∃ x, x = wr := ⟨_, rfl⟩
        subst hwo
        have HU := Lib.hid hu
        have HB := Lib.hid hb
        clear hu hb
        by_cases hlt : i < n
        · obtain ⟨ga, o, rfl, hga, hra⟩ := HA.out (by omega)
          have hce := opCe_of (hra.below hga HB.out) hlt
          have hp := opOk_at hW1 (HOPS.out i hlt)
          have h0 := hp.f0
          have h1 := hp.f1
          have t0 := hp.t0
          have t1 := hp.t1
          have HLT := Lib.hid hlt
          generalize hx0 : z (i * 8) = k at *
          generalize hx1 : z (i * 8 + 1) = d at *
          generalize hx2 : z (i * 8 + 2) = fb at *
          generalize hx3 : z (i * 8 + 3) = fa at *
          generalize hx4 : z (i * 8 + 4) = tb at *
          generalize hx5 : z (i * 8 + 5) = ta at *
          generalize hx6 : z (i * 8 + 6) = c at *
          generalize hx7 : z (i * 8 + 7) = r at *
          have HE1 : Hid (plus (plus (uU z 1 i) 1 fb fa) 1 tb ta = uU z 1 (i + 1)) := Lib.hid (by funext x; unfold plus; simp only [uU]; rw [hx2, hx3, hx4, hx5])
          have HE2 : Hid (plus (plus (uU z 2 i) 2 fb fa) 2 tb ta = uU z 2 (i + 1)) := Lib.hid (by funext x; unfold plus; simp only [uU]; rw [hx2, hx3, hx4, hx5])
          have HF0 := Lib.hid (fun x => uU_bd z 1 i x)
          have HK0 := Lib.hid (fun x => uU_bd z 2 i x)
          have o0 := hce.c0
          have o1 := hce.c1
          have o2 := hce.c2
          have o3 : wo.cell? ⟨ga, o + i * 8 + 3, none⟩ = some (.int .i64 fa) := hce.c3
          have o4 := hce.c4
          have o5 : wo.cell? ⟨ga, o + i * 8 + 5, none⟩ = some (.int .i64 ta) := hce.c5
          have o6 := hce.c6
          have o7 := hce.c7
          have hbw : Below wo.heap.size wo ((wo.alloc (.cells #[.int .i64 k, .int .i64 d, .int .i64 fb, .int .i64 fa, .int .i64 tb, .int .i64 ta, .int .i64 c, .int .i64 r] 58)).alloc (.cells #[.int .i64 fb, .int .i64 fa, .int .i64 tb, .int .i64 ta] 37)) := by (repeat' first | with_reducible exact Below.refl _ _ | with_reducible refine Below.alloc ?_ ?_ _ | with_reducible refine Below.setCell ?_ ?_ _ | with_reducible refine Below.drew ?_ | with_reducible refine Below.drewN' ?_ _ | with_reducible (refine Below.trans ?_ (Below.mono (by assumption) ?_)) | exact Nat.le_refl _ | (simp; done) | (simp; omega) | omega)
          have HU1 := Lib.hid (HU.out.below hbw)
          have HB2 := Lib.hid (HB.out.trans (hbw.mono HB.out.size))
          have HN : Hid (Blk ((wo.alloc (.cells #[.int .i64 k, .int .i64 d, .int .i64 fb, .int .i64 fa, .int .i64 tb, .int .i64 ta, .int .i64 c, .int .i64 r] 58)).alloc (.cells #[.int .i64 fb, .int .i64 fa, .int .i64 tb, .int .i64 ta] 37)) (wo.heap.size + 1) 37 #[.int .i64 fb, .int .i64 fa, .int .i64 tb, .int .i64 ta]) := Lib.hid (Blk.at_ _ _ _ (by simp))
          have hgf := HU.out.f.lt
          have hgk := HU.out.k.lt
          clear hx0 hx1 hx2 hx3 hx4 hx5 hx6 hx7 hce hp hra hga hbw
          go_wp2_with fail
          go_loopw [36] (fun tv wr => ∃ (t : Nat) (ff kf : Nat → Int), t ≤ 2 ∧ tv = .int .i64 t ∧ Use2 (w1.heap.size + 1) w1.heap.size W ff kf wr ∧ Blk wr (wo.heap.size + 1) 37 #[.int .i64 fb, .int .i64 fa, .int .i64 tb, .int .i64 ta] ∧ Below w.heap.size w wr ∧ (t = 0 → ff = uU z 1 i ∧ kf = uU z 2 i) ∧ (t = 1 → ff = plus (uU z 1 i) 1 fb fa ∧ kf = plus (uU z 2 i) 2 fb fa) ∧ (t = 2 → ff = uU z 1 (i + 1) ∧ kf = uU z 2 (i + 1))) (fun tv _ => 2 - (intOf tv).toNat)
          case atStart => exact ⟨0, _, _, by omega, rfl, HU1.out, HN.out, HB2.out, fun _ => ⟨rfl, rfl⟩, fun h => by omega, fun h => by omega⟩
          case round =>
            obtain ⟨t, ff, kf, ht, rfl, hu, hnb, hb, e0, e1, e2⟩ := hrel
            have HB3 := Lib.hid hb
            have HNB := Lib.hid hnb
            have c0 := (show wr.cell? ⟨wo.heap.size + 1, 0, none⟩ = some (Value.int .i64 fb) from hnb.cell 0)
            have c1 := (show wr.cell? ⟨wo.heap.size + 1, 1, none⟩ = some (Value.int .i64 fa) from hnb.cell 1)
            have c2 := (show wr.cell? ⟨wo.heap.size + 1, 2, none⟩ = some (Value.int .i64 tb) from hnb.cell 2)
            have c3 := (show wr.cell? ⟨wo.heap.size + 1, 3, none⟩ = some (Value.int .i64 ta) from hnb.cell 3)
            have HNL := Lib.hid hnb.lt
            rcases (show t = 0 ∨ t = 1 ∨ t = 2 by omega) with rfl | rfl | rfl
            · obtain ⟨rfl, rfl⟩ := e0 rfl
              clear e0 e1 e2 hb
              have hbw : Below wr.heap.size wr (wr.alloc (.cells #[.int .i64 fb, .int .i64 fa] 37)) := (Below.refl _ _).alloc (Nat.le_refl _) _
              have HU3 := Lib.hid (hu.below hbw)
              have HB4 := Lib.hid (HB3.out.trans (hbw.mono HB3.out.size))
              have HN4 := Lib.hid (hnb.below hbw hnb.lt)
              have cf := (HU3.out.f.cell fa.toNat).trans (arrI_at _ W (by omega))
              have ck := (HU3.out.k.cell fa.toNat).trans (arrI_at _ W (by omega))
              have ff := HU3.out.f.frozen fa.toNat
              have fk := HU3.out.k.frozen fa.toNat
              have bf := HF0.out fa.toNat
              have bk := HK0.out fa.toNat
              have n1 : wr.heap.size ≠ (w1.heap.size + 1) := by have := hu.f.lt; omega
              have n2 : wr.heap.size ≠ w1.heap.size := by have := hu.k.lt; omega
              have HLF := Lib.hid hu.f.lt
              have HLK := Lib.hid hu.k.lt
              clear hu hnb hbw
              by_cases hb1 : fb = 1
              · subst hb1
                have HF := Lib.hid (HU3.out.incF fa h0)
                have HNF := Lib.hid (HN4.out.far (p := ⟨(w1.heap.size + 1), fa.toNat, none⟩) (by show wo.heap.size + 1 ≠ (w1.heap.size + 1); omega) (.int .i64 (uU z 1 i fa.toNat + 1)))
                obtain ⟨fv, hfv⟩ : ∃ x, x = uU z 1 i fa.toNat := ⟨_, rfl⟩
                rw [← hfv] at cf bf HF HNF
                clear hfv ck bk
                go_wp2_with fail
                go_roundw
                case rel => exact ⟨1, _, _, by omega, by go_num, HF.out, HNF.out, HB4.out.setCell (by show w.heap.size ≤ (w1.heap.size + 1); omega) _, fun h => by omega, fun _ => ⟨rfl, rfl⟩, fun h => by omega⟩
                case measure => simp [intOf] <;> omega
              · by_cases hb2 : fb = 2
                · subst hb2
                  have HF := Lib.hid (HU3.out.incK fa h0)
                  have HNF := Lib.hid (HN4.out.far (p := ⟨w1.heap.size, fa.toNat, none⟩) (by show wo.heap.size + 1 ≠ w1.heap.size; omega) (.int .i64 (uU z 2 i fa.toNat + 1)))
                  obtain ⟨kv, hkv⟩ : ∃ x, x = uU z 2 i fa.toNat := ⟨_, rfl⟩
                  rw [← hkv] at ck bk HF HNF
                  clear hkv cf bf
                  go_wp2_with fail
                  go_roundw
                  case rel => exact ⟨1, _, _, by omega, by go_num, HF.out, HNF.out, HB4.out.setCell (by show w.heap.size ≤ w1.heap.size; omega) _, fun h => by omega, fun _ => ⟨rfl, rfl⟩, fun h => by omega⟩
                  case measure => simp [intOf] <;> omega
                · have hb1' : (fb == 1) = false := by simpa using hb1
                  have hb2' : (fb == 2) = false := by simpa using hb2
                  have HF := Lib.hid (HU3.out.no fa hb1 hb2)
                  clear hb1 hb2 cf ck bf bk
                  go_wp2_with fail
                  go_roundw
                  case rel => exact ⟨1, _, _, by omega, by go_num, HF.out, HN4.out, HB4.out, fun h => by omega, fun _ => ⟨rfl, rfl⟩, fun h => by omega⟩
                  case measure => simp [intOf] <;> omega
            · obtain ⟨rfl, rfl⟩ := e1 rfl
              clear e0 e1 e2 hb
              have hbw : Below wr.heap.size wr (wr.alloc (.cells #[.int .i64 tb, .int .i64 ta] 37)) := (Below.refl _ _).alloc (Nat.le_refl _) _
              have HU3 := Lib.hid (hu.below hbw)
              have HB4 := Lib.hid (HB3.out.trans (hbw.mono HB3.out.size))
              have HN4 := Lib.hid (hnb.below hbw hnb.lt)
              have cf := (HU3.out.f.cell ta.toNat).trans (arrI_at _ W (by omega))
              have ck := (HU3.out.k.cell ta.toNat).trans (arrI_at _ W (by omega))
              have ff := HU3.out.f.frozen ta.toNat
              have fk := HU3.out.k.frozen ta.toNat
              have bf := (show 0 ≤ plus (uU z 1 i) 1 fb fa ta.toNat ∧ plus (uU z 1 i) 1 fb fa ta.toNat ≤ 1000000 from by have := HF0.out ta.toNat; have := one_bd 1 ta.toNat fb fa; unfold plus; omega)
              have bk := (show 0 ≤ plus (uU z 2 i) 2 fb fa ta.toNat ∧ plus (uU z 2 i) 2 fb fa ta.toNat ≤ 1000000 from by have := HK0.out ta.toNat; have := one_bd 2 ta.toNat fb fa; unfold plus; omega)
              have n1 : wr.heap.size ≠ (w1.heap.size + 1) := by have := hu.f.lt; omega
              have n2 : wr.heap.size ≠ w1.heap.size := by have := hu.k.lt; omega
              have HLF := Lib.hid hu.f.lt
              have HLK := Lib.hid hu.k.lt
              clear hu hnb hbw
              by_cases hb1 : tb = 1
              · subst hb1
                have HF := Lib.hid (HU3.out.incF ta t0)
                have HNF := Lib.hid (HN4.out.far (p := ⟨(w1.heap.size + 1), ta.toNat, none⟩) (by show wo.heap.size + 1 ≠ (w1.heap.size + 1); omega) (.int .i64 (plus (uU z 1 i) 1 fb fa ta.toNat + 1)))
                obtain ⟨fv, hfv⟩ : ∃ x, x = plus (uU z 1 i) 1 fb fa ta.toNat := ⟨_, rfl⟩
                rw [← hfv] at cf bf HF HNF
                clear hfv ck bk
                go_wp2_with fail
                go_roundw
                case rel => exact ⟨2, _, _, by omega, by go_num, HF.out, HNF.out, HB4.out.setCell (by show w.heap.size ≤ (w1.heap.size + 1); omega) _, fun h => by omega, fun h => by omega, fun _ => ⟨HE1.out, HE2.out⟩⟩
                case measure => simp [intOf] <;> omega
              · by_cases hb2 : tb = 2
                · subst hb2
                  have HF := Lib.hid (HU3.out.incK ta t0)
                  have HNF := Lib.hid (HN4.out.far (p := ⟨w1.heap.size, ta.toNat, none⟩) (by show wo.heap.size + 1 ≠ w1.heap.size; omega) (.int .i64 (plus (uU z 2 i) 2 fb fa ta.toNat + 1)))
                  obtain ⟨kv, hkv⟩ : ∃ x, x = plus (uU z 2 i) 2 fb fa ta.toNat := ⟨_, rfl⟩
                  rw [← hkv] at ck bk HF HNF
                  clear hkv cf bf
                  go_wp2_with fail
                  go_roundw
                  case rel => exact ⟨2, _, _, by omega, by go_num, HF.out, HNF.out, HB4.out.setCell (by show w.heap.size ≤ w1.heap.size; omega) _, fun h => by omega, fun h => by omega, fun _ => ⟨HE1.out, HE2.out⟩⟩
                  case measure => simp [intOf] <;> omega
                · have hb1' : (tb == 1) = false := by simpa using hb1
                  have hb2' : (tb == 2) = false := by simpa using hb2
                  have HF := Lib.hid (HU3.out.no ta hb1 hb2)
                  clear hb1 hb2 cf ck bf bk
                  go_wp2_with fail
                  go_roundw
                  case rel => exact ⟨2, _, _, by omega, by go_num, HF.out, HN4.out, HB4.out, fun h => by omega, fun h => by omega, fun _ => ⟨HE1.out, HE2.out⟩⟩
                  case measure => simp [intOf] <;> omega
            · obtain ⟨rfl, rfl⟩ := e2 rfl
              have HU5 := Lib.hid hu
              clear e0 e1 e2 hb hu hnb
              go_wp2_with fail
              go_roundw
              case rel => exact ⟨i + 1, HLT.out, by go_num, HU5.out, HB3.out⟩
              case measure => simp [intOf] <;> omega
        · obtain rfl : n = i := by omega
          go_wp2_with fail
          go_ret3
          rw [HX.out, HC.out]
          exact New2P.of HB.out hgF hgK HU.out
  · have HX := Lib.hid (show okW W z n = 0 from if_neg hc)
    obtain ⟨cd, hcd⟩ : ∃ x, x = codeOf W z n := ⟨_, rfl⟩
    rw [← hcd] at hr hc ⊢
    have hc1 : (cd == 0) = false := by simpa using hc
    have HR := Lib.hid hr
    clear hc hr hcd
    go_enter Try.func27, Try.ntmps27
    go_wp2_with fail
    refine HR.out.mono ?_
    rintro e w1 ⟨rfl, hb⟩
    have HB := Lib.hid hb
    clear hb
    go_wp2_with fail
    go_ret3
    rw [HX.out]
    exact New2P.none_ HB.out _ _ _
end
end Go.Proofs.Ytpmfkpehmckgmaa
