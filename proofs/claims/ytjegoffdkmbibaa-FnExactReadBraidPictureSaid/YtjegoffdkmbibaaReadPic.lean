/- Walks: both ReadBraidPicture. No condition but the bounds. -/
import Derived.Test.YtjegoffdkmbibaaLetters
import Derived.Test.YtjegoffdkmbibaaPictures
import Derived.Test.YtjegoffdkmbibaaObj2
import Derived.Deep.RegionLaw
import Derived.Deep.DrawnRows
namespace Go.Proofs.Ytjegoffdkmbibaa
open Go.RowKit
set_option maxRecDepth 20000
attribute [local go_sem ↓] Go.wp_at_zero Go.wp_at_succ

theorem infoI64 : (Try.prog.info? 2).map (fun i => (i.zero, i.size, i.bytes)) = some (some (.int .i64 0), 1, 8) := by kernel_rfl
def wordV (z : Nat → Int) (m : Nat) : List Value := (List.range m).map fun j => .int .i64 (z j)
theorem wordV_next (z : Nat → Int) (m : Nat) : wordV z (m + 1) = wordV z m ++ [.int .i64 (z m)] := by simp [wordV, List.range_succ]
/-- The lines of a list of texts behind its first. -/
def z1 (l : Nat → ByteArray) (j : Nat) : Int := let1 (l (j + 1))
def z2 (l : Nat → ByteArray) (j : Nat) : Int := let2 (l (j + 1))
def strandsOf (l : Nat → ByteArray) : Nat := ((l 0).size + 1) / 2
/-- Whether the first k lines of the picture of the letters z are those of l. -/
def sameTo (l : Nat → ByteArray) (z : Nat → Int) : Nat → Bool
  | 0 => true
  | k + 1 => sameTo l z k && decide (picF (strandsOf l) z k = l k)
def okL (l : Nat → ByteArray) (m : Nat) (z : Nat → Int) : Bool := decide (1 ≤ m) && decide (m ≤ 41) && braidB (strandsOf l) (m - 1) z && sameTo l z m
theorem sameTo_all {l : Nat → ByteArray} {z : Nat → Int} : ∀ {m : Nat}, sameTo l z m = true → ∀ j, j < m → picF (strandsOf l) z j = l j
  | 0, _, j, hj => absurd hj (by omega)
  | m + 1, h, j, hj => by
    simp only [sameTo, Bool.and_eq_true] at h
    rcases Nat.lt_or_ge j m with hlt | hge
    · exact sameTo_all h.1 j hlt
    · obtain rfl : j = m := by omega
      simpa using h.2
theorem sameTo_of {l : Nat → ByteArray} {z : Nat → Int} : ∀ {m : Nat}, (∀ j, j < m → picF (strandsOf l) z j = l j) → sameTo l z m = true
  | 0, _ => rfl
  | m + 1, h => by
    simp only [sameTo, Bool.and_eq_true]
    exact ⟨sameTo_of fun j hj => h j (by omega), by simpa using h m (by omega)⟩
theorem sameTo_not {l : Nat → ByteArray} {z : Nat → Int} {m j : Nat} (hj : j < m) (h : picF (strandsOf l) z j ≠ l j) : sameTo l z m = false := by
  cases hc : sameTo l z m
  · rfl
  · exact absurd (sameTo_all hc j hj) h
theorem lettersB_congr {s : Int} {z z' : Nat → Int} : ∀ {n : Nat}, (∀ j, j < n → z j = z' j) → lettersB s z n = lettersB s z' n
  | 0, _ => rfl
  | n + 1, h => by
    simp only [lettersB]
    rw [lettersB_congr fun j hj => h j (by omega), h n (by omega)]
theorem signed_natAbs (x : Int) (h : x ≠ 0) : signed (x.natAbs - 1) (decide (0 < x)) = x := by
  unfold signed
  by_cases hp : 0 < x
  · simp [hp]; omega
  · simp [hp]; omega
/-- Where the letters z make the picture l, both readings give z. -/
theorem read_same {l : Nat → ByteArray} {m : Nat} {z : Nat → Int} (h : okL l m z = true) : ∀ j, j < m - 1 → z1 l j = z j ∧ z2 l j = z j := by
  intro j hj
  simp only [okL, Bool.and_eq_true] at h
  obtain ⟨⟨⟨h1, h2⟩, hb⟩, hs⟩ := h
  have h1 : 1 ≤ m := by simpa using h1
  have hl := sameTo_all hs (j + 1) (by omega)
  simp only [braidB, Bool.and_eq_true] at hb
  have hz := lettersB_all hb.2 j hj
  rw [picF_next] at hl
  have hp : 2 * ((z j).natAbs - 1) + 2 < 2 * strandsOf l - 1 := by omega
  unfold z1 z2
  rw [← hl]
  exact ⟨(let1_cross _ _ _ hp).trans (signed_natAbs _ hz.1), (let2_cross _ _ _ hp).trans (signed_natAbs _ hz.1)⟩
theorem okL_congr {l : Nat → ByteArray} {m : Nat} {z z' : Nat → Int} (hm : 1 ≤ m) (h : ∀ j, j < m - 1 → z j = z' j) : okL l m z = okL l m z' := by
  have hs : ∀ k, k ≤ m → sameTo l z k = sameTo l z' k := by
    intro k
    induction k with
    | zero => intro _; rfl
    | succ k ih =>
      intro hk
      simp only [sameTo]
      rw [ih (by omega)]
      congr 2
      cases k with
      | zero => rfl
      | succ k => rw [picF_next, picF_next, h k (by omega)]
  unfold okL braidB
  rw [hs m (Nat.le_refl _), lettersB_congr h]
theorem ok_both (l : Nat → ByteArray) (m : Nat) : okL l m (z1 l) = okL l m (z2 l) := by
  rcases Nat.eq_zero_or_pos m with h0 | h0
  · subst h0; simp [okL]
  cases h1 : okL l m (z1 l)
  · cases h2 : okL l m (z2 l)
    · rfl
    · have := okL_congr (l := l) h0 fun j hj => (read_same h2 j hj).1
      rw [h1, h2] at this
      exact this
  · exact ((okL_congr h0 fun j hj => ((read_same h1 j hj).2 : z2 l j = z1 l j)).trans h1).symm

/-- What both hand back: the braid whose picture the list is, or none. -/
def ReadP (w : World) (l : Nat → ByteArray) (m : Nat) (e : Ending) (w' : World) : Prop :=
  ∃ A c, e = .returned (.tuple #[.agg #[.int .i64 (if okL l m (z1 l) then (strandsOf l : Int) else 0), .slice A (if okL l m (z1 l) then m - 1 else 0) c], .bool (okL l m (z1 l))]) ∧ New w w' A (if okL l m (z1 l) then m - 1 else 0) (fun j => .int .i64 (z1 l j))
theorem ReadP.no {w w' : World} {l : Nat → ByteArray} {m : Nat} {c : Nat} (h : okL l m (z1 l) = false) (hb : Below w.heap.size w w') : ReadP w l m (.returned (.tuple #[.agg #[.int .i64 0, .slice none 0 c], .bool false])) w' := by
  refine ⟨none, c, ?_, ?_⟩
  · simp [h]
  · simp only [h, Bool.false_eq_true, if_false]
    exact New.none_ hb _
theorem ReadP.yes {w w' : World} {l : Nat → ByteArray} {m : Nat} {A : Option Addr} {c : Nat} (h : okL l m (z1 l) = true) (hn : New w w' A (m - 1) (fun j => .int .i64 (z1 l j))) : ReadP w l m (.returned (.tuple #[.agg #[.int .i64 (strandsOf l), .slice A (m - 1) c], .bool true])) w' := by
  refine ⟨A, c, ?_, ?_⟩
  · simp [h]
  · simpa only [h, if_true] using hn
theorem ReadP.end_ {w w' : World} {l z : _} {m S : Nat} {A : Option Addr} {c : Nat} (hS : S = strandsOf l) (hz : okL l m z = true) (h : okL l m (z1 l) = true) (hb : Below w.heap.size w w') (ho : w'.ownsRow (w.heap.size + 2) 2 1 (.slice A (m - 1) c) (m - 1) (wordV z (m - 1))) :
    ReadP w l m (.returned (.tuple #[.agg #[.int .i64 S, .slice A (m - 1) c], .bool true])) w' := by
  subst hS
  obtain ⟨A5, c5, e5, hn5⟩ := New.of_own (w := w) hb (own_base ho (by omega))
  injection e5 with e1 _ e3
  subst e1 e3
  rw [Nat.mul_one] at hn5
  exact ReadP.yes h (hn5.congr fun j hj => by simp [wordV, List.getD, hj, (read_same hz j hj).1])
theorem okL_big {l : Nat → ByteArray} {m : Nat} {z : Nat → Int} (h : m = 0 ∨ 41 < m) : okL l m z = false := by
  unfold okL
  rcases h with h | h
  · simp [h]
  · simp [show ¬ m ≤ 41 by omega]

set_option maxHeartbeats 2000000 in
theorem specRead_any (A : Option Addr) (m c : Nat) (l : Nat → ByteArray) (w : World) (ha : Rd w A m (fun j => .string (l j))) (hm : m ≤ 1048576) (hl : ∀ j, j < m → (l j).size ≤ 1048576) :
    Calls Try.prog 48 #[.slice A m c] w (ReadP w l m) := by
  by_cases hbig : m = 0 ∨ 41 < m
  · have HO := Lib.hid (okL_big (l := l) (z := z1 l) hbig)
    rcases hbig with h | h
    · subst h
      go_enter Try.func48, Try.ntmps48
      go_wp2
      exact bodyPost_ret (v := .tuple #[.agg #[.int .i64 0, .slice none 0 0], .bool false]) (by simp [results, Try.results48, go_sem]) rfl (ReadP.no HO.out (by (repeat' first | with_reducible exact Below.refl _ _ | with_reducible refine Below.alloc ?_ ?_ _ | with_reducible refine Below.setCell ?_ ?_ _ | with_reducible refine Below.drew ?_ | with_reducible refine Below.drewN' ?_ _ | with_reducible (refine Below.trans ?_ (Below.mono (by assumption) ?_)) | exact Nat.le_refl _ | (simp; done) | (simp; omega) | omega)))
    · have h0 : ¬ m = 0 := by omega
      go_enter Try.func48, Try.ntmps48
      go_wp2
      exact bodyPost_ret (v := .tuple #[.agg #[.int .i64 0, .slice none 0 0], .bool false]) (by simp [results, Try.results48, go_sem]) rfl (ReadP.no HO.out (by (repeat' first | with_reducible exact Below.refl _ _ | with_reducible refine Below.alloc ?_ ?_ _ | with_reducible refine Below.setCell ?_ ?_ _ | with_reducible refine Below.drew ?_ | with_reducible refine Below.drewN' ?_ _ | with_reducible (refine Below.trans ?_ (Below.mono (by assumption) ?_)) | exact Nat.le_refl _ | (simp; done) | (simp; omega) | omega)))
  · obtain ⟨hm1, hm2⟩ : 1 ≤ m ∧ m ≤ 41 := by omega
    have h0 : ¬ m = 0 := by omega
    obtain ⟨i0, hi, iz, is, ib⟩ := info_parts infoI64
    obtain ⟨g, o, rfl, hg, hr⟩ := ha (by omega)
    have hc0 := hr 0 (by omega)
    rw [Nat.add_zero] at hc0
    have hz0 := hl 0 (by omega)
    obtain ⟨l0, hl0⟩ : ∃ l0, l0 = l 0 := ⟨_, rfl⟩
    simp only [← hl0] at hc0 hz0
    have h0b : ((m : Int) == 0) = false := by simp; omega
    obtain ⟨S, hS⟩ : ∃ S : Nat, S = (l0.size + 1) / 2 := ⟨_, rfl⟩
    have hS1 : ((l0.size : Int) + 1) / 2 = (S : Int) := by omega
    have HS : Hid (S = strandsOf l) := by unfold strandsOf; rw [← hl0]; exact hS
    have HS1 := Lib.hid hS1
    have HR := Lib.hid hr
    have HL := Lib.hid hl
    clear ha hr hl hl0 hbig hS
    go_enter Try.func48, Try.ntmps48
    go_wp2_with fail
    clear hS1
    go_loopw [5] (fun i wr => ∃ (k : Nat) (v : Value), 1 ≤ k ∧ k ≤ m ∧ i = .int .i64 k ∧ Blk wr w.heap.size 39 #[.int .i64 0, .slice none 0 0] ∧ Blk wr (w.heap.size + 1) 39 #[.int .i64 S, v] ∧ wr.ownsRow (w.heap.size + 2) 2 1 v (k - 1) (wordV (z1 l) (k - 1)) ∧ Below w.heap.size w wr) (fun i _ => m - (intOf i).toNat)
    case atStart => exact ⟨1, .slice none 0 0, Nat.le_refl _, hm1, rfl, (Blk.at_ _ _ _ rfl).alloc _, Blk.at_ _ _ _ (by simp), ⟨rfl, .inl ⟨rfl, rfl⟩⟩, by (repeat' first | with_reducible exact Below.refl _ _ | with_reducible refine Below.alloc ?_ ?_ _ | with_reducible refine Below.setCell ?_ ?_ _ | with_reducible refine Below.drew ?_ | with_reducible refine Below.drewN' ?_ _ | with_reducible (refine Below.trans ?_ (Below.mono (by assumption) ?_)) | exact Nat.le_refl _ | (simp; done) | (simp; omega) | omega)⟩
    case round =>
      obtain ⟨k, v, hk1, hk, rfl, hx0, hx1, hown, hb⟩ := hrel
      obtain ⟨Av, cv, rfl⟩ := own_form hown
      have HX0 := Lib.hid hx0
      have HX1 := Lib.hid hx1
      have HOWN := Lib.hid hown
      have HB := Lib.hid hb
      have hc1 := hx1.cell
      have hf1 := hx1.frozen
      have hs1 := hx1.lt
      clear hx0 hx1 hown
      by_cases hlt : k < m
      · have hcw := ((bcell hb).1 _ _ hg).trans (HR.out k hlt)
        have hzx := HL.out k hlt
        obtain ⟨x, hx⟩ : ∃ x, x = l k := ⟨_, rfl⟩
        simp only [← hx] at hcw hzx
        have HX := Lib.hid hx
        clear hx hb
        have hc11 : wr.cell? ⟨w.heap.size + 1, 1, none⟩ = some (.slice Av (k - 1) cv) := hc1 1
        have hf11 := hf1 1
        clear hc1 hf1
        have b1 : (0 : Int) ≤ (k : Int) := by omega
        have b2 : (k : Int) < (m : Int) := by omega
        have hbase : w.heap.size + 2 ≤ wr.heap.size := by omega
        go_wp2_with fail
        go_region_law (first
          | (go_simp; go_at_call 88; refine (l30Letter_any x _ hzx).mono ?_; rintro e w' ⟨rfl, rfl⟩)
          | (refine step_app wr.drew rfl (.tmp 31) (.tmp 37) _ rfl (w.heap.size + 2) 2 i0 _ 1 8 Try.underlying32 hi iz is ib rfl (by omega) (.slice Av (k - 1) cv) (k - 1) (wordV (z1 l) (k - 1)) rfl HOWN.out _ 1 1 _ rfl rfl (by simp [Value.oneCell']) (by unfold maxLen; omega) (by omega) hbase ?_; intro v' w' hown' hb'; obtain ⟨A', c', rfl⟩ := own_form hown'; have HOWN' := Lib.hid hown'; have HX0' := Lib.hid ((HX0.out.drewN 1).below hb' (by omega)); have hx1' := (HX1.out.drewN 1).below hb' (by omega); have HX1' := Lib.hid hx1'; have hc1' : w'.cell? ⟨w.heap.size + 1, 1, none⟩ = some (.slice Av (k - 1) cv) := hx1'.cell 1; have hf1' := hx1'.frozen 1; have HB' := Lib.hid ((Below.drewN' HB.out 1).trans (hb'.mono (by omega))); have hcz' : w'.cell? ⟨g, o + k, none⟩ = some (.string x) := (by rw [HX.out]; exact ((bcell HB'.out).1 _ _ hg).trans (HR.out k hlt)); clear hown' hb' hx1'))
        all_goals
          go_wp2
          go_roundw
          case rel =>
            obtain ⟨j, rfl⟩ : ∃ j, k = j + 1 := ⟨k - 1, by omega⟩
            have hw : wordV (z1 l) (j + 1) = wordV (z1 l) j ++ [.int .i64 (let1 x)] := by rw [wordV_next, HX.out]; rfl
            exact ⟨j + 1 + 1, _, by omega, by omega, by go_num, HX0'.out.far (by simp) _, HX1'.out.set_ 1 _, by rw [show j + 1 + 1 - 1 = j + 1 from rfl, hw]; exact own_set HOWN'.out (by simp) _, HB'.out.setCell (by simp) _⟩
          case measure => simp [intOf] <;> omega
      · obtain rfl : k = m := by omega
        obtain ⟨A1, c1, e1, hn1⟩ := New.of_own (w := w) hb (own_base HOWN.out (by omega))
        injection e1 with e1 e2 e3
        subst e1 e3
        rw [Nat.mul_one] at hn1
        have hn1 := hn1.congr (f' := fun j => .int .i64 (z1 l j)) fun j hj => by simp [wordV, List.getD, hj]
        have HN1 := Lib.hid hn1
        have HRd := Lib.hid hn1.rd
        clear hb hn1
        go_wp2_with fail
        refine (specBraidPicture_any S Av (k - 1) cv (z1 l) _ HRd.out (by omega)).mono ?_
        rintro e w2 ⟨A2, c2, rfl, hp2⟩
        have hx0' := HX0.out.below hp2.bl (HX0.out.lt)
        have hx1' := HX1.out.below hp2.bl (HX1.out.lt)
        have HX0' := Lib.hid hx0'
        have HX1' := Lib.hid hx1'
        have HOWN' := Lib.hid (own_below HOWN.out hp2.bl)
        have HB' := Lib.hid (HB.out.trans (hp2.bl.mono HB.out.size))
        have HR2 := Lib.hid hp2.rd
        have g0 := hx0'.cell
        have g1 := hx1'.cell
        have f0 := hx0'.frozen
        clear hp2 hx0' hx1' hc1 hf1
        cases hv : braidB (S : Int) (k - 1) (z1 l)
        · have hN := picN_no hv
          have hNo : okL l k (z1 l) = false := by
            unfold okL; rw [← HS.out, hv]; simp
          have HNo := Lib.hid hNo
          clear hNo
          have hne : ((picN (S : Int) (k - 1) (z1 l) : Int) == (k : Int)) = false := by rw [hN]; simp; omega
          clear hv hN
          go_wp2
          exact bodyPost_ret (v := .tuple #[.agg #[.int .i64 0, .slice none 0 0], .bool false]) (by simp [results, Try.results48, go_sem, g0]) rfl (ReadP.no HNo.out ((HB'.out.setCell (Nat.le_refl _) _).setCell (Nat.le_refl _) _))
        · have hN : picN (S : Int) (k - 1) (z1 l) = k := by rw [picN_yes hv]; omega
          simp only [hN] at HR2 ⊢
          have HV := Lib.hid hv
          clear hv hN
          go_wp2_with fail
          go_loopw [7] (fun i wr => ∃ j q : Nat, j ≤ k ∧ i = .int .i64 j ∧ wr = w2.drewN q ∧ Hid (sameTo l (z1 l) j = true)) (fun i _ => k - (intOf i).toNat)
          case atStart => exact ⟨0, 0, Nat.zero_le _, rfl, rfl, rfl⟩
          case round =>
            obtain ⟨j, q, hj, rfl, rfl, HJ⟩ := hrel
            by_cases hlt : j < k
            · obtain ⟨ga, oa, rfl, _, hra⟩ := HR2.out (by omega)
              have hca := hra j hlt
              have hcb := ((bcell HB'.out).1 _ _ hg).trans (HR.out j hlt)
              obtain ⟨x, hx⟩ : ∃ x, x = l j := ⟨_, rfl⟩
              obtain ⟨y, hy⟩ : ∃ y, y = picF S (z1 l) j := ⟨_, rfl⟩
              have e0 : picF (S : Int).toNat (z1 l) j = y := hy.symm
              simp only [← hx, e0] at hca hcb
              have b1 : (0 : Int) ≤ (j : Int) := by omega
              have b2 : (j : Int) < (k : Int) := by omega
              by_cases he : y = x
              · subst he
                have HN : Hid (sameTo l (z1 l) (j + 1) = true) := by
                  show sameTo l (z1 l) (j + 1) = true
                  simp only [sameTo]
                  rw [HJ.out, ← HS.out, ← hy, ← hx]; simp
                clear hra hx hy e0
                go_wp2_with fail
                go_quiet (fail)
                go_wp2
                go_roundw
                case rel => exact ⟨j + 1, q + nq, by omega, by go_num, rfl, HN.out⟩
                case measure => simp [intOf] <;> omega
              · have hne := bytes_ne he
                have HNo : Hid (okL l k (z1 l) = false) := by
                  show okL l k (z1 l) = false
                  unfold okL
                  rw [sameTo_not hlt (by rw [← HS.out, ← hy, ← hx]; exact he)]; simp
                clear hra hx hy e0 he
                go_wp2_with fail
                go_quiet (fail)
                go_wp2
                exact bodyPost_ret (v := .tuple #[.agg #[.int .i64 0, .slice none 0 0], .bool false]) (by simp [results, Try.results48, go_sem, g0]) rfl (ReadP.no HNo.out (((Below.drewN' HB'.out _).setCell (Nat.le_refl _) _).setCell (Nat.le_refl _) _))
            · obtain rfl : j = k := by omega
              have HYes : Hid (okL l j (z1 l) = true) := by
                show okL l j (z1 l) = true
                unfold okL
                rw [← HS.out, HV.out, HJ.out]; simp; omega
              have hown3 := own_set (own_set (own_drewN HOWN'.out q) (p := ⟨w.heap.size, 0, none⟩) (by simp) (.int .i64 S)) (p := ⟨w.heap.size, 1, none⟩) (by simp) (.slice Av (j - 1) cv)
              go_wp2
              refine bodyPost_ret (v := .tuple #[.agg #[.int .i64 S, .slice Av (j - 1) cv], .bool true]) (by simp [results, Try.results48, go_sem, g0]) rfl (ReadP.end_ HS.out HYes.out HYes.out (((Below.drewN' HB'.out q).setCell (Nat.le_refl _) _).setCell (Nat.le_refl _) _) hown3)
end Go.Proofs.Ytjegoffdkmbibaa
