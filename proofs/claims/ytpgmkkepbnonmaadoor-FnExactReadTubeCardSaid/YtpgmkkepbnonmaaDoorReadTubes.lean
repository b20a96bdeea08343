/- Walks: a tube out of its text, by the reference and by the program. No condition but the bound and strconv's variables. -/
import Derived.Test.YtpgmkkepbnonmaaDoorTubeTexts
import Derived.Test.YtpgmkkepbnonmaaDoorReadFaultW
import Derived.RegionTactic
import Derived.BigRegion
namespace Go.Proofs.YtpgmkkepbnonmaaDoor
open Go.RowKit
set_option maxRecDepth 20000

/-- (n, r, c, b, t) is the tube with the text s; zero and false if there is none. -/
def TubeR (s : ByteArray) (n r c : Int) (b t ok : Bool) : Prop :=
  (ok = true ∧ tubeB n r c = true ∧ tubeT n r c b t = s) ∨ (ok = false ∧ n = 0 ∧ r = 0 ∧ c = 0 ∧ b = false ∧ t = false ∧ ∀ (n' r' c' : Int) (b' t' : Bool), tubeB n' r' c' = true → tubeT n' r' c' b' t' ≠ s)
theorem noB_end (b : Bool) : noB 32 (endS b).data.toList := by
  intro x hx
  cases b
  all_goals
    simp [endS] at hx
    rcases hx with rfl | rfl | rfl | rfl | rfl | rfl <;> decide
theorem tube_bytes (n r c : Int) (b t : Bool) : (tubeT n r c b t).data.toList = [116, 117, 98, 101] ++ 32 :: ((dec n).data.toList ++ 32 :: ((dec r).data.toList ++ 32 :: ((dec c).data.toList ++ 32 :: ((endS b).data.toList ++ 32 :: (endS t).data.toList)))) := by
  unfold tubeT
  simp
theorem tube_spl (n r c : Int) (b t : Bool) : spl 32 (tubeT n r c b t).data.toList = [[116, 117, 98, 101], (dec n).data.toList, (dec r).data.toList, (dec c).data.toList, (endS b).data.toList, (endS t).data.toList] := by
  have h0 : noB 32 [116, 117, 98, 101] := by
    intro x hx
    simp at hx
    rcases hx with rfl | rfl | rfl | rfl <;> decide
  rw [tube_bytes, spl_cut _ _ _ h0, spl_cut _ _ _ (by rw [dec_bytes]; exact noB_itoa n), spl_cut _ _ _ (by rw [dec_bytes]; exact noB_itoa r), spl_cut _ _ _ (by rw [dec_bytes]; exact noB_itoa c), spl_cut _ _ _ (noB_end b), spl_none _ _ (noB_end t)]
theorem tubeB_small {n r c : Int} (h : tubeB n r c = true) : (-999999999 ≤ n ∧ n ≤ 999999999) ∧ (-999999999 ≤ r ∧ r ≤ 999999999) ∧ (-999999999 ≤ c ∧ c ≤ 999999999) := by
  simp only [tubeB, Bool.and_eq_true] at h
  have h1 := inB_true h.1.1
  have h2 := inB_true h.1.2
  have h3 := inB_true h.2
  omega
/-- Whether a word is 'closed'. -/
def closedB (p : ByteArray) : Bool := decide (p = ⟨#[99, 108, 111, 115, 101, 100]⟩)
theorem closedB_end (b : Bool) : closedB (endS b) = b := by cases b <;> decide
theorem TubeR.same {s : ByteArray} {n r c n' r' c' : Int} {b t ok b' t' ok' : Bool} (h : TubeR s n r c b t ok) (h' : TubeR s n' r' c' b' t' ok') : n = n' ∧ r = r' ∧ c = c' ∧ b = b' ∧ t = t' ∧ ok = ok' := by
  rcases h with ⟨rfl, h1, h2⟩ | ⟨rfl, rfl, rfl, rfl, rfl, rfl, h1⟩
  · rcases h' with ⟨rfl, g1, g2⟩ | ⟨rfl, rfl, rfl, rfl, rfl, rfl, g1⟩
    · have e := tube_spl n r c b t
      rw [h2, ← g2, tube_spl] at e
      simp only [List.cons.injEq] at e
      obtain ⟨_, e1, e2, e3, e4, e5, _⟩ := e
      obtain ⟨k1, k2, k3⟩ := tubeB_small h1
      obtain ⟨l1, l2, l3⟩ := tubeB_small g1
      have b1 : b = b' := by rw [← closedB_end b, ← closedB_end b', ba_eq e4]
      have t1 : t = t' := by rw [← closedB_end t, ← closedB_end t', ba_eq e5]
      exact ⟨dec_inj (ba_eq e1).symm k1 l1, dec_inj (ba_eq e2).symm k2 l2, dec_inj (ba_eq e3).symm k3 l3, b1, t1, rfl⟩
    · exact absurd h2 (g1 _ _ _ _ _ h1)
  · rcases h' with ⟨rfl, g1, g2⟩ | ⟨rfl, rfl, rfl, rfl, rfl, rfl, g1⟩
    · exact absurd g2 (h1 _ _ _ _ _ g1)
    · exact ⟨rfl, rfl, rfl, rfl, rfl, rfl⟩
def TubeE (s : ByteArray) (w : World) (e : Ending) (w' : World) : Prop := ∃ n r c b t ok, TubeR s n r c b t ok ∧ e = .returned (.tuple #[.agg #[.int .i64 n, .int .i64 r, .int .i64 c, .bool b, .bool t], .bool ok]) ∧ Below w.heap.size w w'
theorem tubeE_no {s : ByteArray} {w w' : World} (h : ∀ (n' r' c' : Int) (b' t' : Bool), tubeB n' r' c' = true → tubeT n' r' c' b' t' ≠ s) (hb : Below w.heap.size w w') : TubeE s w (.returned (.tuple #[.agg #[.int .i64 0, .int .i64 0, .int .i64 0, .bool false, .bool false], .bool false])) w' :=
  ⟨0, 0, 0, false, false, false, .inr ⟨rfl, rfl, rfl, rfl, rfl, rfl, h⟩, rfl, hb⟩
/-- What six pieces say. -/
theorem six_no {s p0 p1 p2 p3 p4 p5 : ByteArray} (hp : [p0, p1, p2, p3, p4, p5].map (·.data.toList) = spl 32 s.data.toList) {n r c : Int} {x y z : Bool} (hn : NumR p1 n x) (hr : NumR p2 r y) (hc : NumR p3 c z)
    (h : x = false ∨ y = false ∨ z = false ∨ tubeB n r c = false ∨ tubeT n r c (closedB p4) (closedB p5) ≠ s) : ∀ (n' r' c' : Int) (b' t' : Bool), tubeB n' r' c' = true → tubeT n' r' c' b' t' ≠ s := by
  intro n' r' c' b' t' hf e
  have hsp := tube_spl n' r' c' b' t'
  rw [e, ← hp] at hsp
  simp only [List.map_cons, List.map_nil, List.cons.injEq] at hsp
  obtain ⟨_, e1, e2, e3, e4, e5, _⟩ := hsp
  obtain ⟨k1, k2, k3⟩ := tubeB_small hf
  obtain ⟨rfl, rfl⟩ := hn.same (.inl ⟨rfl, (ba_eq e1).symm, k1.1, k1.2⟩)
  obtain ⟨rfl, rfl⟩ := hr.same (.inl ⟨rfl, (ba_eq e2).symm, k2.1, k2.2⟩)
  obtain ⟨rfl, rfl⟩ := hc.same (.inl ⟨rfl, (ba_eq e3).symm, k3.1, k3.2⟩)
  rcases h with h | h | h | h | h
  · cases h
  · cases h
  · cases h
  · rw [hf] at h
    cases h
  · rw [ba_eq e4, ba_eq e5, closedB_end, closedB_end] at h
    exact h e
theorem six_yes {s p0 p1 p2 p3 p4 p5 : ByteArray} (hp : [p0, p1, p2, p3, p4, p5].map (·.data.toList) = spl 32 s.data.toList) {n r c : Int} {b t : Bool} (h : tubeS n r c b t = s) : TubeR s n r c b t true := by
  cases hf : tubeB n r c
  · rw [tubeS_no hf] at h
    rw [← h] at hp
    have hl := congrArg List.length hp
    simp [spl] at hl
  · rw [tubeS_yes hf] at h
    exact .inl ⟨rfl, hf, h⟩
theorem six_pieces {ls : List ByteArray} (h : ls.length = 6) : ∃ p0 p1 p2 p3 p4 p5, ls = [p0, p1, p2, p3, p4, p5] := by
  match ls, h with
  | [a, b, c, d, e, f], _ => exact ⟨a, b, c, d, e, f, rfl⟩
theorem tubeS_ne {n r c : Int} {b t : Bool} {s : ByteArray} (h : tubeS n r c b t ≠ s) : tubeB n r c = false ∨ tubeT n r c b t ≠ s := by
  cases hf : tubeB n r c
  · exact .inl rfl
  · rw [tubeS_yes hf] at h
    exact .inr h
/-- The numbers of words. -/
def ReadDecsP (n : Nat) (l : Nat → ByteArray) (w : World) (e : Ending) (w' : World) : Prop :=
  (∃ A c, ∃ zs : List Int, e = .returned (.tuple #[.slice A n c, .bool true]) ∧ zs.length = n ∧ New w w' A n (fun j => .int .i64 (zs.getD j 0)) ∧ ∀ j, j < n → NumR (l j) (zs.getD j 0) true) ∨
  (e = .returned (.tuple #[.slice none 0 0, .bool false]) ∧ Below w.heap.size w w' ∧ ∃ j, j < n ∧ NumR (l j) 0 false)
theorem infoI : (Tryd.prog.info? 2).map (fun i => (i.zero, i.size, i.bytes)) = some (some (.int .i64 0), 1, 8) := by kernel_rfl
set_option maxHeartbeats 1000000 in
theorem readDecimals_any (A : Option Addr) (n c : Nat) (l : Nat → ByteArray) (w : World) (ha : Rd w A n (fun j => .string (l j))) (hn : n ≤ 1048576) (hl : ∀ j, j < n → (l j).size ≤ 1048576) (hd : Door w) :
    Calls Tryd.prog 23 #[.slice A n c] w (ReadDecsP n l w) := by
  obtain ⟨i0, hi, iz, is, ib⟩ := info_parts infoI
  have HA := Lib.hid ha
  have HL := Lib.hid hl
  have HD := Lib.hid hd
  clear ha hl hd
  go_enter Tryd.func23, Tryd.ntmps23
  go_wp2_with fail
  go_loopw [4, 6, 7, 8, 12] (fun v _ _ _ i wr => ∃ (j : Nat) (zs : List Int), j ≤ n ∧ i = .int .i64 j ∧ zs.length = j ∧ wr.ownsRow w.heap.size 2 1 v j (ints zs) ∧ Hid (∀ k, k < j → NumR (l k) (zs.getD k 0) true) ∧ Below w.heap.size w wr) (fun _ _ _ _ i _ => n - (intOf i).toNat)
  case atStart => exact ⟨0, [], Nat.zero_le _, rfl, rfl, World.ownsRow_made w #[] 0 (Nat.le_refl _) (by unfold maxLen; omega) rfl, fun k hk => absurd hk (by omega), by (repeat' first | with_reducible exact Below.refl _ _ | with_reducible refine Below.alloc ?_ ?_ _ | with_reducible refine Below.setCell ?_ ?_ _ | with_reducible refine Below.drew ?_ | with_reducible refine Below.drewN' ?_ _ | with_reducible (refine Below.trans ?_ (Below.mono (by assumption) ?_)) | exact Nat.le_refl _ | (simp; done) | (simp; omega) | omega)⟩
  case round =>
    obtain ⟨j, zs, hj, rfl, hzl, hown, HZ, hb⟩ := hrel
    have HOWN := Lib.hid hown
    have HB := Lib.hid hb
    have HZL := Lib.hid hzl
    clear hzl
    by_cases hlt : j < n
    · obtain ⟨g, a0, rfl, hg, hra⟩ := HA.out (by omega)
      have hcw := ((bcell HB.out).1 _ _ hg).trans (hra j hlt)
      clear hra hown hb
      obtain ⟨x, hx⟩ : ∃ x, x = l j := ⟨_, rfl⟩
      have hxs := HL.out j hlt
      simp only [← hx] at hcw hxs
      have HX := Lib.hid hx
      clear hx
      go_wp2_with fail
      refine (ReadDecimal_any x _ hxs (HD.out.below HB.out)).mono ?_
      rintro e w2 ⟨m, b, hm, rfl, hb2⟩
      have HM := Lib.hid hm
      have HB2 := Lib.hid (HB.out.trans (hb2.mono HB.out.size))
      have HOWN2 := Lib.hid (own_below HOWN.out hb2)
      clear hm hb2
      cases b
      · go_wp2_with fail
        go_ret2
        exact .inr ⟨rfl, HB2.out, j, hlt, by rw [← HX.out]; rcases HM.out with ⟨h, _⟩ | ⟨_, h, h'⟩; (cases h); exact .inr ⟨rfl, rfl, h'⟩⟩
      · go_wp2_with (at_builtin; go_must (refine wpList_app w2 rfl (.tmp 23) (.tmp 25) _ rfl w.heap.size 2 i0 _ 1 8 Tryd.underlying45 hi iz is ib rfl (by omega) u4 j (ints zs) rfl HOWN2.out _ 1 1 [.int .i64 m] rfl rfl (by simp [Value.oneCell']) (by unfold maxLen; omega) (by omega) HB2.out.size ?_); intro v' w' hown' hb'; have HOWN' := Lib.hid hown'; have HB' := Lib.hid (HB2.out.trans hb'); clear hown' hb')
        go_roundw
        case rel =>
          refine ⟨j + 1, zs ++ [m], by omega, by go_num, by rw [List.length_append, HZL.out]; rfl, by rw [ints_app]; exact HOWN'.out, fun k hk => ?_, HB'.out⟩
          by_cases hkj : k < j
          · have e : (zs ++ [m]).getD k 0 = zs.getD k 0 := by simp [List.getD, List.getElem?_append_left (show k < zs.length by rw [HZL.out]; exact hkj)]
            rw [e]
            exact HZ.out k hkj
          · obtain rfl : k = j := by omega
            have e : (zs ++ [m]).getD k 0 = m := by simp [List.getD, List.getElem?_append_right (show zs.length ≤ k by rw [HZL.out]; exact Nat.le_refl _), HZL.out]
            rw [e, ← HX.out]
            exact HM.out
        case measure => simp [intOf] <;> omega
    · obtain rfl : n = j := by omega
      go_wp2
      go_ret2
      obtain ⟨A', c', rfl, hnew⟩ := New.of_ints HB.out HOWN.out
      exact .inl ⟨A', c', zs, rfl, HZL.out, by simpa using hnew, HZ.out⟩
end Go.Proofs.YtpgmkkepbnonmaaDoor
