/- Walks: charts drawn. No condition but the bounds. -/
import Derived.Test.YtacppheedleamaaDrG
set_option linter.unusedVariables false
set_option linter.unusedSimpArgs false
namespace Go.Proofs.Ytacppheedleamaa
open Go.RowKit
set_option maxRecDepth 100000

theorem infoRowD : (Try.prog.info? 40).map (fun i => (i.zero, i.size, i.bytes)) = some (some (.agg #[.int .i64 0, .int .i64 0, .slice none 0 0]), 3, 40) := by kernel_rfl
/-- A row as data. -/
structure RwD where
  d : Int
  c : Int
  A : Option Addr
  q : Nat
  L : List Int
def rwV (r : RwD) : List Value := [.int .i64 r.d, .int .i64 r.c, .slice r.A r.L.length r.q]
def rwsV (rs : List RwD) : List Value := rs.flatMap rwV
theorem rwsV_app (rs : List RwD) (r : RwD) : rwsV (rs ++ [r]) = rwsV rs ++ rwV r := by simp [rwsV]
/-- Rows that a call owns. -/
structure RowsOk (B : Nat) (X : World) (v : Value) (rs : List RwD) : Prop where
  ow : X.ownsRow B 40 3 v rs.length (rwsV rs)
  st : ∀ r ∈ rs, X.ownsRow B 2 1 (.slice r.A r.L.length r.q) r.L.length (ints r.L) ∧ r.L.length ≤ 20
/-- A chart is being drawn: the result's block R, its own block G. -/
structure Ch0 (w X : World) (R G g : Nat) (A : Option Addr) (n c : Nat) (b : Nat → Int) (i y : Nat) (cols : Int) (v : Value) : Prop where
  rb : Blk X R 26 #[.int .i64 0, .slice none 0 0]
  bb : Blk X G 26 #[.int .i64 cols, v]
  src : Src X g A n c b i y
  fr : Fr w X (fun b => b = g)
theorem two_own {X : World} {B B' n n' sz sz' k : Nat} {e e' : TypeId} {v v' : Value} {xs xs' : List Value} (h : X.ownsRow B e sz v n xs) (h' : X.ownsRow B' e' sz' v' n' xs') (hne : e ≠ e') (hk : v.ownBlock = some k) (hk' : v'.ownBlock = some k) : False := by
  rcases h.2 with ⟨rfl, _⟩ | ⟨g2, cap, cur, rfl, _, hg, _⟩
  · cases hk
  · rcases h'.2 with ⟨rfl, _⟩ | ⟨g3, cap', cur', rfl, _, hg', _⟩
    · cases hk'
    · simp [Value.ownBlock] at hk hk'
      subst hk
      subst hk'
      rw [hg'] at hg
      simp only [Option.some.injEq, Obj.cells.injEq] at hg
      exact hne hg.2.1.symm
section
variable {w X Y : World} {R G g B : Nat} {A : Option Addr} {n c : Nat} {b : Nat → Int} {i i' y y' : Nat} {cols : Int} {v : Value} {rs : List RwD}
theorem Ch0.draw (h : Ch0 w X R G g A n c b i y cols v) (hg : g < w.heap.size) (hR : w.heap.size ≤ R) (hG : w.heap.size ≤ G) (hs : Src Y g A n c b i' y') (hf : Fr X Y (fun b => b = g)) : Ch0 w Y R G g A n c b i' y' cols v :=
  ⟨h.rb.fr hf (by omega), h.bb.fr hf (by omega), hs, h.fr.trans hf⟩
theorem Ch0.below (h : Ch0 w X R G g A n c b i y cols v) (hb : Below X.heap.size X Y) : Ch0 w Y R G g A n c b i y cols v :=
  ⟨h.rb.below hb h.rb.lt, h.bb.below hb h.bb.lt, h.src.below hb, h.fr.trans (Fr.of_below hb _)⟩
theorem Ch0.put (h : Ch0 w X R G g A n c b i y cols v) (hg : g < w.heap.size) (hG : w.heap.size ≤ G) (hRG : R ≠ G) (v' : Value) : Ch0 w (X.setCell ⟨G, 1, none⟩ v') R G g A n c b i y cols v' := by
  have hl : Below w.heap.size X (X.setCell ⟨G, 1, none⟩ v') := (Below.refl _ _).setCell (p := ⟨G, 1, none⟩) hG _
  exact ⟨h.rb.far hRG _, h.bb.set_ 1 v', h.src.base hl hg, h.fr.then_below hl⟩
theorem Ch0.num (h : Ch0 w X R G g A n c b i y cols v) (hg : g < w.heap.size) (hG : w.heap.size ≤ G) (hRG : R ≠ G) (s : Int) : Ch0 w (X.setCell ⟨G, 0, none⟩ (.int .i64 s)) R G g A n c b i y s v := by
  have hl : Below w.heap.size X (X.setCell ⟨G, 0, none⟩ (.int .i64 s)) := (Below.refl _ _).setCell (p := ⟨G, 0, none⟩) hG _
  exact ⟨h.rb.far hRG _, h.bb.set_ 0 _, h.src.base hl hg, h.fr.then_below hl⟩
theorem Ch0.app (h : Ch0 w X R G g A n c b i y cols v) (hg : g < w.heap.size) {e : TypeId} {sz m : Nat} {v0 : Value} {xs : List Value} (ho : X.ownsRow w.heap.size e sz v0 m xs) (hne : 26 ≠ e) (hf : Fr X Y (fun b => v0.ownBlock = some b)) : Ch0 w Y R G g A n c b i y cols v := by
  have h1 := two_blk h.rb ho hne
  have h2 := two_blk h.bb ho hne
  have hl : Below w.heap.size X Y := hf.below h.fr.size (fun b hb => (ho.lt b hb).1)
  exact ⟨h.rb.fr hf h1, h.bb.fr hf h2, h.src.base hl hg, h.fr.then_below hl⟩
theorem Ch0.fin (h : Ch0 w X R G g A n c b i y cols v) (hg : g < w.heap.size) (hR : w.heap.size ≤ R) :
    Blk ((X.setCell ⟨R, 0, none⟩ (.int .i64 cols)).setCell ⟨R, 1, none⟩ v) R 26 #[.int .i64 cols, v] ∧ Src ((X.setCell ⟨R, 0, none⟩ (.int .i64 cols)).setCell ⟨R, 1, none⟩ v) g A n c b i y ∧ Fr w ((X.setCell ⟨R, 0, none⟩ (.int .i64 cols)).setCell ⟨R, 1, none⟩ v) (fun b => b = g) := by
  have hl : Below w.heap.size X ((X.setCell ⟨R, 0, none⟩ (.int .i64 cols)).setCell ⟨R, 1, none⟩ v) := ((Below.refl _ _).setCell (p := ⟨R, 0, none⟩) hR _).setCell (p := ⟨R, 1, none⟩) hR _
  exact ⟨(h.rb.set_ 0 _).set_ 1 _, h.src.base hl hg, h.fr.then_below hl⟩
theorem RowsOk.keep (h : RowsOk B X v rs) (hk : ∀ q, (v.ownBlock = some q ∨ ∃ r ∈ rs, (Value.slice r.A r.L.length r.q).ownBlock = some q) → Y.heap[q]? = X.heap[q]?) : RowsOk B Y v rs :=
  ⟨own_keep h.ow fun q hq => hk q (.inl hq), fun r hr => ⟨own_keep (h.st r hr).1 fun q hq => hk q (.inr ⟨r, hr, hq⟩), (h.st r hr).2⟩⟩
theorem RowsOk.lt (h : RowsOk B X v rs) {q : Nat} (hq : v.ownBlock = some q ∨ ∃ r ∈ rs, (Value.slice r.A r.L.length r.q).ownBlock = some q) : B ≤ q ∧ q < X.heap.size := by
  rcases hq with h1 | ⟨r, hr, h1⟩
  · exact h.ow.lt q h1
  · exact (h.st r hr).1.lt q h1
theorem RowsOk.fr (h : RowsOk B X v rs) (hg : g < B) (hf : Fr X Y (fun b => b = g)) : RowsOk B Y v rs := h.keep fun q hq => hf.block q (h.lt hq).2 (by have := (h.lt hq).1; omega)
theorem RowsOk.below (h : RowsOk B X v rs) (hb : Below X.heap.size X Y) : RowsOk B Y v rs := h.keep fun q hq => hb.block q (h.lt hq).2
theorem RowsOk.far (h : RowsOk B X v rs) {t : TypeId} {cs : Array Value} (hb : Blk X G t cs) (h1 : t ≠ 40) (h2 : t ≠ 2) (o : Nat) (u : Value) : RowsOk B (X.setCell ⟨G, o, none⟩ u) v rs := h.keep fun q hq => Below.heap_setCell _ ⟨G, o, none⟩ u q fun e => by
  subst e
  rcases hq with h3 | ⟨r, hr, h3⟩
  · exact two_blk hb h.ow h1 h3
  · exact two_blk hb (h.st r hr).1 h2 h3
/-- A row more: behind an append. -/
theorem RowsOk.push (h : RowsOk B X v rs) {r : RwD} (hr : X.ownsRow B 2 1 (.slice r.A r.L.length r.q) r.L.length (ints r.L) ∧ r.L.length ≤ 20) {v' : Value} (ho : Y.ownsRow B 40 3 v' (rs.length + 1) (rwsV rs ++ rwV r)) (hf : Fr X Y (fun b => v.ownBlock = some b)) : RowsOk B Y v' (rs ++ [r]) := by
  refine ⟨by rw [rwsV_app, List.length_append]; exact ho, fun r' hr' => ?_⟩
  have h1 : X.ownsRow B 2 1 (.slice r'.A r'.L.length r'.q) r'.L.length (ints r'.L) ∧ r'.L.length ≤ 20 := by
    rcases List.mem_append.1 hr' with h2 | h2
    · exact h.st r' h2
    · rw [List.mem_singleton.1 h2]; exact hr
  exact ⟨own_keep h1.1 fun q hq => hf.block q (h1.1.lt q hq).2 fun hv => two_own h.ow h1.1 (by decide) hv hq, h1.2⟩
end
/-- A chart that a draw made. -/
def ChQ (w : World) (g : Nat) (A : Option Addr) (n c : Nat) (b : Nat → Int) (i K : Nat) (e : Ending) (w' : World) : Prop :=
  ∃ (cols : Nat) (A1 : Option Addr) (c1 : Nat) (rs : List RwD), e = .returned (.agg #[.int .i64 cols, .slice A1 rs.length c1]) ∧ (1 ≤ cols ∧ cols ≤ 8) ∧ (1 ≤ rs.length ∧ rs.length ≤ 4) ∧ RowsOk w.heap.size w' (.slice A1 rs.length c1) rs ∧ Drawn w w' g A n c b i K
set_option maxHeartbeats 16000000 in
theorem l15Draw_any (g : Nat) (A : Option Addr) (n c : Nat) (b : Nat → Int) (i x : Nat) (w : World) (h : Src w g A n c b i x) (hi : i < 576460752303423488) :
    Calls Try.prog 49 #[.pointer (some ⟨g, 0, none⟩), .int .i64 8, .int .i64 4] w (ChQ w g A n c b i 844424930132100) := by
  obtain ⟨i0, hi0, iz, is, ib⟩ := info_parts infoD
  obtain ⟨j0, hj0, jz, js, jb⟩ := info_parts infoRowD
  have hgw := h.blk.lt
  have hblk := Blk.at_ w 26 #[.int .i64 0, .slice none 0 0] rfl
  obtain ⟨w1, hw1⟩ : ∃ w1, w1 = w.alloc (.cells #[.int .i64 0, .slice none 0 0] 26) := ⟨_, rfl⟩
  have HB1 := Lib.hid (show Below w.heap.size w w1 by rw [hw1]; exact (Below.refl _ _).alloc (Nat.le_refl _) _)
  rw [← hw1] at hblk
  have HK1 := Lib.hid hblk
  have hz1 := hblk.lt
  have HPK := Lib.hid (src_pickS 8 (by omega) (by omega) g A n c b i x w1 (h.below HB1.out) (by omega))
  clear h hblk
  go_enter Try.func49, Try.ntmps49
  go_upto_region 1 with fail
  rw [← hw1]
  clear hw1
  go_wp2_with fail
  refine HPK.out.mono ?_
  rintro e w2 ⟨u2, y2, rfl, hu2, hs2, hf2, _⟩
  obtain ⟨t2, ht2⟩ : ∃ t, t = u2 % 8 := ⟨_, rfl⟩
  have ht3 : t2 < 8 := by omega
  rw [← ht2]
  have hz2 : w1.heap.size ≤ w2.heap.size := hf2.size
  have HS2 := Lib.hid hs2
  have HF2 := Lib.hid ((Fr.of_below HB1.out _).trans hf2)
  have HK2 := Lib.hid (HK1.out.fr hf2 (by omega))
  clear hs2 hf2 HPK ht2 HK1
  go_upto_region 2 with fail
  obtain ⟨cl, hcl⟩ : ∃ q : Nat, q = 1 + t2 := ⟨_, rfl⟩
  have hcl8 : 1 ≤ cl ∧ cl ≤ 8 := by omega
  have hci : 1 + (t2 : Int) = (cl : Int) := by omega
  obtain ⟨G, hG⟩ : ∃ G, G = w2.heap.size := ⟨_, rfl⟩
  have HA2 := (Below.refl w2.heap.size w2).alloc (Nat.le_refl _) (.cells #[.int .i64 cl, .slice none 0 0] 26)
  have HC := Lib.hid (show Ch0 w (w2.alloc (.cells #[.int .i64 cl, .slice none 0 0] 26)) w.heap.size G g A n c b (i + 1) y2 cl (.slice none 0 0) from
    ⟨HK2.out.alloc _, by rw [hG]; exact Blk.at_ w2 _ _ rfl, HS2.out.below HA2, HF2.out.trans (Fr.of_below HA2 _)⟩)
  have hRG : w.heap.size ≠ G := by omega
  have hGl : w.heap.size ≤ G := by omega
  clear HA2 HS2 HF2 HK2
  rw [hci, ← hG]
  obtain ⟨w3, hw3⟩ : ∃ w3, w3 = w2.alloc (.cells #[.int .i64 cl, .slice none 0 0] 26) := ⟨_, rfl⟩
  rw [← hw3] at HC ⊢
  clear hw3 hci hG hz2 hcl
  have hEND : ∀ (X : World) (A1 : Option Addr) (c1 : Nat) (rs : List RwD) (i' y' : Nat), Ch0 w X w.heap.size G g A n c b i' y' cl (.slice A1 rs.length c1) → RowsOk w.heap.size X (.slice A1 rs.length c1) rs → 1 ≤ rs.length ∧ rs.length ≤ 4 → i' ≤ i + 844424930132100 → ∀ a : Act, a.tmps[6]?.getD undef = .pointer (some ⟨w.heap.size, 0, none⟩) → a.defers = [] → bodyPost Try.prog Try.f49 (ChQ w g A n c b i 844424930132100) Exit.ret a ((X.setCell ⟨w.heap.size, 0, none⟩ (.int .i64 cl)).setCell ⟨w.heap.size, 1, none⟩ (.slice A1 rs.length c1)) := fun X A1 c1 rs i' y' hX hr hl hi' a ha hdf => by
    obtain ⟨k1, k3, k4⟩ := hX.fin hgw (Nat.le_refl _)
    have g0 := k1.cell 0
    have g1 := k1.cell 1
    simp only [List.getElem?_toArray, List.getElem?_cons_zero, List.getElem?_cons_succ] at g0 g1
    have r1 := hr.far hX.rb (by decide) (by decide) 0 (.int .i64 cl)
    have r2 := r1.far (hX.rb.set_ 0 (.int .i64 cl)) (by decide) (by decide) 1 (.slice A1 rs.length c1)
    exact bodyPost_ret (v := .agg #[.int .i64 cl, .slice A1 rs.length c1]) (by simp [results, Try.results49, go_sem, g0, g1, ha]) hdf ⟨cl, A1, c1, rs, rfl, hcl8, hl, r2, i', y', k3, hi', k4⟩
  have HEND := Lib.hid hEND
  clear hEND
  have HA3 := (Below.refl w3.heap.size w3).alloc (Nat.le_refl _) (.cells #[] 2)
  have hz3 := HC.out.bb.lt
  have HC4 := Lib.hid (HC.out.below HA3)
  have HO4 := Lib.hid (World.ownsRow_made w3 #[] 0 (show w.heap.size ≤ w3.heap.size by omega) (by unfold maxLen; omega) rfl : (w3.alloc (.cells #[] 2)).ownsRow w.heap.size 2 1 (.slice (some ⟨w3.heap.size, 0, none⟩) 0 0) 0 [])
  clear HA3 HC
  go_upto_region 3 with fail
  go_loopg [8] cl (fun gh st wr => ∃ (L1 : List Int) (B1 : Option Addr) (d1 : Nat), st = .slice B1 L1.length d1 ∧ gh + L1.length = cl ∧ Hid (Ch0 w wr w.heap.size G g A n c b (i + 1) y2 cl (.slice none 0 0)) ∧ Hid (wr.ownsRow w.heap.size 2 1 (.slice B1 L1.length d1) L1.length (ints L1)))
  case atStart => exact ⟨[], _, _, rfl, rfl, HC4, HO4⟩
  case round =>
    clear HC4 HO4
    obtain ⟨L1, B1, d1, rfl, hgk, HC, HO⟩ := hrel
    have hsz := HC.out.fr.size
    have b0 : wr.cell? ⟨G, 0, none⟩ = some (.int .i64 cl) := HC.out.bb.cell 0
    by_cases hlt : L1.length < cl
    · have l2 : (L1.length : Int) < (cl : Int) := by omega
      have e1 : (L1 ++ [1]).length = L1.length + 1 := by simp
      go_wp2_with (at_builtin; go_must (refine wpList_appG wr rfl (.tmp 25) (.tmp 26) _ rfl w.heap.size 2 i0 _ 1 8 Try.underlying38 hi0 iz is ib rfl (by omega) (.slice B1 L1.length d1) L1.length (ints L1) rfl HO.out _ 1 1 _ rfl rfl (by simp [Value.oneCell']) (by unfold maxLen; omega) (by omega) hsz ?_); intro v' w' hown' hf'; obtain ⟨B3, d3, rfl⟩ := own_form hown'; have HC6 := Lib.hid (HC.out.app hgw HO.out (by decide) hf'); have HO6 := Lib.hid hown'; clear hown' hf')
      go_roundg (gk - 1)
      case measure => omega
      case rel => exact ⟨L1 ++ [1], B3, d3, by rw [e1], by omega, HC6, by rw [e1, ints_app]; exact HO6⟩
    · have l2 : ¬ (L1.length : Int) < (cl : Int) := by omega
      obtain ⟨wo, hwo⟩ : ∃ x, x = wr := ⟨_, rfl⟩
      subst hwo
      go_wp2_with fail
      refine (src_one 6 (by omega) (by omega) g A n c b (i + 1) y2 _ HC.out.src (by omega)).mono ?_
      rintro e w4 ⟨t4, rfl, i4, y4, hs4, hi4, hf4⟩
      have HC4 := Lib.hid (HC.out.draw hgw (Nat.le_refl _) hGl hs4 hf4)
      have HO4 := Lib.hid (own_fr HO.out hf4 (fun k hk => by have := (HO.out.lt k hk).1; omega))
      clear hs4 hf4 HC HO b0
      go_upto_if 29 with fail
      go_cut [9] from 28 to 29 (fun dv wx => ∃ d : Int, dv = .int .i64 d ∧ Hid (dirB d = true) ∧ Hid (Ch0 w wx w.heap.size G g A n c b i4 y4 cl (.slice none 0 0)) ∧ Hid (wx.ownsRow w.heap.size 2 1 (.slice B1 L1.length d1) L1.length (ints L1)))
      case first =>
        cases t4
        all_goals
          go_wp2_with fail
          go_meet
          exact ⟨_, rfl, Lib.hid (by decide), HC4, HO4⟩
      case rest =>
        obtain ⟨d, rfl, HD, HC5, HO5⟩ := hcut
        clear HC4 HO4
        go_wp2_with fail
        refine (src_pickS 4 (by omega) (by omega) g A n c b i4 y4 _ HC5.out.src (by omega)).mono ?_
        rintro e w5 ⟨u5, y5, rfl, hu5, hs5, hf5, _⟩
        obtain ⟨t5, ht5⟩ : ∃ t, t = u5 % 4 := ⟨_, rfl⟩
        have ht6 : t5 < 4 := by omega
        rw [← ht5]
        have HC6 := Lib.hid (HC5.out.draw hgw (Nat.le_refl _) hGl hs5 hf5)
        have HO6 := Lib.hid (own_fr HO5.out hf5 (fun k hk => by have := (HO5.out.lt k hk).1; omega))
        clear hs5 hf5 ht5 HC5 HO5
        go_upto_region 9 with fail
        obtain ⟨K0, hK0, hK4⟩ : ∃ q : Nat, 1 + (t5 : Int) = (q : Int) ∧ 1 ≤ q ∧ q ≤ 4 := ⟨1 + t5, by omega, by omega⟩
        rw [hK0]
        clear hK0
        have HR0 : Hid (RowsOk w.heap.size w5 (.slice none ([] : List RwD).length 0) []) := Lib.hid ⟨⟨rfl, .inl ⟨rfl, rfl⟩⟩, fun r hr => by cases hr⟩
        go_loopg [8, 9, 10] K0 (fun gh st dv k wr => ∃ (As : Option Addr) (m ca : Nat) (S : Nat → Int) (d : Int) (A1 : Option Addr) (c1 : Nat) (rs : List RwD) (i' y' : Nat), st = .slice As m ca ∧ dv = .int .i64 d ∧ k = .int .i64 gh ∧ rs.length + gh = K0 ∧ i' + 211106232533000 * gh ≤ i + 5 + 211106232533000 * K0 ∧ m ≤ 8 ∧ Hid (dirB d = true) ∧ Hid (Ch0 w wr w.heap.size G g A n c b i' y' cl (.slice A1 rs.length c1)) ∧ Hid (RowsOk w.heap.size wr (.slice A1 rs.length c1) rs) ∧ Hid (Rd wr As m (fun j => .int .i64 (S j))) ∧ Hid (∀ a, As = some a → a.block ≠ g))
        case atStart =>
          have hAB : ∀ a, B1 = some a → a.block ≠ g := fun a e => by
            subst e
            rcases HO6.out.2 with ⟨e, _⟩ | ⟨gg, cap, cur, e, hg, _⟩
            · injection e with e; cases e
            · injection e with e; injection e with e; subst e; show gg ≠ g; omega
          exact ⟨B1, L1.length, d1, fun j => L1.getD j 0, d, none, 0, [], i4 + 1, y5, rfl, rfl, rfl, by simp, by omega, by omega, HD, HC6, HR0, Lib.hid (own_rdI HO6.out), Lib.hid hAB⟩
        case round =>
          clear HC6 HO6 HR0 HD
          obtain ⟨As, m, ca, S, d, A1, c1, rs, i', y', rfl, rfl, rfl, hlen, hi', hm8, HD, HC, HR, HRd, HA⟩ := hrel
          have hsz := HC.out.fr.size
          by_cases hlt : 0 < gk
          · have l3 : (0 : Int) < (gk : Int) := by omega
            obtain ⟨wq, hwq⟩ : ∃ x, x = wr := ⟨_, rfl⟩
            subst hwq
            go_wp2_with fail
            refine (src_one 12 (by omega) (by omega) g A n c b i' y' _ HC.out.src (by omega)).mono ?_
            rintro e w7 ⟨t7, rfl, i7, y7, hs7, hi7, hf7⟩
            have HC7 := Lib.hid (HC.out.draw hgw (Nat.le_refl _) hGl hs7 hf7)
            have HR7 := Lib.hid (HR.out.fr hgw hf7)
            have HRd7 := Lib.hid (HRd.out.src hf7 HA.out)
            clear hs7 hf7 HC HR HRd
            go_upto_if 39 with fail
            go_cut [11] from 34 to 62 (fun cv wx => ∃ (cr : Int) (i8 y8 : Nat), cv = .int .i64 cr ∧ i8 ≤ i7 + 1 ∧ Hid (Ch0 w wx w.heap.size G g A n c b i8 y8 cl (.slice A1 rs.length c1)) ∧ Hid (RowsOk w.heap.size wx (.slice A1 rs.length c1) rs) ∧ Hid (Rd wx As m (fun j => .int .i64 (S j))))
            case first =>
              cases t7
              · go_wp2_with fail
                go_meet
                exact ⟨1, i7, y7, rfl, by omega, HC7, HR7, HRd7⟩
              · go_wp2_with fail
                refine (src_pickS 4 (by omega) (by omega) g A n c b i7 y7 _ HC7.out.src (by omega)).mono ?_
                rintro e w8 ⟨u8, y8, rfl, hu8, hs8, hf8, _⟩
                obtain ⟨t8, ht8⟩ : ∃ t, t = u8 % 4 := ⟨_, rfl⟩
                have ht9 : t8 < 4 := by omega
                rw [← ht8]
                have HC8 := Lib.hid (HC7.out.draw hgw (Nat.le_refl _) hGl hs8 hf8)
                have HR8 := Lib.hid (HR7.out.fr hgw hf8)
                have HRd8 := Lib.hid (HRd7.out.src hf8 HA.out)
                clear hs8 hf8 ht8
                go_wp2_with fail
                go_meet
                exact ⟨_, i7 + 1, y8, rfl, by omega, HC8, HR8, HRd8⟩
            case rest =>
              obtain ⟨cr, i8, y8, rfl, hi8, HC8, HR8, HRd8⟩ := hcut
              clear HC7 HR7 HRd7
              have hsz8 := HC8.out.fr.size
              have HDR := Lib.hid (l15DrawRow_any d cr HD.out As m ca S hm8 g A n c b i8 y8 wc HC8.out.src (by omega) HRd8.out HA.out)
              go_wp2_with fail
              refine HDR.out.mono ?_
              rintro e w9 ⟨A5, c5, L, A6, n6, c6, S6, rfl, ho, hl, hn6, hr6, hab, i9, y9, hs9, hi9, hf9⟩
              have HC9 := Lib.hid (HC8.out.draw hgw (Nat.le_refl _) hGl hs9 hf9)
              have HR9 := Lib.hid (HR8.out.fr hgw hf9)
              have hz9 := hf9.size
              have hGc : G < wc.heap.size := HC8.out.bb.lt
              have HO9 := Lib.hid (own_base ho hsz8)
              have HR6 := Lib.hid hr6
              have HAB := Lib.hid hab
              have HVL := Lib.hid (fun q hq => (HR8.out.ow.lt q hq).2)
              have hG9 : G < w9.heap.size := HC9.out.bb.lt
              clear ho hr6 hab hs9 hf9 HC8 HR8 HRd8 HDR
              have HAL := Lib.hid ((Below.refl w9.heap.size w9).alloc (Nat.le_refl _) (.cells #[.int .i64 d, .int .i64 cr, .slice A5 L.length c5] 40))
              have HCA := Lib.hid (HC9.out.below HAL.out)
              have HRA := Lib.hid (HR9.out.below HAL.out)
              have HOA := Lib.hid (own_below HO9.out HAL.out)
              have HPA := Lib.hid (Blk.at_ w9 40 #[.int .i64 d, .int .i64 cr, .slice A5 L.length c5] rfl)
              have HNA := Lib.hid (HR6.out.below HAL.out)
              go_upto_region 15 with fail
              obtain ⟨P, hP⟩ : ∃ q, q = w9.heap.size := ⟨_, rfl⟩
              obtain ⟨wA, hwA⟩ : ∃ x, x = w9.alloc (.cells #[.int .i64 d, .int .i64 cr, .slice A5 L.length c5] 40) := ⟨_, rfl⟩
              have hzA : w9.heap.size ≤ wA.heap.size := by rw [hwA]; simp
              rw [← hwA] at HCA HRA HOA HPA HNA ⊢
              rw [← hP] at HPA ⊢
              clear hwA HAL HC9 HR9 HO9 HR6 hP
              have k1 : wA.cell? ⟨G, 1, none⟩ = some (.slice A1 rs.length c1) := HCA.out.bb.cell 1
              have p0 : wA.cell? ⟨P, 0, none⟩ = some (.int .i64 d) := HPA.out.cell 0
              have p1 : wA.cell? ⟨P, 1, none⟩ = some (.int .i64 cr) := HPA.out.cell 1
              have p2 : wA.cell? ⟨P, 2, none⟩ = some (.slice A5 L.length c5) := HPA.out.cell 2
              have hszA : w.heap.size ≤ wA.heap.size := by omega
              have hn1 : rs.length + 1 ≤ maxLen := by unfold maxLen; omega
              have hn2 : (rs.length + 1) * 40 ≤ 140737488355328 := by omega
              have hL20 : L.length ≤ 20 := by omega
              go_upto_region 16 with (at_builtin; go_must (refine wpList_appG wA rfl (.tmp 52) (.tmp 54) _ rfl w.heap.size 40 j0 _ 3 40 Try.underlying24 hj0 jz js jb rfl (by omega) (.slice A1 rs.length c1) rs.length (rwsV rs) rfl HRA.out.ow _ 1 1 _ rfl rfl (by simp [Value.oneCell']) hn1 hn2 hszA ?_); intro v' w' hown' hf'; obtain ⟨A7, c7, rfl⟩ := own_form hown'; have HC' := Lib.hid (HCA.out.app hgw HRA.out.ow (by decide) hf'); have HR' := Lib.hid (HRA.out.push (r := ⟨d, cr, A5, c5, L⟩) ⟨HOA.out, hL20⟩ hown' hf'); have HN' := Lib.hid (HNA.out.blk hf'.size fun a e hlt => hf'.block _ hlt fun h => by have h1 := HVL.out _ h; have h2 := HAB.out a e; omega); have m1 : w'.cell? ⟨G, 1, none⟩ = some (.slice A1 rs.length c1) := HC'.out.bb.cell 1; have mf := fun j => HC'.out.bb.frozen j; have hzw := hf'.size; clear hown' hf')
              have e1 : (rs ++ [(⟨d, cr, A5, c5, L⟩ : RwD)]).length = rs.length + 1 := by simp
              have HCS := Lib.hid (HC'.out.put hgw hGl hRG (.slice A7 (rs.length + 1) c7))
              have HRS := Lib.hid (HR'.out.far HC'.out.bb (by decide) (by decide) 1 (.slice A7 (rs.length + 1) c7))
              have HNS := Lib.hid (HN'.out.blk (w' := w'.setCell ⟨G, 1, none⟩ (.slice A7 (rs.length + 1) c7)) (by simp) fun a e hlt => Below.heap_setCell _ ⟨G, 1, none⟩ _ _ (fun h => by have h2 := HAB.out a e; have h3 : a.block = G := h; omega))
              obtain ⟨wS, hwS⟩ : ∃ x, x = w'.setCell ⟨G, 1, none⟩ (.slice A7 (rs.length + 1) c7) := ⟨_, rfl⟩
              have hzS : w'.heap.size ≤ wS.heap.size := by rw [hwS]; simp
              rw [← hwS] at HCS HRS HNS ⊢
              clear hwS HC' HR' HN' m1 mf HCA HRA HOA HPA HNA k1 p0 p1 p2 hn1 hn2
              have HAG : Hid (∀ a, A6 = some a → a.block ≠ g) := Lib.hid fun a e => by have := HAB.out a e; omega
              go_wp2_with fail
              refine (src_one 12 (by omega) (by omega) g A n c b i9 y9 _ HCS.out.src (by omega)).mono ?_
              rintro e w10 ⟨t10, rfl, i10, y10, hs10, hi10, hf10⟩
              have HC10 := Lib.hid (HCS.out.draw hgw (Nat.le_refl _) hGl hs10 hf10)
              have HR10 := Lib.hid (HRS.out.fr hgw hf10)
              have HN10 := Lib.hid (HNS.out.src hf10 HAG.out)
              clear hs10 hf10 HCS HRS HNS
              rcases dirB_of HD.out with rfl | rfl
              all_goals
                cases t10
                all_goals
                  go_wp2_with fail
                  go_roundg (gk - 1)
                  case measure => omega
                  case rel => exact ⟨A6, n6, c6, S6, _, A7, c7, rs ++ [⟨_, cr, A5, c5, L⟩], i10, y10, rfl, rfl, i64c (by omega), by rw [e1]; omega, by omega, hn6, Lib.hid (by decide), by rw [e1]; exact HC10, by rw [e1]; exact HR10, HN10, HAG⟩
          · obtain rfl : gk = 0 := by omega
            have b0 : wr.cell? ⟨G, 0, none⟩ = some (.int .i64 cl) := HC.out.bb.cell 0
            have b1 : wr.cell? ⟨G, 1, none⟩ = some (.slice A1 rs.length c1) := HC.out.bb.cell 1
            have r0 : wr.cell? ⟨w.heap.size, 0, none⟩ = some (.int .i64 0) := HC.out.rb.cell 0
            have r1 : wr.cell? ⟨w.heap.size, 1, none⟩ = some (.slice none 0 0) := HC.out.rb.cell 1
            have rf := fun j => HC.out.rb.frozen j
            go_wp2_with fail
            exact HEND.out wr A1 c1 rs i' y' HC.out HR.out (by omega) (by omega) _ rfl rfl
end Go.Proofs.Ytacppheedleamaa
