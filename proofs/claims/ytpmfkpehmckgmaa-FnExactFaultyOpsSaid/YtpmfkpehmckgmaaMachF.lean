/- Walks: a loop is formed, by the reference. No condition but the machine's bounds. -/
import Derived.Test.YtpmfkpehmckgmaaMachE
namespace Go.Proofs.Ytpmfkpehmckgmaa
open Go.RowKit
set_option maxRecDepth 20000

def formCode (s : Mst) (k d fb fa tb ta : Int) (j : Nat) : Int :=
  if carryB s d (placeI fb fa s.rk) j = true then
    (if 300 ≤ s.n then 5 else if k = 1 then 0 else if k = 2 then (if 4 ≤ lstN s fb fa then 5 else 0) else moveCode (carrySt s d (placeI fb fa s.rk) j) fb fa tb ta)
  else 9
/-- A loop more. -/
def more (s : Mst) : Mst := { s with n := s.n + 1 }
def formSt (s : Mst) (k d fb fa tb ta : Int) (j : Nat) : Mst :=
  if k = 1 then setN (more (carrySt s d (placeI fb fa s.rk) j)) fb fa 1
  else if k = 2 then setN (more (carrySt s d (placeI fb fa s.rk) j)) fb fa (lstN s fb fa + 1)
  else setN (more (moveSt (carrySt s d (placeI fb fa s.rk) j) fb fa tb ta)) fb fa 1
section
variable {tg : Nat → Nat} {a : MAdr} {s : Mst} {D : Nat} {w : World}
theorem carrySt_ok (hs : MOk s D) {d x : Int} {j : Nat} (h0 : -3 ≤ x) (h1 : x ≤ 26) : MOk (carrySt s d x j) D :=
  ⟨hs.w1, hs.w2, hs.r1, hs.r2, hs.fb, hs.kb, fun q hq => by
    show -3 ≤ (if q = j then (if d = 1 then x + 1 else x) else s.cat q) ∧ (if q = j then (if d = 1 then x + 1 else x) else s.cat q) ≤ 30
    have := hs.ca q hq
    split
    · split <;> omega
    · exact this, hs.nb, hs.db⟩
/-- A new list of one. -/
theorem LOwn.one (w : World) (y : Int) : LOwn (w.alloc (.cells #[.int .i64 y] 2)) (.slice (some ⟨w.heap.size, 0, none⟩) 1 1) 1 :=
  ⟨[y], by simp [ints], .inr ⟨w.heap.size, 1, #[.int .i64 y], rfl, Nat.zero_le _, heap_alloc_new w _, Nat.le_refl _, by unfold maxLen; omega, rfl, rfl⟩⟩
/-- Blocks that are none of the machine's were written. -/
theorem At.same {wb : World} {tgb : Nat → Nat} {g : Nat} {w w' : World} {F : Nat → Prop} (h : At wb tgb g s w tg a) (hf : Fr w w' F) (hF : ∀ q, F q → tg q = 0 ∧ wb.heap.size ≤ q) : At wb tgb g s w' tg a :=
  ⟨h.g, h.m.same (fun b hb => hf.block b (h.m.lt b hb) fun hq => hb (hF b hq).1) hf.size, h.f.next hf fun q hq => .inr (hF q hq).2, h.t⟩
theorem moveSt_W (s : Mst) (fb fa tb ta : Int) : (moveSt s fb fa tb ta).W = s.W := by unfold moveSt; rw [setN_W, setN_W]
theorem moveSt_n (s : Mst) (fb fa tb ta : Int) : (moveSt s fb fa tb ta).n = s.n := by unfold moveSt; rw [setN_n, setN_n]
set_option maxHeartbeats 2000000 in
theorem l07Form_any (bo o : Nat) (k d fb fa tb ta r : Int) (j : Nat) (H : Mem tg a s w) (hs : MOk s D) (ho : OpCe bo o k d fb fa tb ta ((j : Int) + 1) r w) (hbo : tg bo = 0) (hk : k = 1 ∨ k = 2 ∨ k = 5) (hj : j < 4) (hd : d = 1 ∨ d = -1) (ha0 : 0 ≤ fa) (ha1 : fa < s.W) (hta0 : 0 ≤ ta) (hta1 : ta < s.W) :
    Calls Try.prog 84 #[.pointer (some ⟨a.g, 0, none⟩), .pointer (some ⟨bo, o, none⟩)] w (CodeP w tg a.g (formCode s k d fb fa tb ta j) (formSt s k d fb fa tb ta j)) := by
  obtain ⟨i0, hi, iz, is, ib⟩ := info_parts infoN
  have hw2 := hs.w2
  have hxb := placeI_bd (b := fb) ha0 (show fa ≤ 23 by omega) hs.r1 hs.r2
  obtain ⟨x, hx⟩ : ∃ x, x = placeI fb fa s.rk := ⟨_, rfl⟩
  rw [← hx] at hxb
  have hs1 := carrySt_ok (d := d) (j := j) hs hxb.1 hxb.2
  have HX := Lib.hid hx
  have HH := Lib.hid H
  have HO := Lib.hid ho
  have HS := Lib.hid hs
  have HS1 := Lib.hid hs1
  have hcar := l07Carry_any bo o k d fb fa tb ta r j H hs ho hbo hj hd ha0 (by omega)
  rw [← hx] at hcar
  clear hx H ho hs hs1 hxb
  go_enter Try.func84, Try.ntmps84
  go_wp2_with fail
  refine hcar.mono ?_
  rintro e w1 ⟨rfl, hf1, hm1⟩
  clear hcar
  cases hcb : carryB s d x j
  · have HC := Lib.hid (show formCode s k d fb fa tb ta j = 9 by unfold formCode; rw [← HX.out, hcb]; rfl)
    have HF := Lib.hid hf1
    clear hf1 hm1 hcb
    go_wp2_with fail
    go_ret
    exact ⟨by rw [HC.out]; rfl, HF.out, fun h => by rw [HC.out] at h; omega⟩
  · obtain ⟨s1, hs1⟩ : ∃ s1, s1 = carrySt s d x j := ⟨_, rfl⟩
    obtain ⟨tg1, a1, hat1⟩ : ∃ tg1 a1, At w tg a.g s1 w1 tg1 a1 := by
      obtain ⟨tg1, a1, h1, h2, h3, h4⟩ := hm1 hcb
      rw [hs1]
      exact ⟨tg1, a1, h1, h2, h3, h4⟩
    have HA1 := Lib.hid hat1
    have HS1' : Hid (MOk s1 D) := Lib.hid (by rw [hs1]; exact HS1.out)
    have HCODE := Lib.hid (show formCode s k d fb fa tb ta j = (if 300 ≤ s1.n then 5 else if k = 1 then 0 else if k = 2 then (if 4 ≤ lstN s1 fb fa then 5 else 0) else moveCode s1 fb fa tb ta) by unfold formCode; rw [← HX.out, hcb, hs1]; rfl)
    have HST := Lib.hid (show formSt s k d fb fa tb ta j = (if k = 1 then setN (more s1) fb fa 1 else if k = 2 then setN (more s1) fb fa (lstN s1 fb fa + 1) else setN (more (moveSt s1 fb fa tb ta)) fb fa 1) by unfold formSt; rw [← HX.out, hs1]; rfl)
    have hW1 : s1.W = s.W := by rw [hs1]; rfl
    rw [← hW1] at ha1 hta1
    clear hm1 hf1 hcb hat1 hs1 HX HS1
    obtain ⟨xl, hxl, _⟩ := HA1.out.m.l
    obtain ⟨AL, cL, hAL⟩ := own_form hxl
    have m5 : w1.cell? ⟨a.g, 5, none⟩ = some (.slice AL s1.n cL) := by
      have h := HA1.out.m.m.cell 5
      rw [HA1.out.g] at h
      exact h.trans (by rw [← hAL]; rfl)
    have o0 := (HA1.out.op HO.out hbo).1.c0
    have o2 := (HA1.out.op HO.out hbo).1.c2
    have o3 := (HA1.out.op HO.out hbo).1.c3
    clear hxl hAL
    by_cases hn : 300 ≤ s1.n
    · have HC := Lib.hid (show formCode s k d fb fa tb ta j = 5 by rw [HCODE.out, if_pos hn])
      go_wp2_with fail
      go_ret
      exact ⟨by rw [HC.out]; rfl, HA1.out.f, fun h => by rw [HC.out] at h; omega⟩
    · go_wp2_with fail
      have hon := l07On_any fb fa w1 HA1.out.m ha0 ha1
      rw [HA1.out.g] at hon
      refine hon.mono ?_
      rintro e w2 ⟨rfl, hb2⟩
      obtain ⟨nf, hnf⟩ : ∃ n, n = lstN s1 fb fa := ⟨_, rfl⟩
      have hf4 : nf ≤ 4 := by rw [hnf]; exact lstN_le HS1'.out ha0 ha1
      have hlf : LOwn w1 (lstV a1 fb fa) nf := by rw [hnf]; exact HA1.out.m.lst ha0 ha1
      obtain ⟨Af, cf, hvf⟩ := hlf.form
      rw [hvf] at hlf ⊢
      have HB2 := Lib.hid hb2
      have HLF := Lib.hid (hlf.blk fun q hq => hb2.block q (hlf.lt q hq))
      have HNF := Lib.hid hnf
      clear hon hnf hvf hlf hb2 m5
      go_wp2_with fail
      refine (l00Own_any _ nf w2 HLF.out (by omega)).mono ?_
      rintro e w3 ⟨vo, rfl, hlo, hnew, hb3⟩
      obtain ⟨Ao, co, rfl⟩ := hlo.form
      have HB3 : Hid (Below w1.heap.size w1 w3) := Lib.hid (HB2.out.trans (hb3.mono HB2.out.size))
      have HLO := Lib.hid hlo
      have HNEW : Hid (∀ q, (Value.slice Ao nf co).ownBlock = some q → w1.heap.size ≤ q) := Lib.hid fun q hq => Nat.le_trans HB2.out.size (hnew q hq)
      have HA3 := Lib.hid (HA1.out.below HB3.out)
      clear hlo hnew hb3 o0 o2 o3
      have k0 := (HA3.out.op HO.out hbo).1.c0
      have k2 := (HA3.out.op HO.out hbo).1.c2
      have k3 := (HA3.out.op HO.out hbo).1.c3
      rcases hk with rfl | rfl | rfl
      · go_wp2_with fail
        have HC := Lib.hid (show formCode s 1 d fb fa tb ta j = 0 by rw [HCODE.out]; simp [hn])
        have HSE := Lib.hid (show formSt s 1 d fb fa tb ta j = setN (more s1) fb fa 1 by rw [HST.out]; simp)
        have hmk := l07Make_any (w := w3.drew) bo o 1 d fb fa tb ta _ r (.slice Ao nf co) nf (HA3.out.below ((Below.refl w3.heap.size w3).drew)).m (by omega) ((HA3.out.below ((Below.refl w3.heap.size w3).drew)).op HO.out hbo).1 (HA3.out.op HO.out hbo).2 (HLO.out.blk fun _ _ => rfl) (by omega)
        rw [HA3.out.g] at hmk
        have HMK := Lib.hid hmk
        clear hmk
        go_region_held3 (fun w' => w'.cell? ⟨bo, o + 2, none⟩ = some (.int .i64 fb) ∧ w'.cell? ⟨bo, o + 2 + 1, none⟩ = some (.int .i64 fa)) (go_keep)
          (first
            | (go_at_call 107; refine HMK.out.mono ?_; rintro e w5 ⟨rfl, hmv⟩; obtain ⟨tg5, a5, hat5, hfr5, ht5⟩ := (HA3.out.below ((Below.refl w3.heap.size w3).drew)).next hmv; have HA5 : Hid (At w tg a.g (more (s1)) w5 tg5 a5) := Lib.hid hat5; have kx2 := (HA5.out.op HO.out hbo).1.c2; have kx3 := (HA5.out.op HO.out hbo).1.c3; clear hmv hat5 hfr5 ht5)
            | (go_at_call 89; have hset := l07Set_any fb fa (.slice (some ⟨w5.heap.size, 0, none⟩) 1 1) (w5.alloc (.cells #[.int .i64 s1.n] 2)) (HA5.out.below ((Below.refl w5.heap.size w5).alloc (Nat.le_refl _) (.cells #[.int .i64 s1.n] 2))).m ha0 (by exact ha1) ⟨_, _, _, rfl⟩; rw [HA5.out.g] at hset; refine hset.mono ?_; rintro e w8 ⟨rfl, hs8⟩; obtain ⟨tg8, a8, hat8⟩ := (HA5.out.below ((Below.refl w5.heap.size w5).alloc (Nat.le_refl _) (.cells #[.int .i64 s1.n] 2))).put (m := 1) ha0 (by exact ha1) (LOwn.one w5 s1.n) (fun q hq => by injection hq with hq; subst hq; exact ⟨Decidable.byContradiction fun hn => Nat.lt_irrefl _ (HA5.out.m.lt _ hn), HA5.out.f.size⟩) hs8; have HA8 := Lib.hid hat8; have kv2 := (HA8.out.op HO.out hbo).1.c2; have kv3 := (HA8.out.op HO.out hbo).1.c3; clear hset hs8 hat8 kx2 kx3))
        rename_i hHeld
        clear hHeld kv2 kv3
        go_wp2_with fail
        go_ret
        exact ⟨by rw [HC.out]; rfl, HA8.out.f, fun _ => by rw [HSE.out]; exact HA8.out.moved⟩
      · by_cases h4 : 4 ≤ nf
        · have HC := Lib.hid (show formCode s 2 d fb fa tb ta j = 5 by rw [HCODE.out, ← HNF.out]; simp [hn, h4])
          go_wp2_with fail
          go_ret
          exact ⟨by rw [HC.out]; rfl, HA3.out.f, fun h => by rw [HC.out] at h; omega⟩
        · go_wp2_with fail
          have HC := Lib.hid (show formCode s 2 d fb fa tb ta j = 0 by rw [HCODE.out, ← HNF.out]; simp [hn, h4])
          have HSE := Lib.hid (show formSt s 2 d fb fa tb ta j = setN (more s1) fb fa (nf + 1) by rw [HST.out, ← HNF.out]; simp)
          have hmk := l07Make_any (w := w3.drew) bo o 2 d fb fa tb ta _ r (.slice none 0 0) 0 (HA3.out.below ((Below.refl w3.heap.size w3).drew)).m (by omega) ((HA3.out.below ((Below.refl w3.heap.size w3).drew)).op HO.out hbo).1 (HA3.out.op HO.out hbo).2 ⟨[], World.ownsRow_nil _ _ _ _⟩ (by omega)
          rw [HA3.out.g] at hmk
          have HMK := Lib.hid hmk
          clear hmk
          go_region_held3 (fun w' => w'.cell? ⟨bo, o + 2, none⟩ = some (.int .i64 fb) ∧ w'.cell? ⟨bo, o + 2 + 1, none⟩ = some (.int .i64 fa)) (go_keep)
            (first
              | (go_at_call 107; refine HMK.out.mono ?_; rintro e w5 ⟨rfl, hmv⟩; obtain ⟨tg5, a5, hat5, hfr5, ht5⟩ := (HA3.out.below ((Below.refl w3.heap.size w3).drew)).next hmv; have HA5 : Hid (At w tg a.g (more (s1)) w5 tg5 a5) := Lib.hid hat5; have hq5 : ∀ q, (Value.slice Ao nf co).ownBlock = some q → tg1 q = 0 ∧ q < w3.heap.size := (fun q hq => ⟨Decidable.byContradiction fun hn => (by have h1 := HA1.out.m.lt q hn; have h2 := HNEW.out q hq; omega), HLO.out.lt q hq⟩); have HFREE : Hid (∀ q, (Value.slice Ao nf co).ownBlock = some q → tg5 q = 0 ∧ w.heap.size ≤ q) := Lib.hid (fun q hq => ⟨Decidable.byContradiction fun hn => (by rcases ht5 q hn with h1 | h1; exact h1 (hq5 q hq).1; exact absurd (hq5 q hq).2 (Nat.not_lt.2 h1)), Nat.le_trans HA1.out.f.size (HNEW.out q hq)⟩); obtain ⟨xs, hxs⟩ : LOwn w5 (.slice Ao nf co) nf := HLO.out.blk (fun q hq => hfr5.block q (hq5 q hq).2 fun h1 => h1 (hq5 q hq).1); have HXS := Lib.hid hxs; clear hq5 hxs; have kx2 := (HA5.out.op HO.out hbo).1.c2; have kx3 := (HA5.out.op HO.out hbo).1.c3; clear hmv hat5 hfr5 ht5)
              | (refine step_appGa w5 (by rfl) (.tmp 68) (.tmp 72) _ (by rfl) 0 2 i0 _ 1 8 Try.underlying41 hi iz is ib rfl (by omega) (.slice Ao nf co) nf (ints xs) (by rfl) HXS.out _ 1 1 [.int .i64 s1.n] (by rfl) rfl (by simp [Value.oneCell']) (by unfold maxLen; omega) (by omega) (Nat.zero_le _) ?_; intro v6 w6 hown6 hfr6 hat6; obtain ⟨A6, c6, rfl⟩ := own_form hown6; have HA6 := Lib.hid (HA5.out.same hfr6 HFREE.out); have HL6 : Hid (LOwn w6 (.slice A6 (nf + 1) c6) (nf + 1)) := Lib.hid ⟨xs ++ [(s1.n : Int)], by rw [ints_app]; exact hown6⟩; have HF6 : Hid (∀ q, (Value.slice A6 (nf + 1) c6).ownBlock = some q → tg5 q = 0 ∧ w.heap.size ≤ q) := Lib.hid (fun q hq => (by rcases hat6 with h1 | h1; exact HFREE.out q (h1.symm.trans hq); rw [hq] at h1; injection h1 with h1; exact ⟨Decidable.byContradiction fun hn => (by have h2 := HA5.out.m.lt q hn; omega), by have h2 := HA5.out.f.size; omega⟩)); have ky2 := (HA6.out.op HO.out hbo).1.c2; have ky3 := (HA6.out.op HO.out hbo).1.c3; clear hown6 hfr6 hat6 kx2 kx3)
              | (go_at_call 89; have hset := l07Set_any fb fa (.slice A6 (nf + 1) c6) w6 HA6.out.m ha0 (by exact ha1) ⟨_, _, _, rfl⟩; rw [HA5.out.g] at hset; refine hset.mono ?_; rintro e w8 ⟨rfl, hs8⟩; obtain ⟨tg8, a8, hat8⟩ := HA6.out.put (m := nf + 1) ha0 (by exact ha1) HL6.out HF6.out hs8; have HA8 := Lib.hid hat8; have kv2 := (HA8.out.op HO.out hbo).1.c2; have kv3 := (HA8.out.op HO.out hbo).1.c3; clear hset hs8 hat8 ky2 ky3))
          rename_i hHeld
          clear hHeld kv2 kv3
          go_wp2_with fail
          go_ret
          exact ⟨by rw [HC.out]; rfl, HA8.out.f, fun _ => by rw [HSE.out]; exact HA8.out.moved⟩
      · go_wp2_with fail
        have hmo := l07Move_any bo o 5 d fb fa tb ta _ r HA3.out.m HS1'.out (HA3.out.op HO.out hbo).1 (HA3.out.op HO.out hbo).2 ha0 ha1 hta0 hta1
        rw [HA3.out.g] at hmo
        obtain ⟨mc, hmc⟩ : ∃ c, c = moveCode s1 fb fa tb ta := ⟨_, rfl⟩
        have HC := Lib.hid (show formCode s 5 d fb fa tb ta j = mc by rw [HCODE.out, ← hmc]; simp [hn])
        have HSE := Lib.hid (show formSt s 5 d fb fa tb ta j = setN (more (moveSt s1 fb fa tb ta)) fb fa 1 by rw [HST.out]; simp)
        rw [← hmc] at hmo
        clear hmc
        refine hmo.mono ?_
        rintro e w4 ⟨rfl, hf4, hm4⟩
        clear hmo
        by_cases hmc : mc = 0
        · obtain ⟨tg4, a4, hat4, hfr4, _⟩ := HA3.out.next (hm4 hmc)
          subst hmc
          have HLO4 : Hid (LOwn w4 (.slice Ao nf co) nf) := Lib.hid (HLO.out.blk fun q hq => hfr4.block q (HLO.out.lt q hq) fun hn => by
            have h1 := HA1.out.m.lt q hn
            have h2 := HNEW.out q hq
            omega)
          have HA4 := Lib.hid hat4
          have hwm : (moveSt s1 fb fa tb ta).W = s1.W := moveSt_W _ _ _ _ _
          have hnm : (moveSt s1 fb fa tb ta).n = s1.n := moveSt_n _ _ _ _ _
          have k42 := (HA4.out.op HO.out hbo).1.c2
          have k43 := (HA4.out.op HO.out hbo).1.c3
          obtain ⟨s4, hs4⟩ : ∃ s4, s4 = moveSt s1 fb fa tb ta := ⟨_, rfl⟩
          have HS4 := Lib.hid hs4
          rw [← hs4] at hwm hnm
          have HA4' : Hid (At w tg a.g s4 w4 tg4 a4) := Lib.hid (by rw [hs4]; exact HA4.out)
          rw [← hwm] at ha1
          clear hm4 hfr4 hat4 hs4 HA4 hf4 k0 k2 k3
          go_wp2_with fail
          have hmk := l07Make_any (w := w4.drew) bo o 5 d fb fa tb ta _ r (.slice Ao nf co) nf (HA4'.out.below ((Below.refl w4.heap.size w4).drew)).m (by omega) ((HA4'.out.below ((Below.refl w4.heap.size w4).drew)).op HO.out hbo).1 (HA4'.out.op HO.out hbo).2 (HLO4.out.blk fun _ _ => rfl) (by omega)
          rw [HA4'.out.g] at hmk
          have HMK := Lib.hid hmk
          clear hmk
          go_region_held3 (fun w' => w'.cell? ⟨bo, o + 2, none⟩ = some (.int .i64 fb) ∧ w'.cell? ⟨bo, o + 2 + 1, none⟩ = some (.int .i64 fa)) (go_keep)
            (first
              | (go_at_call 107; refine HMK.out.mono ?_; rintro e w5 ⟨rfl, hmv⟩; obtain ⟨tg5, a5, hat5, hfr5, ht5⟩ := (HA4'.out.below ((Below.refl w4.heap.size w4).drew)).next hmv; have HA5 : Hid (At w tg a.g (more (s4)) w5 tg5 a5) := Lib.hid hat5; have kx2 := (HA5.out.op HO.out hbo).1.c2; have kx3 := (HA5.out.op HO.out hbo).1.c3; clear hmv hat5 hfr5 ht5)
              | (go_at_call 89; have hset := l07Set_any fb fa (.slice (some ⟨w5.heap.size, 0, none⟩) 1 1) (w5.alloc (.cells #[.int .i64 s1.n] 2)) (HA5.out.below ((Below.refl w5.heap.size w5).alloc (Nat.le_refl _) (.cells #[.int .i64 s1.n] 2))).m ha0 (by exact ha1) ⟨_, _, _, rfl⟩; rw [HA5.out.g] at hset; refine hset.mono ?_; rintro e w8 ⟨rfl, hs8⟩; obtain ⟨tg8, a8, hat8⟩ := (HA5.out.below ((Below.refl w5.heap.size w5).alloc (Nat.le_refl _) (.cells #[.int .i64 s1.n] 2))).put (m := 1) ha0 (by exact ha1) (LOwn.one w5 s1.n) (fun q hq => by injection hq with hq; subst hq; exact ⟨Decidable.byContradiction fun hn => Nat.lt_irrefl _ (HA5.out.m.lt _ hn), HA5.out.f.size⟩) hs8; have HA8 := Lib.hid hat8; have kv2 := (HA8.out.op HO.out hbo).1.c2; have kv3 := (HA8.out.op HO.out hbo).1.c3; clear hset hs8 hat8 kx2 kx3))
          rename_i hHeld
          clear hHeld kv2 kv3
          go_wp2_with fail
          go_ret
          exact ⟨by rw [HC.out]; rfl, HA8.out.f, fun _ => by rw [HSE.out, ← HS4.out]; exact HA8.out.moved⟩
        · have hmc' : (mc == 0) = false := by simpa using hmc
          have HF := Lib.hid (HA3.out.fr hf4)
          clear hf4 hm4
          go_wp2_with fail
          go_ret
          exact ⟨by rw [HC.out]; rfl, HF.out, fun h => absurd (by rw [HC.out] at h; exact h) hmc⟩
end
end Go.Proofs.Ytpmfkpehmckgmaa
