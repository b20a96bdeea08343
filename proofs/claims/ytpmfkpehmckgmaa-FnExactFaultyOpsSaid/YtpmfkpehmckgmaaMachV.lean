/- Walks: loops are transferred, and a loop is made, by the program. No condition but the machine's bounds. Walks: a loop is made, by the program. No condition but the machine's bounds. -/
import Derived.Test.YtpmfkpehmckgmaaMachS
import Derived.Test.YtpmfkpehmckgmaaMachU
import Derived.Deep.RegionLaw
namespace Go.Proofs.Ytpmfkpehmckgmaa
open Go.RowKit
set_option maxRecDepth 20000

/-- The mark of a needle's list. -/
def tagOf (b x : Int) : Nat := if b = 1 then 8 + 2 * x.toNat else 9 + 2 * x.toNat
def putA (a : MAdr) (b x : Int) (v : Value) : MAdr := if b = 1 then { a with F := fun q => if q = x.toNat then v else a.F q } else { a with K := fun q => if q = x.toNat then v else a.K q }
theorem putA_g (a : MAdr) (b x : Int) (v : Value) : (putA a b x v).g = a.g := by unfold putA; split <;> rfl
theorem putA_L (a : MAdr) (b x : Int) (v : Value) : (putA a b x v).L = a.L := by unfold putA; split <;> rfl
theorem putA_bed (a : MAdr) (b x : Int) (v : Value) (c : Int) : bedG (putA a b x v) c = bedG a c := by unfold putA; split <;> rfl
theorem putA_at (a : MAdr) (b x : Int) (v : Value) : lstV (putA a b x v) b x = v := by
  unfold lstV putA
  split
  · exact if_pos rfl
  · exact if_pos rfl
theorem putA_far (a : MAdr) {b b' : Int} (x x' : Int) (v : Value) (h : b = 1 ∧ b' = 2 ∨ b = 2 ∧ b' = 1) : lstV (putA a b x v) b' x' = lstV a b' x' := by
  rcases h with ⟨rfl, rfl⟩ | ⟨rfl, rfl⟩ <;> rfl
theorem tagOf_ge (b x : Int) : 8 ≤ tagOf b x := by unfold tagOf; split <;> omega
section
variable {tg : Nat → Nat} {a : MAdr} {s : Mst} {D : Nat} {w w0 : World}
theorem Mem.lstTag (H : Mem tg a s w) {b x : Int} (hx : 0 ≤ x) (hx1 : x < s.W) : TagV tg (lstV a b x) (tagOf b x) := by
  unfold lstV tagOf
  split
  · exact H.tF _ (by omega)
  · exact H.tK _ (by omega)
theorem Mem.putR (h : Mem tg a s w0) {b x : Int} (hx : 0 ≤ x) (hx1 : x < s.W) (r0 : MRest tg a s (tagOf b x) w) (hz : w0.heap.size ≤ w.heap.size) {v : Value} {m : Nat} (hv : LOwn w v m) (hf : Free tg v (tagOf b x)) :
    Mem (retag tg v (tagOf b x)) (putA a b x v) (setN s b x m) (w.setCell ⟨bedG a b, x.toNat, none⟩ v) := by
  unfold tagOf putA setN bedG
  unfold tagOf at r0 hf
  by_cases hb : b = 1
  · rw [if_pos hb] at r0 hf
    rw [if_pos hb, if_pos hb, if_pos hb, if_pos hb]
    exact h.setF r0 hz (by omega) hv hf
  · rw [if_neg hb] at r0 hf
    rw [if_neg hb, if_neg hb, if_neg hb, if_neg hb]
    exact h.setK r0 hz (by omega) hv hf
theorem Mem.putX (h : Mem tg a s w) {b x : Int} (hx : 0 ≤ x) (hx1 : x < s.W) {v : Value} {m : Nat} (hv : LOwn w v m) (hf : Free tg v (tagOf b x)) :
    Mem (retag tg v (tagOf b x)) (putA a b x v) (setN s b x m) (w.setCell ⟨bedG a b, x.toNat, none⟩ v) := h.putR hx hx1 (h.rest _ fun _ _ _ => rfl) (Nat.le_refl _) hv hf
theorem bedG_tag (h : Mem tg a s w) (b : Int) : OwnB tg (bedG a b) := by
  unfold OwnB bedG
  split
  · rw [h.tf]; omega
  · rw [h.tk]; omega
theorem Mem.frzN (h : Mem tg a s w) {b x : Int} (hx : 0 ≤ x) (hx1 : x < s.W) : w.frozen? ⟨bedG a b, x.toNat, none⟩ = false := by
  unfold bedG
  split
  · have := (h.fw x.toNat (by omega)).2
    rwa [Nat.zero_add] at this
  · have := (h.kw x.toNat (by omega)).2
    rwa [Nat.zero_add] at this
theorem LOwn.nil (w : World) : LOwn w (.slice none 0 0) 0 := ⟨[], World.ownsRow_nil _ _ _ _⟩
theorem retag_id {v : Value} {c : Nat} (h : v.ownBlock = none) (b : Nat) : retag tg v c b = tg b := by unfold retag; rw [if_neg (by rw [h]; exact fun e => by cases e)]
theorem At.putR {wb : World} {tgb : Nat → Nat} {g : Nat} (h : At wb tgb g s w0 tg a) {b x : Int} (hx : 0 ≤ x) (hx1 : x < s.W) (r0 : MRest tg a s (tagOf b x) w) (hfr : Fr w0 w (OwnB tg)) {v : Value} {m : Nat} (hv : LOwn w v m) (hf : Free tg v (tagOf b x)) (hnew : ∀ q, v.ownBlock = some q → tgb q ≠ 0 ∨ wb.heap.size ≤ q) :
    At wb tgb g (setN s b x m) (w.setCell ⟨bedG a b, x.toNat, none⟩ v) (retag tg v (tagOf b x)) (putA a b x v) :=
  ⟨(putA_g _ _ _ _).trans h.g, h.m.putR hx hx1 r0 hfr.size hv hf, h.fr (hfr.set (p := ⟨bedG a b, x.toNat, none⟩) (bedG_tag h.m b) v), fun q hq => by
    unfold retag at hq
    split at hq
    · exact hnew q ‹_›
    · exact h.t q hq⟩
theorem At.putX {wb : World} {tgb : Nat → Nat} {g : Nat} (h : At wb tgb g s w tg a) {b x : Int} (hx : 0 ≤ x) (hx1 : x < s.W) {v : Value} {m : Nat} (hv : LOwn w v m) (hf : Free tg v (tagOf b x)) (hnew : ∀ q, v.ownBlock = some q → tgb q ≠ 0 ∨ wb.heap.size ≤ q) :
    At wb tgb g (setN s b x m) (w.setCell ⟨bedG a b, x.toNat, none⟩ v) (retag tg v (tagOf b x)) (putA a b x v) :=
  h.putR hx hx1 (h.m.rest _ fun _ _ _ => rfl) (Fr.refl _ _) hv hf hnew
theorem LOwn.rdf {A : Option Addr} {n c : Nat} (h : LOwn w (.slice A n c) n) : ∃ f : Nat → Int, Rd w A n (fun j => .int .i64 (f j)) := by
  obtain ⟨A', c', xs, e, hr⟩ := h.rd
  injection e with e1 e2 e3
  subst e1
  exact ⟨_, hr⟩
def TransP (w : World) (tg : Nat → Nat) (g : Nat) (s : Mst) (fb fa tb ta : Int) (e : Ending) (w' : World) : Prop :=
  ∃ v tg' a', e = .returned v ∧ At w tg g (moveSt s fb fa tb ta) w' tg' a' ∧ LOwn w' v (lstN s fb fa) ∧ lstV a' fb fa = .slice none 0 0 ∧ ∀ q, v.ownBlock = some q → 8 ≤ tg' q
set_option maxHeartbeats 4000000 in
theorem transfer_any (fb fa tb ta : Int) (H : Mem tg a s w) (hs : MOk s D) (hb : fb = 1 ∧ tb = 2 ∨ fb = 2 ∧ tb = 1) (ha0 : 0 ≤ fa) (ha1 : fa < s.W) (hta0 : 0 ≤ ta) (hta1 : ta < s.W) (hpos : lstN s fb fa ≠ 0) :
    Calls Try.prog 95 #[.pointer (some ⟨a.g, 0, none⟩), .agg #[.int .i64 fb, .int .i64 fa], .agg #[.int .i64 tb, .int .i64 ta]] w (TransP w tg a.g s fb fa tb ta) := by
  have hfb1 : fb = 1 ∨ fb = 2 := by omega
  have htb1 : tb = 1 ∨ tb = 2 := by omega
  have hg : Below w.heap.size w ((w.alloc (.cells #[.int .i64 fb, .int .i64 fa] 37)).alloc (.cells #[.int .i64 tb, .int .i64 ta] 37)) := by (repeat' first | with_reducible exact Below.refl _ _ | with_reducible refine Below.alloc ?_ ?_ _ | with_reducible refine Below.setCell ?_ ?_ _ | with_reducible refine Below.drew ?_ | with_reducible refine Below.drewN' ?_ _ | with_reducible (refine Below.trans ?_ (Below.mono (by assumption) ?_)) | exact Nat.le_refl _ | (simp; done) | (simp; omega) | omega)
  have HM := Lib.hid (H.below hg)
  have HG := Lib.hid hg
  have HS := Lib.hid hs
  have HP := Lib.hid hpos
  have HFB := Lib.hid hb
  obtain ⟨nf, hnf⟩ : ∃ n, n = lstN s fb fa := ⟨_, rfl⟩
  obtain ⟨nt, hnt⟩ : ∃ n, n = lstN s tb ta := ⟨_, rfl⟩
  have hf4 : nf ≤ 4 := by rw [hnf]; exact lstN_le hs ha0 ha1
  have ht4 : nt ≤ 4 := by rw [hnt]; exact lstN_le hs hta0 hta1
  have hlf := HM.out.lst (b := fb) ha0 ha1
  have hlt := HM.out.lst (b := tb) hta0 hta1
  rw [← hnf] at hlf
  rw [← hnt] at hlt
  obtain ⟨Af, cf, hvf⟩ := hlf.form
  obtain ⟨Au, cu, hvt⟩ := hlt.form
  have HVF := Lib.hid hvf
  have HVT := Lib.hid hvt
  have HNF := Lib.hid hnf
  have HNT := Lib.hid hnt
  have HX0 := Lib.hid (And.intro (Blk.alloc (Blk.at_ w 37 #[.int .i64 fb, .int .i64 fa] rfl) (.cells #[.int .i64 tb, .int .i64 ta] 37)) (Blk.at_ (w.alloc (.cells #[.int .i64 fb, .int .i64 fa] 37)) 37 #[.int .i64 tb, .int .i64 ta] (show w.heap.size + 1 = _ by simp)))
  have HLF0 := Lib.hid hlf
  rw [hvf] at HLF0
  have HLT0 := Lib.hid hlt
  rw [hvt] at HLT0
  have HTF : Hid (∀ q, (Value.slice Af nf cf).ownBlock = some q → tg q = tagOf fb fa) := Lib.hid (by rw [← hvf]; exact H.lstTag ha0 ha1)
  have HA0 := Lib.hid ((At.start H).below hg)
  have HGT : Hid (∀ b, bedG a b < w.heap.size) := Lib.hid fun b => H.lt _ (bedG_tag H b)
  have HGT3 : Hid (∀ b, tg (bedG a b) = 2 ∨ tg (bedG a b) = 3) := Lib.hid fun b => by unfold bedG; split; exact .inl H.tf; exact .inr H.tk
  have hpos' : nf ≠ 0 := by rw [hnf]; exact hpos
  clear H hs hpos hb hlf hlt hvf hvt hnf hnt hg
  go_enter Try.func95, Try.ntmps95
  go_wp2_with fail
  refine (on_any fb fa HM.out hfb1 ha0 ha1).mono ?_
  rintro e w1 ⟨rfl, hb1⟩
  have HM1 := Lib.hid (HM.out.below hb1)
  have HB1 := Lib.hid (HG.out.trans (hb1.mono HG.out.size))
  have HX1 := Lib.hid (And.intro (HX0.out.1.below hb1 HX0.out.1.lt) (HX0.out.2.below hb1 HX0.out.2.lt))
  have kc := HM1.out.cellN (b := fb) ha0 ha1
  rw [HVF.out] at kc
  have HA1 := Lib.hid (HA0.out.below hb1)
  have HLF := Lib.hid (HLF0.out.blk fun q hq => hb1.block q (HLF0.out.lt q hq))
  have HLT := Lib.hid (HLT0.out.blk fun q hq => hb1.block q (HLT0.out.lt q hq))
  obtain ⟨FF, hrf⟩ := HLF.out.rdf
  obtain ⟨FT, hrt⟩ := HLT.out.rdf
  have HRF := Lib.hid hrf
  have HRT := Lib.hid hrt
  clear hrf hrt
  have t0 := (show _ = some (Value.int .i64 tb) from HX1.out.2.cell 0)
  have t1 := (show _ = some (Value.int .i64 ta) from HX1.out.2.cell 1)
  clear hb1
  have HFT : Hid (fb + tb = 3) := Lib.hid (by have := HFB.out; omega)
  rcases htb1 with rfl | rfl
  · go_wp2_with fail
    go_region_with (first
      | (go_at_call 93; (with_reducible refine (on_any 1 ta (HA1.out.below ((Below.refl w1.heap.size w1).drew)).m (by omega) hta0 hta1).mono ?_); rintro e w2 ⟨rfl, hb2⟩; have HB2 : Hid (Below w1.heap.size w1 w2) := Lib.hid (((Below.refl w1.heap.size w1).drew).trans hb2); have x0 := (show _ = some (Value.int .i64 1) from (HX1.out.2.below HB2.out HX1.out.2.lt).cell 0); have x1 := (show _ = some (Value.int .i64 ta) from (HX1.out.2.below HB2.out HX1.out.2.lt).cell 1); clear hb2)
      | (go_at_call 93; (with_reducible refine (on_any 1 ta (HA1.out.below HB2.out).m (by omega) hta0 hta1).mono ?_); rintro e w3 ⟨rfl, hb3⟩; have HB3 : Hid (Below w1.heap.size w1 w3) := Lib.hid (HB2.out.trans (hb3.mono HB2.out.size)); have kt := (HA1.out.below HB3.out).m.cellN (b := 1) hta0 hta1; rw [HVT.out] at kt; clear hb3)
      | (go_at_call 46; have hb4 : Below w1.heap.size w1 (w3.alloc (.cells #[.slice Au nt cu, .slice Af nf cf] 41)) := HB3.out.alloc HB3.out.size _; refine (concat64_any w3.heap.size 2 Au Af nt nf cu cf FT FF _ ((new_at _ _ _ rfl 0).trans rfl) ((new_at _ _ _ rfl 1).trans rfl) (HRT.out.below hb4) (HRF.out.below hb4) (by omega) (by omega) (by omega)).mono ?_; rintro e w5 ⟨v5, rfl, hl5, hn5, hb5⟩; obtain ⟨A5, c5, rfl⟩ := hl5.form; have HB5 : Hid (Below w1.heap.size w1 w5) := Lib.hid (hb4.trans (hb5.mono hb4.size)); have HL5 := Lib.hid hl5; have HN5 : Hid (∀ q, (Value.slice A5 (nt + nf) c5).ownBlock = some q → w1.heap.size ≤ q) := Lib.hid (fun q hq => Nat.le_trans (Nat.le_trans HB3.out.size (by simp)) (hn5 q hq)); have k5 := (HA1.out.below HB5.out).m.cellN (b := 1) hta0 hta1; rw [HVT.out] at k5; have f5 := (HA1.out.below HB5.out).m.frzN (b := 1) hta0 hta1; clear hb4 hl5 hn5 hb5))
    all_goals
      have HFREE : Hid (∀ q, (Value.slice A5 (nt + nf) c5).ownBlock = some q → tg q = 0) := Lib.hid (fun q hq => Decidable.byContradiction fun hn => by have h1 := HA1.out.m.lt q hn; have h2 := HN5.out q hq; omega)
      have HA6 := Lib.hid ((HA1.out.below HB5.out).putX (b := 1) hta0 hta1 HL5.out (fun q hq => .inl (HFREE.out q hq)) (fun q hq => .inr (Nat.le_trans HA1.out.f.size (HN5.out q hq))))
      have HX6 := Lib.hid ((HX1.out.1.below HB5.out HX1.out.1.lt).far (p := ⟨bedG a 1, ta.toNat, none⟩) (by intro e; have h1 := HGT.out 1; rw [← show w.heap.size = bedG a 1 from e] at h1; omega) (.slice A5 (nt + nf) c5))
      have HLF6 : Hid (LOwn (w5.setCell ⟨bedG a 1, ta.toNat, none⟩ (.slice A5 (nt + nf) c5)) (.slice Af nf cf) nf) := Lib.hid (HLF.out.blk fun q hq => by
        have ht := HTF.out q hq
        refine (set_keep _ _ _ _ ?_).trans (HB5.out.block q (HLF.out.lt q hq))
        intro e
        have h1 := HGT3.out 1
        rw [← show q = bedG a 1 from e, ht] at h1
        have := tagOf_ge fb fa
        omega)
      have z0 := (show _ = some (Value.int .i64 fb) from HX6.out.cell 0)
      have z1 := (show _ = some (Value.int .i64 fa) from HX6.out.cell 1)
      clear kc t0 t1 k5 f5
      go_wp2_with fail
      have hon := on_any fb fa HA6.out.m hfb1 ha0 (by rw [setN_W]; exact ha1)
      rw [putA_g, putA_bed] at hon
      refine hon.mono ?_
      rintro e w7 ⟨rfl, hb7⟩
      clear hon
      have HA7 := Lib.hid (HA6.out.below hb7)
      have HLF7 := Lib.hid (HLF6.out.blk fun q hq => hb7.block q (HLF6.out.lt q hq))
      have k7 := HA7.out.m.cellN (b := fb) ha0 (by rw [setN_W]; exact ha1)
      have f7 := HA7.out.m.frzN (b := fb) ha0 (by rw [setN_W]; exact ha1)
      rw [putA_bed] at k7 f7
      rw [putA_far a ta fa _ (by have := HFT.out; omega), HVF.out] at k7
      clear hb7 z0 z1
      have HA8 := Lib.hid (HA7.out.putX (b := fb) ha0 (by rw [setN_W]; exact ha1) (LOwn.nil w7) (fun q hq => by cases hq) (fun q hq => by cases hq))
      go_wp2_with fail
      go_ret
      have h8 := HA8.out
      rw [putA_bed] at h8
      have e8 : setN (setN s 1 ta (nt + nf)) fb fa 0 = moveSt s fb fa 1 ta := by
        unfold moveSt
        rw [← HNF.out, ← HNT.out, Nat.add_comm nt nf]
      rw [e8] at h8
      refine ⟨.slice Af nf cf, _, _, rfl, h8, ?_, putA_at _ _ _ _, ?_⟩
      · rw [← HNF.out]
        refine HLF7.out.blk fun q hq => set_keep _ _ _ _ ?_
        intro e
        have ht := HTF.out q hq
        have h1 := HGT3.out fb
        rw [← show q = bedG a fb from e, ht] at h1
        have := tagOf_ge fb fa
        omega
      · intro q hq
        have ht := HTF.out q hq
        rw [retag_id rfl]
        unfold retag
        split
        · exact tagOf_ge _ _
        · rw [ht]
          exact tagOf_ge _ _
  · go_wp2_with fail
    go_region_with (first
      | (go_at_call 93; (with_reducible refine (on_any 2 ta (HA1.out.below ((Below.refl w1.heap.size w1).drew)).m (by omega) hta0 hta1).mono ?_); rintro e w2 ⟨rfl, hb2⟩; have HB2 : Hid (Below w1.heap.size w1 w2) := Lib.hid (((Below.refl w1.heap.size w1).drew).trans hb2); have x0 := (show _ = some (Value.int .i64 2) from (HX1.out.2.below HB2.out HX1.out.2.lt).cell 0); have x1 := (show _ = some (Value.int .i64 ta) from (HX1.out.2.below HB2.out HX1.out.2.lt).cell 1); clear hb2)
      | (go_at_call 93; (with_reducible refine (on_any 2 ta (HA1.out.below HB2.out).m (by omega) hta0 hta1).mono ?_); rintro e w3 ⟨rfl, hb3⟩; have HB3 : Hid (Below w1.heap.size w1 w3) := Lib.hid (HB2.out.trans (hb3.mono HB2.out.size)); have kt := (HA1.out.below HB3.out).m.cellN (b := 2) hta0 hta1; rw [HVT.out] at kt; clear hb3)
      | (go_at_call 46; have hb4 : Below w1.heap.size w1 (w3.alloc (.cells #[.slice Af nf cf, .slice Au nt cu] 41)) := HB3.out.alloc HB3.out.size _; refine (concat64_any w3.heap.size 2 Af Au nf nt cf cu FF FT _ ((new_at _ _ _ rfl 0).trans rfl) ((new_at _ _ _ rfl 1).trans rfl) (HRF.out.below hb4) (HRT.out.below hb4) (by omega) (by omega) (by omega)).mono ?_; rintro e w5 ⟨v5, rfl, hl5, hn5, hb5⟩; obtain ⟨A5, c5, rfl⟩ := hl5.form; have HB5 : Hid (Below w1.heap.size w1 w5) := Lib.hid (hb4.trans (hb5.mono hb4.size)); have HL5 := Lib.hid hl5; have HN5 : Hid (∀ q, (Value.slice A5 (nf + nt) c5).ownBlock = some q → w1.heap.size ≤ q) := Lib.hid (fun q hq => Nat.le_trans (Nat.le_trans HB3.out.size (by simp)) (hn5 q hq)); have k5 := (HA1.out.below HB5.out).m.cellN (b := 2) hta0 hta1; rw [HVT.out] at k5; have f5 := (HA1.out.below HB5.out).m.frzN (b := 2) hta0 hta1; clear hb4 hl5 hn5 hb5))
    all_goals
      have HFREE : Hid (∀ q, (Value.slice A5 (nf + nt) c5).ownBlock = some q → tg q = 0) := Lib.hid (fun q hq => Decidable.byContradiction fun hn => by have h1 := HA1.out.m.lt q hn; have h2 := HN5.out q hq; omega)
      have HA6 := Lib.hid ((HA1.out.below HB5.out).putX (b := 2) hta0 hta1 HL5.out (fun q hq => .inl (HFREE.out q hq)) (fun q hq => .inr (Nat.le_trans HA1.out.f.size (HN5.out q hq))))
      have HX6 := Lib.hid ((HX1.out.1.below HB5.out HX1.out.1.lt).far (p := ⟨bedG a 2, ta.toNat, none⟩) (by intro e; have h1 := HGT.out 2; rw [← show w.heap.size = bedG a 2 from e] at h1; omega) (.slice A5 (nf + nt) c5))
      have HLF6 : Hid (LOwn (w5.setCell ⟨bedG a 2, ta.toNat, none⟩ (.slice A5 (nf + nt) c5)) (.slice Af nf cf) nf) := Lib.hid (HLF.out.blk fun q hq => by
        have ht := HTF.out q hq
        refine (set_keep _ _ _ _ ?_).trans (HB5.out.block q (HLF.out.lt q hq))
        intro e
        have h1 := HGT3.out 2
        rw [← show q = bedG a 2 from e, ht] at h1
        have := tagOf_ge fb fa
        omega)
      have z0 := (show _ = some (Value.int .i64 fb) from HX6.out.cell 0)
      have z1 := (show _ = some (Value.int .i64 fa) from HX6.out.cell 1)
      clear kc t0 t1 k5 f5
      go_wp2_with fail
      have hon := on_any fb fa HA6.out.m hfb1 ha0 (by rw [setN_W]; exact ha1)
      rw [putA_g, putA_bed] at hon
      refine hon.mono ?_
      rintro e w7 ⟨rfl, hb7⟩
      clear hon
      have HA7 := Lib.hid (HA6.out.below hb7)
      have HLF7 := Lib.hid (HLF6.out.blk fun q hq => hb7.block q (HLF6.out.lt q hq))
      have k7 := HA7.out.m.cellN (b := fb) ha0 (by rw [setN_W]; exact ha1)
      have f7 := HA7.out.m.frzN (b := fb) ha0 (by rw [setN_W]; exact ha1)
      rw [putA_bed] at k7 f7
      rw [putA_far a ta fa _ (by have := HFT.out; omega), HVF.out] at k7
      clear hb7 z0 z1
      have HA8 := Lib.hid (HA7.out.putX (b := fb) ha0 (by rw [setN_W]; exact ha1) (LOwn.nil w7) (fun q hq => by cases hq) (fun q hq => by cases hq))
      go_wp2_with fail
      go_ret
      have h8 := HA8.out
      rw [putA_bed] at h8
      have e8 : setN (setN s 2 ta (nf + nt)) fb fa 0 = moveSt s fb fa 2 ta := by
        unfold moveSt
        rw [← HNF.out, ← HNT.out]
      rw [e8] at h8
      refine ⟨.slice Af nf cf, _, _, rfl, h8, ?_, putA_at _ _ _ _, ?_⟩
      · rw [← HNF.out]
        refine HLF7.out.blk fun q hq => set_keep _ _ _ _ ?_
        intro e
        have ht := HTF.out q hq
        have h1 := HGT3.out fb
        rw [← show q = bedG a fb from e, ht] at h1
        have := tagOf_ge fb fa
        omega
      · intro q hq
        have ht := HTF.out q hq
        rw [retag_id rfl]
        unfold retag
        split
        · exact tagOf_ge _ _
        · rw [ht]
          exact tagOf_ge _ _
end
end Go.Proofs.Ytpmfkpehmckgmaa

namespace Go.Proofs.Ytpmfkpehmckgmaa
open Go.RowKit
set_option maxRecDepth 20000

section
variable {tg : Nat → Nat} {a : MAdr} {s : Mst} {D : Nat} {w : World}
theorem At.L {wb : World} {tgb : Nat → Nat} {g : Nat} (h : At wb tgb g s w tg a) : ∃ AL cL, a.L = .slice AL s.n cL := by
  obtain ⟨xs, hx, _⟩ := h.m.l
  exact own_form hx
theorem At.setL {wb : World} {tgb : Nat → Nat} {g : Nat} {w0 : World} (h : At wb tgb g s w0 tg a) (r0 : MRest tg a s 5 w) (hfr : Fr w0 w (OwnB tg)) {v : Value} {m : Nat} (hv : IOwn tg w v m) (hf : Free tg v 5) (hnew : ∀ q, v.ownBlock = some q → tgb q ≠ 0 ∨ wb.heap.size ≤ q) :
    At wb tgb g { s with n := m } (w.setCell ⟨a.g, 5, none⟩ v) (retag tg v 5) { a with L := v } :=
  ⟨h.g, h.m.setL r0 hfr.size hv hf, h.fr (hfr.set (p := ⟨a.g, 5, none⟩) (by unfold OwnB; rw [h.m.tm]; omega) v), fun q hq => by
    unfold retag at hq
    split at hq
    · exact hnew q ‹_›
    · exact h.t q hq⟩
theorem setN_more (s : Mst) (b x : Int) (q : Nat) : { setN s b x q with n := s.n + 1 } = setN (more s) b x q := by unfold setN more; split <;> rfl
set_option maxHeartbeats 4000000 in
theorem loop_any (k d fb fa tb ta c r : Int) (v : Value) (m : Nat) (H : Mem tg a s w) (hs : MOk s D) (hfb : fb = 1 ∨ fb = 2) (ha0 : 0 ≤ fa) (ha1 : fa < s.W) (hn : s.n < 300) (hv : LOwn w v m) (hm : m ≤ 1000) (hpar : ∀ q, v.ownBlock = some q → 8 ≤ tg q ∧ ¬ (lstV a fb fa).ownBlock = some q) :
    Calls Try.prog 94 #[.pointer (some ⟨a.g, 0, none⟩), .agg #[.int .i64 k, .int .i64 d, .int .i64 fb, .int .i64 fa, .int .i64 tb, .int .i64 ta, .int .i64 c, .int .i64 r], v] w fun e w' => e = .returned (.tuple #[]) ∧ Moved w tg a.g (setN (more s) fb fa (lstN s fb fa + 1)) w' := by
  obtain ⟨i0, hi, iz, is, ib⟩ := info_parts infoN
  obtain ⟨j0, hj, jz, js, jb⟩ := info_parts infoI
  have hg : Below w.heap.size w (w.alloc (.cells #[.int .i64 k, .int .i64 d, .int .i64 fb, .int .i64 fa, .int .i64 tb, .int .i64 ta, .int .i64 c, .int .i64 r] 58)) := (Below.refl _ _).alloc (Nat.le_refl _) _
  have HA0 := Lib.hid ((At.start H).below hg)
  have hbox := box_ce w k d fb fa tb ta c r
  have HBX := Lib.hid hbox
  obtain ⟨nf, hnf⟩ : ∃ n, n = lstN s fb fa := ⟨_, rfl⟩
  have hf4 : nf ≤ 4 := by rw [hnf]; exact lstN_le hs ha0 ha1
  have hlf := HA0.out.m.lst (b := fb) ha0 ha1
  rw [← hnf] at hlf
  obtain ⟨Af, cf, hvf⟩ := hlf.form
  have HVF := Lib.hid hvf
  have HNF := Lib.hid hnf
  rw [hvf] at hlf hpar
  have HLF0 := Lib.hid hlf
  have HPAR := Lib.hid hpar
  have HV0 := Lib.hid (hv.blk (w' := w.alloc (.cells #[.int .i64 k, .int .i64 d, .int .i64 fb, .int .i64 fa, .int .i64 tb, .int .i64 ta, .int .i64 c, .int .i64 r] 58)) fun q hq => hg.block q (hv.lt q hq))
  have HTF : Hid (∀ q, (Value.slice Af nf cf).ownBlock = some q → tg q = tagOf fb fa) := Lib.hid (by rw [← hvf]; exact H.lstTag ha0 ha1)
  have HGT : Hid (∀ b, bedG a b < w.heap.size) := Lib.hid fun b => H.lt _ (bedG_tag H b)
  have HGT3 : Hid (∀ b, tg (bedG a b) = 2 ∨ tg (bedG a b) = 3) := Lib.hid fun b => by unfold bedG; split; exact .inl H.tf; exact .inr H.tk
  obtain ⟨Av, cv, rfl⟩ := hv.form
  have e2 := hbox.c2
  have e3 := hbox.c3
  have HGL := Lib.hid (H.lt a.g (by rw [H.tm]; omega))
  have HTM := Lib.hid H.tm
  have HTW : Hid (∀ q, tg q ≠ 0 → q < w.heap.size) := Lib.hid H.lt
  have HLTF : Hid (∀ q, (Value.slice Af nf cf).ownBlock = some q → q < w.heap.size) := Lib.hid fun q hq => H.lt q (by rw [HTF.out q hq]; have := tagOf_ge fb fa; omega)
  clear H hs hlf hvf hnf hv hpar hbox hg
  go_enter Try.func94, Try.ntmps94
  go_wp2_with fail
  refine (on_any fb fa HA0.out.m hfb ha0 ha1).mono ?_
  rintro e w1 ⟨rfl, hb1⟩
  have HA1 := Lib.hid (HA0.out.below hb1)
  have HO1 := Lib.hid ((opCe_loc _ _ _ _ _ _ _ _ _ _).1 _ _ HBX.out fun q hq => by subst hq; exact hb1.block _ (World.block_lt_of_cell? _ _ HBX.out.c0))
  have HV1 := Lib.hid (HV0.out.blk fun q hq => hb1.block q (HV0.out.lt q hq))
  have HLF1 := Lib.hid (HLF0.out.blk fun q hq => hb1.block q (HLF0.out.lt q hq))
  have kc := HA1.out.m.cellN (b := fb) ha0 ha1
  rw [HVF.out] at kc
  have kf := HA1.out.m.frzN (b := fb) ha0 ha1
  obtain ⟨AL, cL, hL⟩ := HA1.out.L
  have HL := Lib.hid hL
  have m5 : w1.cell? ⟨a.g, 5, none⟩ = some (.slice AL s.n cL) := (HA1.out.m.m.cell 5).trans (by rw [← hL]; rfl)
  obtain ⟨xs, hxs⟩ := HLF1.out
  have HXS := Lib.hid hxs
  clear hb1 hL hxs e2 e3
  go_wp2_with fail
  have kca := (World.cell?_alloc_some w1 ⟨bedG a fb, fa.toNat, none⟩ (.cells #[.int .i64 s.n] 2) (by rw [kc]; rfl)).trans kc
  go_region_law (refine step_appGa w1.drew (by rfl) (.tmp 14) (.tmp 20) _ (by rfl) 0 2 i0 _ 1 8 Try.underlying41 hi iz is ib rfl (by omega) (.slice Af nf cf) nf (ints xs) (by rfl) HXS.out _ 1 1 [.int .i64 s.n] (by rfl) rfl (by simp [Value.oneCell']) (by unfold maxLen; omega) (by omega) (Nat.zero_le _) ?_; intro v2 w2 hown2 hfr2 hat2; obtain ⟨A2, c2, rfl⟩ := own_form hown2; have hbn : ¬ (Value.slice Af nf cf).ownBlock = some (bedG a fb) := (fun e => by have h1 := HTF.out _ e; have h2 := HGT3.out fb; have := tagOf_ge fb fa; omega); have hbl : bedG a fb < w1.drew.heap.size := World.block_lt_of_cell? w1 _ kc; have k2 := (hfr2.cells hbl hbn fa.toNat).trans kc; have f2 : w2.frozen? ⟨bedG a fb, fa.toNat, none⟩ = false := (World.frozen?_of_block (w := w1.drew) (a := ⟨bedG a fb, fa.toNat, none⟩) (hfr2.block _ hbl hbn)).trans kf; have HOWN2 := Lib.hid hown2; have HFR2 := Lib.hid hfr2; have HAT2 := Lib.hid hat2; clear hown2 hfr2 hat2 hbn hbl)
  all_goals
    have HF12 : Hid (Fr w1 w2 (fun b => (Value.slice Af nf cf).ownBlock = some b)) := Lib.hid ⟨HFR2.out.os, HFR2.out.tape, HFR2.out.output, HFR2.out.size, HFR2.out.block⟩
    have HN2 : Hid (∀ q, (Value.slice A2 (nf + 1) c2).ownBlock = some q → tg q = tagOf fb fa ∨ (tg q = 0 ∧ w1.heap.size ≤ q)) := Lib.hid fun q hq => by
      rcases HAT2.out with h | h
      · exact .inl (HTF.out q (h.symm.trans hq))
      · rw [hq] at h
        have h' : q = w1.heap.size + 1 := Option.some.inj h
        exact .inr ⟨Decidable.byContradiction fun hn => by have := HA1.out.m.lt q hn; omega, by omega⟩
    have HA2 := Lib.hid (HA1.out.putR (b := fb) (x := fa) (w := w2) (v := .slice A2 (nf + 1) c2) (m := nf + 1) ha0 ha1 (HA1.out.m.rest (tagOf fb fa) fun b hb hc => HF12.out.block b (HA1.out.m.lt b hb) fun e => hc (HTF.out b e)) (HF12.out.mono fun b hb => by unfold OwnB; rw [HTF.out b hb]; have := tagOf_ge fb fa; omega) ⟨xs ++ [(s.n : Int)], by rw [ints_app]; exact HOWN2.out⟩ (fun q hq => by rcases HN2.out q hq with h | h; exact .inr h; exact .inl h.1) (fun q hq => by rcases HN2.out q hq with h | h; exact .inl (by rw [h]; have := tagOf_ge fb fa; omega); exact .inr (Nat.le_trans HA1.out.f.size h.2)))
    have HTB : Hid (retag tg (.slice A2 (nf + 1) c2) (tagOf fb fa) w.heap.size = 0) := Lib.hid (by
      have hz1 : w.heap.size < w1.heap.size := World.block_lt_of_cell? _ _ HO1.out.c0
      unfold retag
      rw [if_neg (fun e => by
        rcases HN2.out _ e with h | h
        · have h1 := HTW.out w.heap.size (by rw [h]; have := tagOf_ge fb fa; omega)
          omega
        · omega)]
      exact Decidable.byContradiction fun hn => by have := HTW.out _ hn; omega)
    have HO2 : Hid (OpCe w.heap.size 0 k d fb fa tb ta c r (w2.setCell ⟨bedG a fb, fa.toNat, none⟩ (.slice A2 (nf + 1) c2))) := Lib.hid ((opCe_loc _ _ _ _ _ _ _ _ _ _).1 _ _ HO1.out fun q hq => by
      subst hq
      exact (set_keep _ _ _ _ (by intro e; have h1 := HGT.out fb; rw [← show w.heap.size = bedG a fb from e] at h1; omega)).trans (HF12.out.block _ (World.block_lt_of_cell? _ _ HO1.out.c0) fun e => by have := HLTF.out _ e; omega))
    have HV2 : Hid (LOwn (w2.setCell ⟨bedG a fb, fa.toNat, none⟩ (.slice A2 (nf + 1) c2)) (.slice Av m cv) m) := Lib.hid (HV1.out.blk fun q hq => by
      refine (set_keep _ _ _ _ ?_).trans (HF12.out.block q (HV1.out.lt q hq) (HPAR.out q hq).2)
      intro e
      have h1 := (HPAR.out q hq).1
      rw [show q = bedG a fb from e] at h1
      have h2 := HGT3.out fb
      omega)
    have q5 : (w2.setCell ⟨bedG a fb, fa.toNat, none⟩ (.slice A2 (nf + 1) c2)).cell? ⟨a.g, 5, none⟩ = some (.slice AL s.n cL) := by
      have h := HA2.out.m.m.cell 5
      rw [putA_g] at h
      refine h.trans ?_
      show some (putA a fb fa (.slice A2 (nf + 1) c2)).L = _
      rw [putA_L, HL.out]
    clear kc kf m5 k2 f2 kca
    obtain ⟨W2, hW2⟩ : ∃ x, x = w2.setCell ⟨bedG a fb, fa.toNat, none⟩ (.slice A2 (nf + 1) c2) := ⟨_, rfl⟩
    rw [← hW2] at HA2 HO2 HV2 q5 ⊢
    have o0 := HO2.out.c0
    have o1 := HO2.out.c1
    have o2 := HO2.out.c2
    have o3 := HO2.out.c3
    have o6 := HO2.out.c6
    clear hW2 HFR2 HOWN2 HAT2 HF12 HA0 HBX HLF0 HV0 HO1 HV1 HLF1 HXS
    rw [Nat.zero_add] at o1 o2 o3 o6
    go_wp2_with fail
    refine wp_region_lastL (S := fun w' => w'.cell? ⟨a.g, 5, none⟩ = some (.slice AL s.n cL) ∧ w'.cell? ⟨w.heap.size, 0, none⟩ = some (.int .i64 k) ∧ w'.cell? ⟨w.heap.size, 1, none⟩ = some (.int .i64 d) ∧ w'.cell? ⟨w.heap.size, 2, none⟩ = some (.int .i64 fb) ∧ w'.cell? ⟨w.heap.size, 2 + 1, none⟩ = some (.int .i64 fa) ∧ w'.cell? ⟨w.heap.size, 6, none⟩ = some (.int .i64 c)) _ (by simp) (by kernel_rfl) (by kernel_rfl) ⟨q5, o0, o1, o2, o3, o6⟩ (fun hHeld => ?_)
    simp only [List.dropLast, List.getLast_cons_cons, List.getLast_singleton, List.length_cons, List.length_nil]
    refine wpAnyH_take (i := 0) (v := ?_) rfl (by kernel_rfl) (by kernel_rfl) (by kernel_rfl) (fun _ _ _ h => h) (Or.inl ⟨by rfl, ?_⟩) hHeld ?_
    rotate_left
    · (intro w0 hSw; (try dsimp only at hSw); go_simp <;> with_reducible rfl)
    simp only [List.getElem_toArray, List.getElem_cons_zero, Act.put, List.setIfInBounds_toArray, List.set_cons_zero, List.set_cons_succ]
    refine wpAnyH_take (i := 1) (v := ?_) rfl (by kernel_rfl) (by kernel_rfl) (by kernel_rfl) (fun _ _ _ h => h) (Or.inl ⟨by rfl, ?_⟩) hHeld ?_
    rotate_left
    · (intro w0 hSw; (try dsimp only at hSw); go_simp <;> with_reducible rfl)
    simp only [List.getElem_toArray, List.getElem_cons_succ, List.getElem_cons_zero, Act.put, List.setIfInBounds_toArray, List.set_cons_zero, List.set_cons_succ]
    refine wpAnyH_take (i := 2) (v := ?_) rfl (by kernel_rfl) (by kernel_rfl) (by kernel_rfl) (fun _ _ _ h => h) (Or.inl ⟨by rfl, ?_⟩) hHeld ?_
    rotate_left
    · (intro w0 hSw; (try dsimp only at hSw); go_simp <;> with_reducible rfl)
    simp only [List.getElem_toArray, List.getElem_cons_succ, List.getElem_cons_zero, Act.put, List.setIfInBounds_toArray, List.set_cons_zero, List.set_cons_succ]
    refine wpAnyH_take (i := 3) (v := ?_) rfl (by kernel_rfl) (by kernel_rfl) (by kernel_rfl) (fun _ _ _ h => h) (Or.inl ⟨by rfl, ?_⟩) hHeld ?_
    rotate_left
    · (intro w0 hSw; (try dsimp only at hSw); go_simp <;> with_reducible rfl)
    simp only [List.getElem_toArray, List.getElem_cons_succ, List.getElem_cons_zero, Act.put, List.setIfInBounds_toArray, List.set_cons_zero, List.set_cons_succ]
    refine wpAnyH_take (i := 4) (v := ?_) rfl (by kernel_rfl) (by kernel_rfl) (by kernel_rfl) (fun _ _ _ h => h) (Or.inl ⟨by rfl, ?_⟩) hHeld ?_
    rotate_left
    · (intro w0 hSw; (try dsimp only at hSw); go_simp <;> with_reducible rfl)
    simp only [List.getElem_toArray, List.getElem_cons_succ, List.getElem_cons_zero, Act.put, List.setIfInBounds_toArray, List.set_cons_zero, List.set_cons_succ]
    refine wpAnyH_take (i := 5) (v := ?_) rfl (by kernel_rfl) (by kernel_rfl) (by kernel_rfl) (fun _ _ _ h => h) (Or.inl ⟨by rfl, ?_⟩) hHeld ?_
    rotate_left
    · (intro w0 hSw; (try dsimp only at hSw); go_simp <;> with_reducible rfl)
    simp only [List.getElem_toArray, List.getElem_cons_succ, List.getElem_cons_zero, Act.put, List.setIfInBounds_toArray, List.set_cons_zero, List.set_cons_succ]
    refine wpAnyH_take (i := 6) (v := ?_) rfl (by kernel_rfl) (by kernel_rfl) (by kernel_rfl) (fun _ _ _ h => h) (Or.inl ⟨by rfl, ?_⟩) hHeld ?_
    rotate_left
    · (intro w0 hSw; (try dsimp only at hSw); go_simp <;> with_reducible rfl)
    simp only [List.getElem_toArray, List.getElem_cons_succ, List.getElem_cons_zero, Act.put, List.setIfInBounds_toArray, List.set_cons_zero, List.set_cons_succ]
    refine wpAnyH_take (i := 7) (v := ?_) rfl (by kernel_rfl) (by kernel_rfl) (by kernel_rfl) (fun _ _ _ h => h) (Or.inl ⟨by rfl, ?_⟩) hHeld ?_
    rotate_left
    · (intro w0 hSw; (try dsimp only at hSw); go_simp <;> with_reducible rfl)
    simp only [List.getElem_toArray, List.getElem_cons_succ, List.getElem_cons_zero, Act.put, List.setIfInBounds_toArray, List.set_cons_zero, List.set_cons_succ]
    refine wpAnyH_take (i := 8) (v := ?_) rfl (by kernel_rfl) (by kernel_rfl) (by kernel_rfl) (fun _ _ _ h => h) (Or.inl ⟨by rfl, ?_⟩) hHeld ?_
    rotate_left
    · (intro w0 hSw; (try dsimp only at hSw); go_simp <;> with_reducible rfl)
    simp only [List.getElem_toArray, List.getElem_cons_succ, List.getElem_cons_zero, Act.put, List.setIfInBounds_toArray, List.set_cons_zero, List.set_cons_succ]
    refine wpAnyH_take (i := 9) (v := ?_) rfl (by kernel_rfl) (by kernel_rfl) (by kernel_rfl) (fun _ _ _ h => h) (Or.inl ⟨by rfl, ?_⟩) hHeld ?_
    rotate_left
    · (intro w0 hSw; (try dsimp only at hSw); go_simp <;> with_reducible rfl)
    simp only [List.getElem_toArray, List.getElem_cons_succ, List.getElem_cons_zero, Act.put, List.setIfInBounds_toArray, List.set_cons_zero, List.set_cons_succ]
    refine wpAnyH_take (i := 10) (v := ?_) rfl (by kernel_rfl) (by kernel_rfl) (by kernel_rfl) (fun _ _ _ h => h) (Or.inl ⟨by rfl, ?_⟩) hHeld ?_
    rotate_left
    · (intro w0 hSw; (try dsimp only at hSw); go_simp <;> with_reducible rfl)
    simp only [List.getElem_toArray, List.getElem_cons_succ, List.getElem_cons_zero, Act.put, List.setIfInBounds_toArray, List.set_cons_zero, List.set_cons_succ]
    refine wpAnyH_take (i := 11) (v := ?_) rfl (by kernel_rfl) (by kernel_rfl) (by kernel_rfl) (fun _ _ _ h => h) (Or.inl ⟨by rfl, ?_⟩) hHeld ?_
    rotate_left
    · (intro w0 hSw; (try dsimp only at hSw); go_simp <;> with_reducible rfl)
    simp only [List.getElem_toArray, List.getElem_cons_succ, List.getElem_cons_zero, Act.put, List.setIfInBounds_toArray, List.set_cons_zero, List.set_cons_succ]
    refine wpAnyH_take (i := 12) (v := ?_) rfl (by kernel_rfl) (by kernel_rfl) (by kernel_rfl) (fun _ _ _ h => h) (Or.inl ⟨by rfl, ?_⟩) hHeld ?_
    rotate_left
    · (intro w0 hSw; (try dsimp only at hSw); go_simp <;> with_reducible rfl)
    simp only [List.getElem_toArray, List.getElem_cons_succ, List.getElem_cons_zero, Act.put, List.setIfInBounds_toArray, List.set_cons_zero, List.set_cons_succ]
    refine wpAnyH_take (i := 13) (v := ?_) rfl (by kernel_rfl) (by kernel_rfl) (by kernel_rfl) (fun _ _ _ h => h) (Or.inl ⟨by rfl, ?_⟩) hHeld ?_
    rotate_left
    · (intro w0 hSw; (try dsimp only at hSw); go_simp <;> with_reducible rfl)
    simp only [List.getElem_toArray, List.getElem_cons_succ, List.getElem_cons_zero, Act.put, List.setIfInBounds_toArray, List.set_cons_zero, List.set_cons_succ]
    refine wpAnyH_take (i := 14) (v := ?_) rfl (by kernel_rfl) (by kernel_rfl) (by kernel_rfl) (fun _ _ _ h => h) (Or.inl ⟨by rfl, ?_⟩) hHeld ?_
    rotate_left
    · (intro w0 hSw; (try dsimp only at hSw); go_simp <;> with_reducible rfl)
    simp only [List.getElem_toArray, List.getElem_cons_succ, List.getElem_cons_zero, Act.put, List.setIfInBounds_toArray, List.set_cons_zero, List.set_cons_succ]
    refine wpAnyH_take (i := 15) (v := ?_) rfl (by kernel_rfl) (by kernel_rfl) (by kernel_rfl) (fun _ _ _ h => h) (Or.inl ⟨by rfl, ?_⟩) hHeld ?_
    rotate_left
    · (intro w0 hSw; (try dsimp only at hSw); go_simp <;> with_reducible rfl)
    simp only [List.getElem_toArray, List.getElem_cons_succ, List.getElem_cons_zero, Act.put, List.setIfInBounds_toArray, List.set_cons_zero, List.set_cons_succ]
    refine wpAnyH_take (i := 16) (v := ?_) rfl (by kernel_rfl) (by kernel_rfl) (by kernel_rfl) (fun _ _ _ h => h) (Or.inl ⟨by rfl, ?_⟩) hHeld ?_
    rotate_left
    · (intro w0 hSw; (try dsimp only at hSw); go_simp <;> with_reducible rfl)
    simp only [List.getElem_toArray, List.getElem_cons_succ, List.getElem_cons_zero, Act.put, List.setIfInBounds_toArray, List.set_cons_zero, List.set_cons_succ]
    refine wpAnyH_take (i := 17) (v := ?_) rfl (by kernel_rfl) (by kernel_rfl) (by kernel_rfl) (fun _ _ _ h => h) (Or.inl ⟨by rfl, ?_⟩) hHeld ?_
    rotate_left
    · (intro w0 hSw; (try dsimp only at hSw); go_simp <;> with_reducible rfl)
    simp only [List.getElem_toArray, List.getElem_cons_succ, List.getElem_cons_zero, Act.put, List.setIfInBounds_toArray, List.set_cons_zero, List.set_cons_succ]
    refine wpAnyH_ready (rs := [18]) (by kernel_rfl) (by simp) ?_
    refine AllReadyH.cons rfl (fun K hK => ?_) AllReadyH.nil
    simp only [List.getElem_toArray, List.getElem_cons_succ, List.getElem_cons_zero]
    go_simp
    refine (clone64_any _ m W2.drew (HV2.out.blk fun _ _ => rfl) (by omega)).mono ?_
    rintro e w3 ⟨vp, rfl, hlp, hnp, hb3⟩
    obtain ⟨Ap, cp, rfl⟩ := hlp.form
    have HB3 : Hid (Below W2.heap.size W2 w3) := Lib.hid (((Below.refl W2.heap.size W2).drew).trans hb3)
    have HTL : Hid (w.heap.size < W2.heap.size) := Lib.hid (World.block_lt_of_cell? W2 _ o0)
    have km5 := ((bcell HB3.out).1 a.g 5 (World.block_lt_of_cell? W2 _ q5)).trans q5
    have ko0 := ((bcell HB3.out).1 w.heap.size 0 (World.block_lt_of_cell? W2 _ o0)).trans o0
    have ko1 := ((bcell HB3.out).1 w.heap.size 1 (World.block_lt_of_cell? W2 _ o0)).trans o1
    have ko2 := ((bcell HB3.out).1 w.heap.size 2 (World.block_lt_of_cell? W2 _ o0)).trans o2
    have ko3 := ((bcell HB3.out).1 w.heap.size (2 + 1) (World.block_lt_of_cell? W2 _ o0)).trans o3
    have ko6 := ((bcell HB3.out).1 w.heap.size 6 (World.block_lt_of_cell? W2 _ o0)).trans o6
    clear hb3 q5 o0 o1 o2 o3 o6
    refine hK.out _ _ ⟨km5, ko0, ko1, ko2, ko3, ko6⟩ (fun hHeld1 => ?_)
    clear hK K hHeld
    refine wpAnyH_take (i := 19) (v := ?_) rfl (by kernel_rfl) (by kernel_rfl) (by kernel_rfl) (fun _ _ _ h => h) (Or.inl ⟨by rfl, ?_⟩) hHeld1 ?_
    rotate_left
    · (intro w0 hSw; (try dsimp only at hSw); go_simp <;> with_reducible rfl)
    simp only [List.getElem_toArray, List.getElem_cons_succ, List.getElem_cons_zero, Act.put, List.setIfInBounds_toArray, List.set_cons_zero, List.set_cons_succ]
    refine wpAnyH_ready (rs := [20]) (by kernel_rfl) (by simp) ?_
    refine AllReadyH.cons rfl (fun K hK => ?_) AllReadyH.nil
    simp only [List.getElem_toArray, List.getElem_cons_succ, List.getElem_cons_zero]
    go_simp
    refine hK.out _ _ (by go_keep) (fun hHeld2 => ?_)
    clear hK K hHeld1
    refine wpAnyH_ready (rs := [21]) (by kernel_rfl) (by simp) ?_
    refine AllReadyH.cons rfl (fun K hK => ?_) AllReadyH.nil
    simp only [List.getElem_toArray, List.getElem_cons_succ, List.getElem_cons_zero]
    have HA30 := HA2.out.below HB3.out
    have hsz2 := HA2.out.f.size
    obtain ⟨tg0, htg0⟩ : ∃ t, t = retag (retag tg (.slice A2 (nf + 1) c2) (tagOf fb fa)) (.slice Ap m cp) 7 := ⟨_, rfl⟩
    have HA3 := Lib.hid (show At _ _ _ _ w3 tg0 _ from htg0 ▸ HA30.mark7 (fun q hq => .inr (Decidable.byContradiction fun hne => by have h1 := HA2.out.m.lt q hne; have h2 : W2.heap.size ≤ q := hnp q hq; omega)) hlp.lt fun q hq => by have h2 : W2.heap.size ≤ q := hnp q hq; omega)
    have htp : TagV tg0 (.slice Ap m cp) 7 := htg0 ▸ retag_new _ _
    have htb0 : tg0 w.heap.size = 0 := by
      rw [htg0]
      unfold retag
      rw [if_neg (fun e => by have h2 : W2.heap.size ≤ w.heap.size := hnp _ e; have h3 := HTL.out; omega)]
      exact HTB.out
    obtain ⟨ys, hys, hps⟩ := HA3.out.m.l
    rw [putA_L, HL.out, setN_n] at hys
    refine step_appGa w3 (by rfl) (.tmp 27) (.tmp 43) _ (by rfl) 0 122 j0 _ 6 64 Try.underlying67 hj jz js jb rfl (by omega) (.slice AL s.n cL) s.n ys (by rfl) hys _ 1 1 [.int .i64 k, .int .i64 c, .int .i64 fb, .int .i64 fa, .int .i64 d, .slice Ap m cp] (by rfl) rfl (by simp [Value.oneCell']) (by unfold maxLen; omega) (by omega) (Nat.zero_le _) ?_
    intro v4 w4 hown4 hfr4 hat4
    obtain ⟨A4, c4, rfl⟩ := own_form hown4
    have hob : ∀ b, (Value.slice AL s.n cL).ownBlock = some b → tg0 b = 5 := fun b hb => HA3.out.m.tL b (by rw [putA_L, HL.out]; exact hb)
    have htm := HA3.out.m.tm
    rw [putA_g] at htm
    have hgn : ¬ (Value.slice AL s.n cL).ownBlock = some a.g := fun e => by have := hob _ e; omega
    have htb : tg0 w.heap.size = 0 := htb0
    have hon : ¬ (Value.slice AL s.n cL).ownBlock = some w.heap.size := fun e => by have := hob _ e; omega
    have hlg := World.block_lt_of_cell? w3 _ km5
    have hlo := World.block_lt_of_cell? w3 _ ko0
    have k4m5 := (hfr4.cells hlg hgn 5).trans km5
    have k4o0 := (hfr4.cells hlo hon 0).trans ko0
    have k4o1 := (hfr4.cells hlo hon 1).trans ko1
    have k4o2 := (hfr4.cells hlo hon 2).trans ko2
    have k4o3 := (hfr4.cells hlo hon (2 + 1)).trans ko3
    have k4o6 := (hfr4.cells hlo hon 6).trans ko6
    have hmf := HA3.out.m.m
    rw [putA_g] at hmf
    have k4f5 : w4.frozen? ⟨a.g, 5, none⟩ = false := (World.frozen?_of_block (w := w3) (a := ⟨a.g, 5, none⟩) (hfr4.block a.g hlg hgn)).trans (hmf.frozen 5)
    refine hK.out _ _ ⟨k4m5, k4o0, k4o1, k4o2, k4o3, k4o6⟩ (fun hHeld3 => ?_)
    clear hK K hHeld2
    have hn4 : ∀ q, (Value.slice A4 (s.n + 1) c4).ownBlock = some q → tg0 q = 5 ∨ (tg0 q = 0 ∧ w3.heap.size ≤ q) := fun q hq => by
      rcases hat4 with h | h
      · exact .inl (hob q (h.symm.trans hq))
      · rw [hq] at h
        have h' : q = w3.heap.size + 1 := Option.some.inj h
        exact .inr ⟨Decidable.byContradiction fun hn => by have := HA3.out.m.lt q hn; omega, by omega⟩
    have HA5 := Lib.hid (HA3.out.setL (w := w4) (m := s.n + 1) (HA3.out.m.rest 5 fun b hb h5 => hfr4.block b (HA3.out.m.lt b hb) fun e => h5 (hob b e)) (hfr4.mono fun b hb => by unfold OwnB; rw [hob b hb]; omega) (IOwn.more hown4 hys.1 (by simpa only [setN_n] using hps) (five_ints _ _ _ _ _ _) (by rfl) (by omega) hlp htp fun b hb => hfr4.block b (HA3.out.m.lt b (by omega)) fun e => by have := hob b e; omega) (fun q hq => by rcases hn4 q hq with h | h; exact .inr h; exact .inl h.1) (fun q hq => by rcases hn4 q hq with h | h; exact HA3.out.t q (by omega); exact .inr (Nat.le_trans HA3.out.f.size h.2)))
    clear hob hgn hon hlg hlo km5 ko0 ko1 ko2 ko3 ko6 hfr4 hown4 hat4 hys hn4 htm htb hmf htb0 htp hps hsz2 HA30 hnp hlp
    refine wpAnyH_take (i := 22) (v := ?_) rfl (by kernel_rfl) (by kernel_rfl) (by kernel_rfl) (fun _ _ _ h => h) (Or.inl ⟨by rfl, ?_⟩) hHeld3 ?_
    rotate_left
    · (intro w0 hSw; (try dsimp only at hSw); go_simp <;> with_reducible rfl)
    simp only [List.getElem_toArray, List.getElem_cons_succ, List.getElem_cons_zero, Act.put, List.setIfInBounds_toArray, List.set_cons_zero, List.set_cons_succ]
    refine wpAnyH_take (i := 23) (v := ?_) rfl (by kernel_rfl) (by kernel_rfl) (by kernel_rfl) (fun _ _ _ h => h) (Or.inl ⟨by rfl, ?_⟩) hHeld3 ?_
    rotate_left
    · (intro w0 hSw; (try dsimp only at hSw); go_simp <;> with_reducible rfl)
    simp only [List.getElem_toArray, List.getElem_cons_succ, List.getElem_cons_zero, Act.put, List.setIfInBounds_toArray, List.set_cons_zero, List.set_cons_succ]
    refine wpAnyH_done (by kernel_rfl) ?_ _
    refine LastPost.of ?_
    go_simp
    clear hHeld3 k4m5 k4o0 k4o1 k4o2 k4o3 k4o6 k4f5
    go_wp2_with fail
    go_end0
    refine ⟨rfl, ?_⟩
    have h5 := HA5.out.moved
    rw [putA_g] at h5
    rw [← HNF.out, ← setN_more]
    exact h5
end
end Go.Proofs.Ytpmfkpehmckgmaa
