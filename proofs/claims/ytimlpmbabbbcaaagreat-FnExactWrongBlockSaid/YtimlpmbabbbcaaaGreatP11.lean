/- Walks and plain lemmas. -/
import Derived.Test.YtimlpmbabbbcaaaGreatP09
set_option linter.unusedVariables false
set_option linter.unusedSimpArgs false
set_option maxHeartbeats 2000000
set_option maxRecDepth 20000
namespace Go.Proofs.YtimlpmbabbbcaaaGreat
open Go.RowKit
def fQ (s:aP)(k d fb fa tb ta:Int)(j:Nat):Int:=
 if fR s d (aO fb fa s.rk) j=true then
  (if 300≤s.n then 5 else if k=1 then 0 else if k=2 then(if 4≤aU s fb fa then 5 else 0)else fO (eD s d (aO fb fa s.rk) j) fb fa tb ta)
 else 9
def more (s:aP):aP:={s with n:=s.n+1}
def p9 (s:aP)(k d fb fa tb ta:Int)(j:Nat):aP:=
 if k=1 then bB (more (eD s d (aO fb fa s.rk) j)) fb fa 1
 else if k=2 then bB (more (eD s d (aO fb fa s.rk) j)) fb fa (aU s fb fa+1)
 else bB (more (bO (eD s d (aO fb fa s.rk) j) fb fa tb ta)) fb fa 1
section
variable {tg:Nat→Nat}{a:bV}{s:aP}{D:Nat}{w:World}
theorem PV (hs:d8 s D){d x:Int}{j:Nat}(h0: -3≤x)(h1:x≤26):d8 (eD s d x j) D:=
 ⟨hs.w1,hs.w2,hs.r1,hs.r2,hs.fb,hs.kb,fun q hq=>by
  show-3≤(if q=j then(if d=1 then x+1 else x)else s.cat q)∧(if q=j then(if d=1 then x+1 else x)else s.cat q)≤30;have:=hs.ca q hq
  split
  ·split<;>omega
  ·exact this,hs.nb,hs.db⟩
theorem bR.one (w:World)(y:Int):bR (w.alloc (.cells #[.int .i64 y] 2)) (.slice (some ⟨w.heap.size,0,none⟩) 1 1) 1:=
 ⟨[y],by simp[ints],.inr ⟨w.heap.size,1,#[.int .i64 y],rfl,Nat.zero_le _,heap_alloc_new w _,Nat.le_refl _,by unfold maxLen;omega,rfl,rfl⟩⟩
theorem At.same {wb:World}{eP:Nat→Nat}{g:Nat}{w w':World}{F:Nat→Prop}(h:At wb eP g s w tg a)(hf:Fr w w' F)(hF:∀q,F q→tg q=0∧wb.heap.size≤q):At wb eP g s w' tg a:=
 ⟨h.g,h.m.same (fun b hb=>hf.block b (h.m.lt b hb) fun hq=>hb (hF b hq).1) hf.size,h.f.next hf fun q hq=>.inr (hF q hq).2,h.t⟩
theorem BA (s:aP)(fb fa tb ta:Int):(bO s fb fa tb ta).W=s.W:=by unfold bO;rw[j3,j3]
theorem N3 (s:aP)(fb fa tb ta:Int):(bO s fb fa tb ta).n=s.n:=by unfold bO;rw[IX,IX]
theorem zP11x0 {p:Prop}(h:p:=by
 clear hHeld Jc Jb
 go_wp2_with fail
 go_ret
 exact⟨by rw[HC.o];rfl,kA.o.f,fun _=>by rw[I6.o];exact kA.o.moved⟩):p:=h
theorem jc (bo o:Nat)(k d fb fa tb ta r:Int)(j:Nat)(H:Mem tg a s w)(hs:d8 s D)(ho:kO bo o k d fb fa tb ta ((j:Int)+1) r w)(cQ:tg bo=0)(hk:k=1∨k=2∨k=5)(hj:j<4)(hd:d=1∨d= -1)(ha0:0≤fa)(ha1:fa<s.W)(gB:0≤ta)(iY:ta<s.W):
 Calls Tryz.prog 138 #[.pointer (some ⟨a.g,0,none⟩),.pointer (some ⟨bo,o,none⟩)] w (xL w tg a.g (fQ s k d fb fa tb ta j) (p9 s k d fb fa tb ta j)):=by
 obtain⟨i0,hi,iz,is,ib⟩:=info_parts zR;have hw2:=hs.w2;have hxb:=j4 (b:=fb) ha0 (show fa≤23 by omega) hs.r1 hs.r2;obtain⟨x,hx⟩:=qx (aO fb fa s.rk);rw[←hx]at hxb;have hs1:=PV (d:=d) (j:=j) hs hxb.1 hxb.2;have HX:=qh hx;have HH:=qh H;have HO:=qh ho;have HS:=qh hs;have jR:=qh hs1;have hcar:=JC bo o k d fb fa tb ta r j H hs ho cQ hj hd ha0 qo;rw[←hx]at hcar;clear hx H ho hs hs1 hxb
 go_enter Tryz.func138,Tryz.ntmps138
 go_wp2_with fail
 refine hcar.mono ?_;rintro e w1 ⟨rfl,hf1,hm1⟩;clear hcar
 cases hcb:fR s d x j
 ·have HC:=qh (show fQ s k d fb fa tb ta j=9 by unfold fQ;rw[←HX.o,hcb];rfl)
  have HF:=qh hf1;clear hf1 hm1 hcb
  go_wp2_with fail
  go_ret
  exact⟨by rw[HC.o];rfl,HF.o,fun h=>by rw[HC.o]at h;omega⟩
 ·obtain⟨s1,hs1⟩:=qx (eD s d x j)
  obtain⟨AU,a1,BP⟩:∃AU a1,At w tg a.g s1 w1 AU a1:=by
   obtain⟨AU,a1,h1,h2,h3,h4⟩:=hm1 hcb;rw[hs1];exact⟨AU,a1,h1,h2,h3,h4⟩
  have HA1:=qh BP;have aci:Hq (d8 s1 D):=qh (by rw[hs1];exact jR.o);have pQ:=qh (show fQ s k d fb fa tb ta j=(if 300≤s1.n then 5 else if k=1 then 0 else if k=2 then(if 4≤aU s1 fb fa then 5 else 0)else fO s1 fb fa tb ta)by unfold fQ;rw[←HX.o,hcb,hs1];rfl);have HST:=qh (show p9 s k d fb fa tb ta j=(if k=1 then bB (more s1) fb fa 1 else if k=2 then bB (more s1) fb fa (aU s1 fb fa+1)else bB (more (bO s1 fb fa tb ta)) fb fa 1)by unfold p9;rw[←HX.o,hs1];rfl);have hW1:s1.W=s.W:=by rw[hs1];rfl
  rw[←hW1]at ha1 iY;clear hm1 hf1 hcb BP hs1 HX jR;obtain⟨xl,hxl,_⟩:=HA1.o.m.l;obtain⟨AL,cL,zF⟩:=aE hxl;have m5:w1.cell? ⟨a.g,5,none⟩=some (.slice AL s1.n cL):=by
   have h:=HA1.o.m.m.cell 5;rw[HA1.o.g]at h;exact h.trans (by rw[←zF];rfl)
  have o0:=(HA1.o.op HO.o cQ).1.c0;have o2:=(HA1.o.op HO.o cQ).1.c2;have o3:=(HA1.o.op HO.o cQ).1.c3;clear hxl zF
  by_cases hn:300≤s1.n
  ·have HC:=qh (show fQ s k d fb fa tb ta j=5 by rw[pQ.o,if_pos hn])
   go_wp2_with fail
   go_ret
   exact⟨by rw[HC.o];rfl,HA1.o.f,fun h=>by rw[HC.o]at h;omega⟩
  ·go_wp2_with fail
   have hon:=xX fb fa w1 HA1.o.m ha0 ha1;rw[HA1.o.g]at hon;refine hon.mono ?_;rintro e w2 ⟨rfl,hb2⟩;obtain⟨nf,hnf⟩:=qx (aU s1 fb fa);have lT:nf≤4:=by rw[hnf];exact cY aci.o ha0 ha1
   have hlf:bR w1 (lR a1 fb fa) nf:=by rw[hnf];exact HA1.o.m.nP ha0 ha1
   obtain⟨Af,cf,hvf⟩:=hlf.form;rw[hvf]at hlf ⊢;have HB2:=qh hb2;have rR:=qh (hlf.blk fun q hq=>hb2.block q (hlf.lt q hq));have jS:=qh hnf;clear hon hnf hvf hlf hb2 m5
   go_wp2_with fail
   refine(zP _ nf w2 rR.o qo).mono ?_;rintro e w3 ⟨vo,rfl,hlo,hnew,hb3⟩;obtain⟨Ao,co,rfl⟩:=hlo.form;have HB3:Hq (Below w1.heap.size w1 w3):=HB2.st hb3;have zu:=qh hlo;have Tz:Hq (∀q,(Value.slice Ao nf co).ownBlock=some q→w1.heap.size≤q):=qh fun q hq=>Nat.le_trans HB2.o.size (hnew q hq);have g7:=qh (HA1.o.below HB3.o);clear hlo hnew hb3 o0 o2 o3;have k0:=(g7.o.op HO.o cQ).1.c0;have k2:=(g7.o.op HO.o cQ).1.c2;have k3:=(g7.o.op HO.o cQ).1.c3
   rcases hk with rfl|rfl|rfl
   ·go_wp2_with fail
    have HC:=qh (show fQ s 1 d fb fa tb ta j=0 by rw[pQ.o];simp[hn]);have I6:=qh (show p9 s 1 d fb fa tb ta j=bB (more s1) fb fa 1 by rw[HST.o];simp);have hmk:=DW (w:=w3.drew) bo o 1 d fb fa tb ta _ r (.slice Ao nf co) nf (g7.o.below ((Below.refl w3.heap.size w3).drew)).m qo ((g7.o.below ((Below.refl w3.heap.size w3).drew)).op HO.o cQ).1 (g7.o.op HO.o cQ).2 (zu.o.blk fun _ _=>rfl) qo;rw[g7.o.g]at hmk;have MH:=qh hmk;clear hmk
    go_region_held3 (fun w'=>w'.cell? ⟨bo,o+2,none⟩=some (.int .i64 fb)∧w'.cell? ⟨bo,o+2+1,none⟩=some (.int .i64 fa)) (go_keep)
     (first
      |(go_at_call 175;refine MH.o.mono ?_;rintro e w5 ⟨rfl,hmv⟩;obtain⟨IL,a5,l0,j9,sj⟩:=(g7.o.below ((Below.refl w3.heap.size w3).drew)).next hmv;have dC:Hq (At w tg a.g (more (s1)) w5 IL a5):=qh l0;have BD:=(dC.o.op HO.o cQ).1.c2;have EJ:=(dC.o.op HO.o cQ).1.c3;clear hmv l0 j9 sj)
      |(go_at_call 142;have hset:=mI fb fa (.slice (some ⟨w5.heap.size,0,none⟩) 1 1) (w5.alloc (.cells #[.int .i64 s1.n] 2)) (dC.o.below ((Below.refl w5.heap.size w5).alloc ql (.cells #[.int .i64 s1.n] 2))).m ha0 (by exact ha1) ⟨_,_,_,rfl⟩;rw[dC.o.g]at hset;refine hset.mono ?_;rintro e w8 ⟨rfl,zB⟩;obtain⟨tg8,a8,kB⟩:=(dC.o.below ((Below.refl w5.heap.size w5).alloc ql (.cells #[.int .i64 s1.n] 2))).put (m:=1) ha0 (by exact ha1) (bR.one w5 s1.n) (fun q hq=>by injection hq with hq;subst hq;exact⟨Decidable.byContradiction fun hn=>Nat.lt_irrefl _ (dC.o.m.lt _ hn),dC.o.f.size⟩) zB;have kA:=qh kB;have Jc:=(kA.o.op HO.o cQ).1.c2;have Jb:=(kA.o.op HO.o cQ).1.c3;clear hset zB kB BD EJ))
    rename_i hHeld
    exact zP11x0
   ·by_cases h4:4≤nf
    ·have HC:=qh (show fQ s 2 d fb fa tb ta j=5 by rw[pQ.o,←jS.o];simp[hn,h4])
     go_wp2_with fail
     go_ret
     exact⟨by rw[HC.o];rfl,g7.o.f,fun h=>by rw[HC.o]at h;omega⟩
    ·go_wp2_with fail
     have HC:=qh (show fQ s 2 d fb fa tb ta j=0 by rw[pQ.o,←jS.o];simp[hn,h4]);have I6:=qh (show p9 s 2 d fb fa tb ta j=bB (more s1) fb fa (nf+1)by rw[HST.o,←jS.o];simp);have hmk:=DW (w:=w3.drew) bo o 2 d fb fa tb ta _ r (.slice none 0 0) 0 (g7.o.below ((Below.refl w3.heap.size w3).drew)).m qo ((g7.o.below ((Below.refl w3.heap.size w3).drew)).op HO.o cQ).1 (g7.o.op HO.o cQ).2 ⟨[],World.ownsRow_nil _ _ _ _⟩ qo;rw[g7.o.g]at hmk;have MH:=qh hmk;clear hmk
     go_region_held3 (fun w'=>w'.cell? ⟨bo,o+2,none⟩=some (.int .i64 fb)∧w'.cell? ⟨bo,o+2+1,none⟩=some (.int .i64 fa)) (go_keep)
      (first
       |(go_at_call 175;refine MH.o.mono ?_;rintro e w5 ⟨rfl,hmv⟩;obtain⟨IL,a5,l0,j9,sj⟩:=(g7.o.below ((Below.refl w3.heap.size w3).drew)).next hmv;have dC:Hq (At w tg a.g (more (s1)) w5 IL a5):=qh l0;have tq:∀q,(Value.slice Ao nf co).ownBlock=some q→AU q=0∧q<w3.heap.size:=(fun q hq=>⟨Decidable.byContradiction fun hn=>(by have h1:=HA1.o.m.lt q hn;have h2:=Tz.o q hq;omega),zu.o.lt q hq⟩);have vQ:Hq (∀q,(Value.slice Ao nf co).ownBlock=some q→IL q=0∧w.heap.size≤q):=qh (fun q hq=>⟨Decidable.byContradiction fun hn=>(by rcases sj q hn with h1|h1;exact h1 (tq q hq).1;exact absurd (tq q hq).2 (Nat.not_lt.2 h1)),Nat.le_trans HA1.o.f.size (Tz.o q hq)⟩);obtain⟨xs,hxs⟩:bR w5 (.slice Ao nf co) nf:=zu.o.blk (fun q hq=>j9.block q (tq q hq).2 fun h1=>h1 (tq q hq).1);have C6:=qh hxs;clear tq hxs;have BD:=(dC.o.op HO.o cQ).1.c2;have EJ:=(dC.o.op HO.o cQ).1.c3;clear hmv l0 j9 sj)
       |(refine zO w5 (by rfl) (.tmp 68) (.tmp 72) _ (by rfl) 0 2 i0 _ 1 8 Tryz.underlying61 hi iz is ib rfl qo (.slice Ao nf co) nf (ints xs) (by rfl) C6.o _ 1 1 [.int .i64 s1.n] (by rfl) rfl (by simp[Value.oneCell']) qm qo (Nat.zero_le _) ?_;intro v6 w6 hown6 JQ abl;obtain⟨A6,c6,rfl⟩:=aE hown6;have ID:=qh (dC.o.same JQ vQ.o);have F3:Hq (bR w6 (.slice A6 (nf+1) c6) (nf+1)):=qh ⟨xs++[(s1.n:Int)],by rw[aL];exact hown6⟩;have TR:Hq (∀q,(Value.slice A6 (nf+1) c6).ownBlock=some q→IL q=0∧w.heap.size≤q):=qh (fun q hq=>(by rcases abl with h1|h1;exact vQ.o q (h1.symm.trans hq);rw[hq]at h1;injection h1 with h1;exact⟨Decidable.byContradiction fun hn=>(by have h2:=dC.o.m.lt q hn;omega),by have h2:=dC.o.f.size;omega⟩));have Vq:=(ID.o.op HO.o cQ).1.c2;have Vp:=(ID.o.op HO.o cQ).1.c3;clear hown6 JQ abl BD EJ)
       |(go_at_call 142;have hset:=mI fb fa (.slice A6 (nf+1) c6) w6 ID.o.m ha0 (by exact ha1) ⟨_,_,_,rfl⟩;rw[dC.o.g]at hset;refine hset.mono ?_;rintro e w8 ⟨rfl,zB⟩;obtain⟨tg8,a8,kB⟩:=ID.o.put (m:=nf+1) ha0 (by exact ha1) F3.o TR.o zB;have kA:=qh kB;have Jc:=(kA.o.op HO.o cQ).1.c2;have Jb:=(kA.o.op HO.o cQ).1.c3;clear hset zB kB Vq Vp))
     rename_i hHeld
     exact zP11x0
   ·go_wp2_with fail
    have hmo:=LX bo o 5 d fb fa tb ta _ r g7.o.m aci.o (g7.o.op HO.o cQ).1 (g7.o.op HO.o cQ).2 ha0 ha1 gB iY;rw[g7.o.g]at hmo;obtain⟨mc,hmc⟩:=qx (fO s1 fb fa tb ta);have HC:=qh (show fQ s 5 d fb fa tb ta j=mc by rw[pQ.o,←hmc];simp[hn]);have I6:=qh (show p9 s 5 d fb fa tb ta j=bB (more (bO s1 fb fa tb ta)) fb fa 1 by rw[HST.o];simp);rw[←hmc]at hmo;clear hmc;refine hmo.mono ?_;rintro e w4 ⟨rfl,lT,sY⟩;clear hmo
    by_cases hmc:mc=0
    ·obtain⟨AT,a4,wO,tY,_⟩:=g7.o.next (sY hmc)
     subst hmc;have Uf:Hq (bR w4 (.slice Ao nf co) nf):=qh (zu.o.blk fun q hq=>tY.block q (zu.o.lt q hq) fun hn=>by
      have h1:=HA1.o.m.lt q hn;have h2:=Tz.o q hq;omega)
     have TU:=qh wO;have hwm:(bO s1 fb fa tb ta).W=s1.W:=BA _ _ _ _ _;have hnm:(bO s1 fb fa tb ta).n=s1.n:=N3 _ _ _ _ _;have k42:=(TU.o.op HO.o cQ).1.c2;have k43:=(TU.o.op HO.o cQ).1.c3;obtain⟨s4,hs4⟩:=qx (bO s1 fb fa tb ta);have HS4:=qh hs4;rw[←hs4]at hwm hnm;have aj:Hq (At w tg a.g s4 w4 AT a4):=qh (by rw[hs4];exact TU.o);rw[←hwm]at ha1;clear sY tY wO hs4 TU lT k0 k2 k3
     go_wp2_with fail
     have hmk:=DW (w:=w4.drew) bo o 5 d fb fa tb ta _ r (.slice Ao nf co) nf (aj.o.below ((Below.refl w4.heap.size w4).drew)).m qo ((aj.o.below ((Below.refl w4.heap.size w4).drew)).op HO.o cQ).1 (aj.o.op HO.o cQ).2 (Uf.o.blk fun _ _=>rfl) qo;rw[aj.o.g]at hmk;have MH:=qh hmk;clear hmk
     go_region_held3 (fun w'=>w'.cell? ⟨bo,o+2,none⟩=some (.int .i64 fb)∧w'.cell? ⟨bo,o+2+1,none⟩=some (.int .i64 fa)) (go_keep)
      (first
       |(go_at_call 175;refine MH.o.mono ?_;rintro e w5 ⟨rfl,hmv⟩;obtain⟨IL,a5,l0,j9,sj⟩:=(aj.o.below ((Below.refl w4.heap.size w4).drew)).next hmv;have dC:Hq (At w tg a.g (more (s4)) w5 IL a5):=qh l0;have BD:=(dC.o.op HO.o cQ).1.c2;have EJ:=(dC.o.op HO.o cQ).1.c3;clear hmv l0 j9 sj)
       |(go_at_call 142;have hset:=mI fb fa (.slice (some ⟨w5.heap.size,0,none⟩) 1 1) (w5.alloc (.cells #[.int .i64 s1.n] 2)) (dC.o.below ((Below.refl w5.heap.size w5).alloc ql (.cells #[.int .i64 s1.n] 2))).m ha0 (by exact ha1) ⟨_,_,_,rfl⟩;rw[dC.o.g]at hset;refine hset.mono ?_;rintro e w8 ⟨rfl,zB⟩;obtain⟨tg8,a8,kB⟩:=(dC.o.below ((Below.refl w5.heap.size w5).alloc ql (.cells #[.int .i64 s1.n] 2))).put (m:=1) ha0 (by exact ha1) (bR.one w5 s1.n) (fun q hq=>by injection hq with hq;subst hq;exact⟨Decidable.byContradiction fun hn=>Nat.lt_irrefl _ (dC.o.m.lt _ hn),dC.o.f.size⟩) zB;have kA:=qh kB;have Jc:=(kA.o.op HO.o cQ).1.c2;have Jb:=(kA.o.op HO.o cQ).1.c3;clear hset zB kB BD EJ))
     rename_i hHeld
     clear hHeld Jc Jb
     go_wp2_with fail
     go_ret
     exact⟨by rw[HC.o];rfl,kA.o.f,fun _=>by rw[I6.o,←HS4.o];exact kA.o.moved⟩
    ·have hmc':(mc==0)=false:=by simpa using hmc
     have HF:=qh (g7.o.fr lT);clear lT sY
     go_wp2_with fail
     go_ret
     exact⟨by rw[HC.o];rfl,HF.o,fun h=>absurd (by rw[HC.o]at h;exact h) hmc⟩
end
end Go.Proofs.YtimlpmbabbbcaaaGreat
