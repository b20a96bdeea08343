/- Walks and plain lemmas. -/
import Derived.Test.YtdnmhhohcedjbaaGreatQ10
set_option linter.unusedVariables false
set_option linter.unusedSimpArgs false
set_option maxHeartbeats 2000000
set_option maxRecDepth 20000
namespace Go.Proofs.YtdnmhhohcedjbaaGreat
open Go.RowKit
def eH (s:aI)(k d fb fa tb ta:Int)(j:Nat):Int:=
 if eP s d (aL fb fa s.rk) j=true then
  (if 300≤s.n then 5 else if k=1 then 0 else if k=2 then(if 4≤aM s fb fa then 5 else 0)else eG (bM s d (aL fb fa s.rk) j) fb fa tb ta)
 else 9
def more (s:aI):aI:={s with n:=s.n+1}
def mZ (s:aI)(k d fb fa tb ta:Int)(j:Nat):aI:=
 if k=1 then gA (more (bM s d (aL fb fa s.rk) j)) fb fa 1
 else if k=2 then gA (more (bM s d (aL fb fa s.rk) j)) fb fa (aM s fb fa+1)
 else gA (more (aY (bM s d (aL fb fa s.rk) j) fb fa tb ta)) fb fa 1
section
variable {tg:Nat→Nat}{a:bC}{s:aI}{D:Nat}{w:World}
theorem P8 (hs:bW s D){d x:Int}{j:Nat}(h0: -3≤x)(h1:x≤26):bW (bM s d x j) D:=
 ⟨hs.w1,hs.w2,hs.r1,hs.r2,hs.fb,hs.kb,fun q hq=>by
  show-3≤(if q=j then(if d=1 then x+1 else x)else s.cat q)∧(if q=j then(if d=1 then x+1 else x)else s.cat q)≤30;have:=hs.ca q hq
  split
  ·split<;>omega
  ·exact this,hs.nb,hs.db⟩
theorem bE.one (w:World)(y:Int):bE (w.alloc (.cells #[.int .i64 y] 2)) (.slice (some ⟨w.heap.size,0,none⟩) 1 1) 1:=
 ⟨[y],by simp[ints],.inr ⟨w.heap.size,1,#[.int .i64 y],rfl,Nat.zero_le _,heap_alloc_new w _,Nat.le_refl _,by unfold maxLen;omega,rfl,rfl⟩⟩
theorem At.same {wb:World}{dY:Nat→Nat}{g:Nat}{w w':World}{F:Nat→Prop}(h:At wb dY g s w tg a)(hf:Fr w w' F)(hF:∀q,F q→tg q=0∧wb.heap.size≤q):At wb dY g s w' tg a:=
 ⟨h.g,h.m.same (fun b hb=>hf.block b (h.m.lt b hb) fun hq=>hb (hF b hq).1) hf.size,h.f.next hf fun q hq=>.inr (hF q hq).2,h.t⟩
theorem tX (s:aI)(fb fa tb ta:Int):(aY s fb fa tb ta).W=s.W:=by unfold aY;rw[iB,iB]
theorem LY (s:aI)(fb fa tb ta:Int):(aY s fb fa tb ta).n=s.n:=by unfold aY;rw[GY,GY]
theorem zQ11x0 {p:Prop}(h:p:=by
 clear hHeld Kv Ku
 go_wp2_with fail
 go_ret
 exact⟨by rw[HC.o];rfl,iY.o.f,fun _=>by rw[GC.o];exact iY.o.moved⟩):p:=h
theorem jq (bo o:Nat)(k d fb fa tb ta r:Int)(j:Nat)(H:Mem tg a s w)(hs:bW s D)(ho:gI bo o k d fb fa tb ta ((j:Int)+1) r w)(bK:tg bo=0)(hk:k=1∨k=2∨k=5)(hj:j<4)(hd:d=1∨d= -1)(ha0:0≤fa)(ha1:fa<s.W)(fC:0≤ta)(i9:ta<s.W):
 Calls Tryz.prog 84 #[.pointer (some ⟨a.g,0,none⟩),.pointer (some ⟨bo,o,none⟩)] w (vZ w tg a.g (eH s k d fb fa tb ta j) (mZ s k d fb fa tb ta j)):=by
 obtain⟨i0,hi,iz,is,ib⟩:=info_parts yL;have hw2:=hs.w2;have hxb:=iC (b:=fb) ha0 (show fa≤23 by omega) hs.r1 hs.r2;obtain⟨x,hx⟩:=qx (aL fb fa s.rk);rw[←hx]at hxb;have hs1:=P8 (d:=d) (j:=j) hs hxb.1 hxb.2;have HX:=qh hx;have HH:=qh H;have HO:=qh ho;have HS:=qh hs;have jM:=qh hs1;have hcar:=I6 bo o k d fb fa tb ta r j H hs ho bK hj hd ha0 qo;rw[←hx]at hcar;clear hx H ho hs hs1 hxb
 go_enter Tryz.func84,Tryz.ntmps84
 go_wp2_with fail
 refine hcar.mono ?_;rintro e w1 ⟨rfl,hf1,hm1⟩;clear hcar
 cases hcb:eP s d x j
 ·have HC:=qh (show eH s k d fb fa tb ta j=9 by unfold eH;rw[←HX.o,hcb];rfl)
  have HF:=qh hf1;clear hf1 hm1 hcb
  go_wp2_with fail
  go_ret
  exact⟨by rw[HC.o];rfl,HF.o,fun h=>by rw[HC.o]at h;omega⟩
 ·obtain⟨s1,hs1⟩:=qx (bM s d x j)
  obtain⟨mU,a1,zV⟩:∃mU a1,At w tg a.g s1 w1 mU a1:=by
   obtain⟨mU,a1,h1,h2,h3,h4⟩:=hm1 hcb;rw[hs1];exact⟨mU,a1,h1,h2,h3,h4⟩
  have HA1:=qh zV;have aeb:Hq (bW s1 D):=qh (by rw[hs1];exact jM.o);have mQ:=qh (show eH s k d fb fa tb ta j=(if 300≤s1.n then 5 else if k=1 then 0 else if k=2 then(if 4≤aM s1 fb fa then 5 else 0)else eG s1 fb fa tb ta)by unfold eH;rw[←HX.o,hcb,hs1];rfl);have HST:=qh (show mZ s k d fb fa tb ta j=(if k=1 then gA (more s1) fb fa 1 else if k=2 then gA (more s1) fb fa (aM s1 fb fa+1)else gA (more (aY s1 fb fa tb ta)) fb fa 1)by unfold mZ;rw[←HX.o,hs1];rfl);have hW1:s1.W=s.W:=by rw[hs1];rfl
  rw[←hW1]at ha1 i9;clear hm1 hf1 hcb zV hs1 HX jM;obtain⟨xl,hxl,_⟩:=HA1.o.m.l;obtain⟨AL,cL,iG⟩:=aF hxl;have m5:w1.cell? ⟨a.g,5,none⟩=some (.slice AL s1.n cL):=by
   have h:=HA1.o.m.m.cell 5;rw[HA1.o.g]at h;exact h.trans (by rw[←iG];rfl)
  have o0:=(HA1.o.op HO.o bK).1.c0;have o2:=(HA1.o.op HO.o bK).1.c2;have o3:=(HA1.o.op HO.o bK).1.c3;clear hxl iG
  by_cases hn:300≤s1.n
  ·have HC:=qh (show eH s k d fb fa tb ta j=5 by rw[mQ.o,if_pos hn])
   go_wp2_with fail
   go_ret
   exact⟨by rw[HC.o];rfl,HA1.o.f,fun h=>by rw[HC.o]at h;omega⟩
  ·go_wp2_with fail
   have hon:=pA fb fa w1 HA1.o.m ha0 ha1;rw[HA1.o.g]at hon;refine hon.mono ?_;rintro e w2 ⟨rfl,hb2⟩;obtain⟨nf,hnf⟩:=qx (aM s1 fb fa);have fW:nf≤4:=by rw[hnf];exact bT aeb.o ha0 ha1
   have hlf:bE w1 (kO a1 fb fa) nf:=by rw[hnf];exact HA1.o.m.lU ha0 ha1
   obtain⟨Af,cf,hvf⟩:=hlf.form;rw[hvf]at hlf ⊢;have HB2:=qh hb2;have rC:=qh (hlf.blk fun q hq=>hb2.block q (hlf.lt q hq));have iQ:=qh hnf;clear hon hnf hvf hlf hb2 m5
   go_wp2_with fail
   refine(iO _ nf w2 rC.o qo).mono ?_;rintro e w3 ⟨vo,rfl,hlo,hnew,hb3⟩;obtain⟨Ao,co,rfl⟩:=hlo.form;have HB3:Hq (Below w1.heap.size w1 w3):=HB2.st hb3;have Pp:=qh hlo;have Ut:Hq (∀q,(Value.slice Ao nf co).ownBlock=some q→w1.heap.size≤q):=qh fun q hq=>Nat.le_trans HB2.o.size (hnew q hq);have gY:=qh (HA1.o.below HB3.o);clear hlo hnew hb3 o0 o2 o3;have k0:=(gY.o.op HO.o bK).1.c0;have k2:=(gY.o.op HO.o bK).1.c2;have k3:=(gY.o.op HO.o bK).1.c3
   rcases hk with rfl|rfl|rfl
   ·go_wp2_with fail
    have HC:=qh (show eH s 1 d fb fa tb ta j=0 by rw[mQ.o];simp[hn]);have GC:=qh (show mZ s 1 d fb fa tb ta j=gA (more s1) fb fa 1 by rw[HST.o];simp);have hmk:=CV (w:=w3.drew) bo o 1 d fb fa tb ta _ r (.slice Ao nf co) nf (gY.o.below ((Below.refl w3.heap.size w3).drew)).m qo ((gY.o.below ((Below.refl w3.heap.size w3).drew)).op HO.o bK).1 (gY.o.op HO.o bK).2 (Pp.o.blk fun _ _=>rfl) qo;rw[gY.o.g]at hmk;have mM:=qh hmk;clear hmk
    go_region_held3 (fun w'=>w'.cell? ⟨bo,o+2,none⟩=some (.int .i64 fb)∧w'.cell? ⟨bo,o+2+1,none⟩=some (.int .i64 fa)) (go_keep)
     (first
      |(go_at_call 114;refine mM.o.mono ?_;rintro e w5 ⟨rfl,hmv⟩;obtain⟨wB,a5,mY,qL,zN⟩:=(gY.o.below ((Below.refl w3.heap.size w3).drew)).next hmv;have cH:Hq (At w tg a.g (more (s1)) w5 wB a5):=qh mY;have IA:=(cH.o.op HO.o bK).1.c2;have I9:=(cH.o.op HO.o bK).1.c3;clear hmv mY qL zN)
      |(go_at_call 89;have hset:=lV fb fa (.slice (some ⟨w5.heap.size,0,none⟩) 1 1) (w5.alloc (.cells #[.int .i64 s1.n] 2)) (cH.o.below ((Below.refl w5.heap.size w5).alloc ql (.cells #[.int .i64 s1.n] 2))).m ha0 (by exact ha1) ⟨_,_,_,rfl⟩;rw[cH.o.g]at hset;refine hset.mono ?_;rintro e w8 ⟨rfl,SP⟩;obtain⟨tg8,a8,iA⟩:=(cH.o.below ((Below.refl w5.heap.size w5).alloc ql (.cells #[.int .i64 s1.n] 2))).put (m:=1) ha0 (by exact ha1) (bE.one w5 s1.n) (fun q hq=>by injection hq with hq;subst hq;exact⟨Decidable.byContradiction fun hn=>Nat.lt_irrefl _ (cH.o.m.lt _ hn),cH.o.f.size⟩) SP;have iY:=qh iA;have Kv:=(iY.o.op HO.o bK).1.c2;have Ku:=(iY.o.op HO.o bK).1.c3;clear hset SP iA IA I9))
    rename_i hHeld
    exact zQ11x0
   ·by_cases h4:4≤nf
    ·have HC:=qh (show eH s 2 d fb fa tb ta j=5 by rw[mQ.o,←iQ.o];simp[hn,h4])
     go_wp2_with fail
     go_ret
     exact⟨by rw[HC.o];rfl,gY.o.f,fun h=>by rw[HC.o]at h;omega⟩
    ·go_wp2_with fail
     have HC:=qh (show eH s 2 d fb fa tb ta j=0 by rw[mQ.o,←iQ.o];simp[hn,h4]);have GC:=qh (show mZ s 2 d fb fa tb ta j=gA (more s1) fb fa (nf+1)by rw[HST.o,←iQ.o];simp);have hmk:=CV (w:=w3.drew) bo o 2 d fb fa tb ta _ r (.slice none 0 0) 0 (gY.o.below ((Below.refl w3.heap.size w3).drew)).m qo ((gY.o.below ((Below.refl w3.heap.size w3).drew)).op HO.o bK).1 (gY.o.op HO.o bK).2 ⟨[],World.ownsRow_nil _ _ _ _⟩ qo;rw[gY.o.g]at hmk;have mM:=qh hmk;clear hmk
     go_region_held3 (fun w'=>w'.cell? ⟨bo,o+2,none⟩=some (.int .i64 fb)∧w'.cell? ⟨bo,o+2+1,none⟩=some (.int .i64 fa)) (go_keep)
      (first
       |(go_at_call 114;refine mM.o.mono ?_;rintro e w5 ⟨rfl,hmv⟩;obtain⟨wB,a5,mY,qL,zN⟩:=(gY.o.below ((Below.refl w3.heap.size w3).drew)).next hmv;have cH:Hq (At w tg a.g (more (s1)) w5 wB a5):=qh mY;have vv:∀q,(Value.slice Ao nf co).ownBlock=some q→mU q=0∧q<w3.heap.size:=(fun q hq=>⟨Decidable.byContradiction fun hn=>(by have h1:=HA1.o.m.lt q hn;have h2:=Ut.o q hq;omega),Pp.o.lt q hq⟩);have t7:Hq (∀q,(Value.slice Ao nf co).ownBlock=some q→wB q=0∧w.heap.size≤q):=qh (fun q hq=>⟨Decidable.byContradiction fun hn=>(by rcases zN q hn with h1|h1;exact h1 (vv q hq).1;exact absurd (vv q hq).2 (Nat.not_lt.2 h1)),Nat.le_trans HA1.o.f.size (Ut.o q hq)⟩);obtain⟨xs,hxs⟩:bE w5 (.slice Ao nf co) nf:=Pp.o.blk (fun q hq=>qL.block q (vv q hq).2 fun h1=>h1 (vv q hq).1);have G9:=qh hxs;clear vv hxs;have IA:=(cH.o.op HO.o bK).1.c2;have I9:=(cH.o.op HO.o bK).1.c3;clear hmv mY qL zN)
       |(refine pU w5 (by rfl) (.tmp 68) (.tmp 72) _ (by rfl) 0 2 i0 _ 1 8 Tryz.underlying34 hi iz is ib rfl qo (.slice Ao nf co) nf (ints xs) (by rfl) G9.o _ 1 1 [.int .i64 s1.n] (by rfl) rfl (by simp[Value.oneCell']) qm qo (Nat.zero_le _) ?_;intro v6 w6 hown6 IF adh;obtain⟨A6,c6,rfl⟩:=aF hown6;have GK:=qh (cH.o.same IF t7.o);have E5:Hq (bE w6 (.slice A6 (nf+1) c6) (nf+1)):=qh ⟨xs++[(s1.n:Int)],by rw[aT];exact hown6⟩;have t8:Hq (∀q,(Value.slice A6 (nf+1) c6).ownBlock=some q→wB q=0∧w.heap.size≤q):=qh (fun q hq=>(by rcases adh with h1|h1;exact t7.o q (h1.symm.trans hq);rw[hq]at h1;injection h1 with h1;exact⟨Decidable.byContradiction fun hn=>(by have h2:=cH.o.m.lt q hn;omega),by have h2:=cH.o.f.size;omega⟩));have Yc:=(GK.o.op HO.o bK).1.c2;have Yb:=(GK.o.op HO.o bK).1.c3;clear hown6 IF adh IA I9)
       |(go_at_call 89;have hset:=lV fb fa (.slice A6 (nf+1) c6) w6 GK.o.m ha0 (by exact ha1) ⟨_,_,_,rfl⟩;rw[cH.o.g]at hset;refine hset.mono ?_;rintro e w8 ⟨rfl,SP⟩;obtain⟨tg8,a8,iA⟩:=GK.o.put (m:=nf+1) ha0 (by exact ha1) E5.o t8.o SP;have iY:=qh iA;have Kv:=(iY.o.op HO.o bK).1.c2;have Ku:=(iY.o.op HO.o bK).1.c3;clear hset SP iA Yc Yb))
     rename_i hHeld
     exact zQ11x0
   ·go_wp2_with fail
    have hmo:=KJ bo o 5 d fb fa tb ta _ r gY.o.m aeb.o (gY.o.op HO.o bK).1 (gY.o.op HO.o bK).2 ha0 ha1 fC i9;rw[gY.o.g]at hmo;obtain⟨mc,hmc⟩:=qx (eG s1 fb fa tb ta);have HC:=qh (show eH s 5 d fb fa tb ta j=mc by rw[mQ.o,←hmc];simp[hn]);have GC:=qh (show mZ s 5 d fb fa tb ta j=gA (more (aY s1 fb fa tb ta)) fb fa 1 by rw[HST.o];simp);rw[←hmc]at hmo;clear hmc;refine hmo.mono ?_;rintro e w4 ⟨rfl,fW,DO⟩;clear hmo
    by_cases hmc:mc=0
    ·obtain⟨zC,a4,qM,oH,_⟩:=gY.o.next (DO hmc)
     subst hmc;have Va:Hq (bE w4 (.slice Ao nf co) nf):=qh (Pp.o.blk fun q hq=>oH.block q (Pp.o.lt q hq) fun hn=>by
      have h1:=HA1.o.m.lt q hn;have h2:=Ut.o q hq;omega)
     have TX:=qh qM;have hwm:(aY s1 fb fa tb ta).W=s1.W:=tX _ _ _ _ _;have hnm:(aY s1 fb fa tb ta).n=s1.n:=LY _ _ _ _ _;have k42:=(TX.o.op HO.o bK).1.c2;have k43:=(TX.o.op HO.o bK).1.c3;obtain⟨s4,hs4⟩:=qx (aY s1 fb fa tb ta);have HS4:=qh hs4;rw[←hs4]at hwm hnm;have dx:Hq (At w tg a.g s4 w4 zC a4):=qh (by rw[hs4];exact TX.o);rw[←hwm]at ha1;clear DO oH qM hs4 TX fW k0 k2 k3
     go_wp2_with fail
     have hmk:=CV (w:=w4.drew) bo o 5 d fb fa tb ta _ r (.slice Ao nf co) nf (dx.o.below ((Below.refl w4.heap.size w4).drew)).m qo ((dx.o.below ((Below.refl w4.heap.size w4).drew)).op HO.o bK).1 (dx.o.op HO.o bK).2 (Va.o.blk fun _ _=>rfl) qo;rw[dx.o.g]at hmk;have mM:=qh hmk;clear hmk
     go_region_held3 (fun w'=>w'.cell? ⟨bo,o+2,none⟩=some (.int .i64 fb)∧w'.cell? ⟨bo,o+2+1,none⟩=some (.int .i64 fa)) (go_keep)
      (first
       |(go_at_call 114;refine mM.o.mono ?_;rintro e w5 ⟨rfl,hmv⟩;obtain⟨wB,a5,mY,qL,zN⟩:=(dx.o.below ((Below.refl w4.heap.size w4).drew)).next hmv;have cH:Hq (At w tg a.g (more (s4)) w5 wB a5):=qh mY;have IA:=(cH.o.op HO.o bK).1.c2;have I9:=(cH.o.op HO.o bK).1.c3;clear hmv mY qL zN)
       |(go_at_call 89;have hset:=lV fb fa (.slice (some ⟨w5.heap.size,0,none⟩) 1 1) (w5.alloc (.cells #[.int .i64 s1.n] 2)) (cH.o.below ((Below.refl w5.heap.size w5).alloc ql (.cells #[.int .i64 s1.n] 2))).m ha0 (by exact ha1) ⟨_,_,_,rfl⟩;rw[cH.o.g]at hset;refine hset.mono ?_;rintro e w8 ⟨rfl,SP⟩;obtain⟨tg8,a8,iA⟩:=(cH.o.below ((Below.refl w5.heap.size w5).alloc ql (.cells #[.int .i64 s1.n] 2))).put (m:=1) ha0 (by exact ha1) (bE.one w5 s1.n) (fun q hq=>by injection hq with hq;subst hq;exact⟨Decidable.byContradiction fun hn=>Nat.lt_irrefl _ (cH.o.m.lt _ hn),cH.o.f.size⟩) SP;have iY:=qh iA;have Kv:=(iY.o.op HO.o bK).1.c2;have Ku:=(iY.o.op HO.o bK).1.c3;clear hset SP iA IA I9))
     rename_i hHeld
     clear hHeld Kv Ku
     go_wp2_with fail
     go_ret
     exact⟨by rw[HC.o];rfl,iY.o.f,fun _=>by rw[GC.o,←HS4.o];exact iY.o.moved⟩
    ·have hmc':(mc==0)=false:=by simpa using hmc
     have HF:=qh (gY.o.fr fW);clear fW DO
     go_wp2_with fail
     go_ret
     exact⟨by rw[HC.o];rfl,HF.o,fun h=>absurd (by rw[HC.o]at h;exact h) hmc⟩
end
end Go.Proofs.YtdnmhhohcedjbaaGreat
