/- Walks and plain lemmas. -/
import Derived.Test.YtdnmhhohcedjbaaGreatQ11
set_option linter.unusedVariables false
set_option linter.unusedSimpArgs false
set_option maxHeartbeats 1000000
set_option maxRecDepth 20000
namespace Go.Proofs.YtdnmhhohcedjbaaGreat
open Go.RowKit
def lY (s:aI)(k:Int)(j:Nat):Int:=if s.cin j=decide (k=8)then 9 else 0
def vA (s:aI)(k d:Int)(j:Nat):aI:=
 {s with cin:=fun q=>if q=j then decide (k=8)else s.cin q,cat:=fun q=>if q=j then(if k=8 then(if d= -1 then(s.W:Int)+3 else-3)else 0)else s.cat q}
section
variable {tg:Nat→Nat}{a:bC}{s:aI}{D:Nat}{w:World}
theorem At.sJ {wb:World}{dY:Nat→Nat}{g:Nat}(h:At wb dY g s w tg a){j:Nat}(hj:j<4)(x:Bool):At wb dY g {s with cin:=fun q=>if q=j then x else s.cin q} (w.setCell ⟨a.gc,j*2,none⟩ (.bool x)) tg a:=
 ⟨h.g,h.m.sJ hj x,h.fr ((Fr.refl w _).set (by unfold eZ;rw[h.m.tc];omega) _),h.t⟩
theorem At.setAt {wb:World}{dY:Nat→Nat}{g:Nat}(h:At wb dY g s w tg a){j:Nat}(hj:j<4)(x:Int):At wb dY g {s with cat:=fun q=>if q=j then x else s.cat q} (w.setCell ⟨a.gc,j*2+1,none⟩ (.int .i64 x)) tg a:=
 ⟨h.g,h.m.setAt hj x,h.fr ((Fr.refl w _).set (by unfold eZ;rw[h.m.tc];omega) _),h.t⟩
theorem At.rT {wb:World}{dY:Nat→Nat}{g:Nat}(h:At wb dY g s w tg a)(r:Int):At wb dY g {s with rk:=r} (w.setCell ⟨a.g,1,none⟩ (.int .i64 r)) tg a:=
 ⟨h.g,h.m.rT r,h.fr ((Fr.refl w _).set (by unfold eZ;rw[h.m.tm];omega) _),h.t⟩
theorem At.P5 {wb:World}{dY:Nat→Nat}{g:Nat}(h:At wb dY g s w tg a):At wb dY g s w.drew.drew tg a:=h.below (((Below.refl w.heap.size w).drew).drew)
theorem zQ13x0 {p:Prop}(h:p:=by
 go_enter Tryz.func90,Tryz.ntmps90
 go_wp2_with fail
 go_region
 go_wp2_with fail
 go_region
 go_wp2_with fail
 go_ret
 exact⟨by rw[HC.o];rfl,HF.o.f,fun _=>by rw[HE.o];exact HF.o.moved⟩):p:=h
theorem zQ13x2 {p:Prop}(h:p:=by
 rw[hci]at k0;clear hci
 go_enter Tryz.func90,Tryz.ntmps90
 go_wp2_with fail
 go_region
 go_wp2_with fail
 go_region
 go_wp2_with fail
 go_ret
 exact⟨by rw[HC.o];rfl,(At.start HA.o.m).P5.f,fun h=>by rw[HC.o]at h;omega⟩):p:=h
theorem Kq (bo o:Nat)(k d fb fa tb ta r:Int)(j:Nat)(H:Mem tg a s w)(hs:bW s D)(ho:gI bo o k d fb fa tb ta ((j:Int)+1) r w)(bK:tg bo=0)(hk:k=8∧(d=1∨d= -1)∨k=9)(hj:j<4):
 Calls Tryz.prog 90 #[.pointer (some ⟨a.g,0,none⟩),.pointer (some ⟨bo,o,none⟩)] w (vZ w tg a.g (lY s k j) (vA s k d j)):=by
 have HA:=qh (At.start H);have m0:w.cell? ⟨a.g,0,none⟩=some (.int .i64 s.W):=H.m.cell 0;have m4:w.cell? ⟨a.g,4,none⟩=some (.slice (some ⟨a.gc,0,none⟩) 4 a.cc):=H.m.cell 4;obtain⟨k0,k1,f0,f1⟩:=H.mA hj;have o0:=ho.c0;have o1:=ho.c1;have o6:=ho.c6;have hw2:=hs.w2;have hf1:∀(W:World) (x:Nat) (v:Value) (q:Nat),(W.setCell ⟨a.gc,x,none⟩ v).cell? ⟨bo,q,none⟩=W.cell? ⟨bo,q,none⟩:=fun W x v q=>World.cell?_setCell_other W _ _ v (by intro e;injection e with e1 e2;have:=H.tc;rw[e1,bK]at this;omega);have hf2:∀(W:World) (x:Nat) (v:Value) (q:Nat),(W.setCell ⟨a.gc,x,none⟩ v).cell? ⟨a.g,q,none⟩=W.cell? ⟨a.g,q,none⟩:=fun W x v q=>World.cell?_setCell_other W _ _ v (by intro e;injection e with e1 e2;have:=H.tc;rw[e1,H.tm]at this;omega);clear H ho
 rcases hk with⟨rfl,hd⟩|rfl
 ·cases hci:s.cin j
  ·have HC:=qh (show lY s 8 j=0 by unfold lY;simp[hci])
   rw[hci]at k0;clear hci
   rcases hd with rfl|rfl
   ·have HE:=qh (show vA s 8 1 j={s with cin:=fun q=>if q=j then true else(if q=j then false else s.cin q),cat:=fun q=>if q=j then-3 else(if q=j then 0 else s.cat q)}by
     unfold vA
     congr 1<;>(funext q;by_cases h:q=j<;>simp[h]))
    have HF:=qh ((((HA.o.sJ hj false).setAt hj 0).sJ hj true).setAt hj (-3)).P5
    exact zQ13x0
   ·have HE:=qh (show vA s 8 (-1) j={s with cin:=fun q=>if q=j then true else(if q=j then false else s.cin q),cat:=fun q=>if q=j then(s.W:Int)+3 else(if q=j then-3 else(if q=j then 0 else s.cat q))}by
     unfold vA
     congr 1<;>(funext q;by_cases h:q=j<;>simp[h]))
    have HF:=qh (((((HA.o.sJ hj false).setAt hj 0).sJ hj true).setAt hj (-3)).setAt hj ((s.W:Int)+3)).P5;have k9:=((((HA.o.sJ hj false).setAt hj 0).sJ hj true).setAt hj (-3)).m.mA hj;have k10:=k9.2.1;have k11:=k9.2.2.2
    simp only[if_true]at k10 k11
    clear k9
    exact zQ13x0
  ·have HC:=qh (show lY s 8 j=9 by unfold lY;simp[hci])
   exact zQ13x2
 ·cases hci:s.cin j
  ·have HC:=qh (show lY s 9 j=9 by unfold lY;simp[hci])
   exact zQ13x2
  ·have HC:=qh (show lY s 9 j=0 by unfold lY;simp[hci])
   have HE:=qh (show vA s 9 d j={s with cin:=fun q=>if q=j then false else s.cin q,cat:=fun q=>if q=j then 0 else s.cat q}by
    unfold vA
    congr 1)
   have HF:=qh ((HA.o.sJ hj false).setAt hj 0).P5;rw[hci]at k0;clear hci
   exact zQ13x0
end
end Go.Proofs.YtdnmhhohcedjbaaGreat
namespace Go.Proofs.YtdnmhhohcedjbaaGreat
open Go.RowKit
structure fP (W:Nat)(k d fb fa tb ta c r:Int)(j:Nat):Prop where
 k1:1≤k
 k9:k≤9
 f0:0≤fa
 f1:fa<W
 t0:0≤ta
 t1:ta<W
 r0: -3≤r
 r1:r≤3
 mA:k≠4→k≠6→k≠7→c=(j:Int)+1∧j<4
 dir:k≠4→k≠6→k≠7→k≠9→d=1∨d= -1
def aX (s:aI)(k d fb fa tb ta:Int)(j:Nat):Int:=
 if k=1∨k=2∨k=5 then eH s k d fb fa tb ta j
 else if k=3 then(if eP s d (aL fb fa s.rk) j=true then 0 else 9)
 else if k=4 then eG s fb fa tb ta
 else if k=6 then(if aM s fb fa=0 then 7 else 0)
 else if k=7 then 0
 else lY s k j
def cV (s:aI)(k d fb fa tb ta r:Int)(j:Nat):aI:=
 if k=1∨k=2∨k=5 then mZ s k d fb fa tb ta j
 else if k=3 then bM s d (aL fb fa s.rk) j
 else if k=4 then aY s fb fa tb ta
 else if k=6 then gA {s with d:=s.d+aM s fb fa} fb fa 0
 else if k=7 then{s with rk:=r}
 else vA s k d j
section
variable {tg:Nat→Nat}{a:bC}{s:aI}{D:Nat}{w:World}
theorem At.Bw {wb:World}{dY:Nat→Nat}{g:Nat}{v:Value}{m:Nat}(h:At wb dY g s w tg a)(hv:xX w v m)(hf:∀q,v.ownBlock=some q→tg q=0∧wb.heap.size≤q):At wb dY g {s with d:=m} (w.setCell ⟨g,6,none⟩ v) (retag tg v 6) {a with D:=v}:=by
 obtain rfl:=h.g;exact⟨rfl,h.m.Bw (h.m.rest 6 fun _ _ _=>rfl) ql hv fun q hq=>.inl (hf q hq).1,h.fr ((Fr.refl w _).set (by unfold eZ;rw[h.m.tm];omega) _),fun q hq=>by
  unfold retag at hq
  split at hq
  ·exact .inr (hf q ‹_›).2
  ·exact h.t q hq⟩
theorem jv (bo o:Nat)(d fb fa tb ta c r:Int)(H:Mem tg a s w)(hs:bW s D)(hD:D≤1000000)(ho:gI bo o 6 d fb fa tb ta c r w)(bK:tg bo=0)(ha0:0≤fa)(ha1:fa<s.W):
 Calls Tryz.prog 61 #[.pointer (some ⟨a.g,0,none⟩),.pointer (some ⟨bo,o,none⟩)] w (vZ w tg a.g (if aM s fb fa=0 then 7 else 0) (gA {s with d:=s.d+aM s fb fa} fb fa 0)):=by
 obtain⟨nf,hnf⟩:=qx (aM s fb fa);have fW:nf≤4:=by rw[hnf];exact bT hs ha0 ha1
 have hlf:bE w (kO a fb fa) nf:=by rw[hnf];exact H.lU ha0 ha1
 obtain⟨Af,cf,hvf⟩:=hlf.form;rw[←hnf];obtain⟨code,hcode⟩:∃c,c=(if nf=0 then(7:Int)else 0):=⟨_,rfl⟩;rw[←hcode];have HC:=qh hcode;clear hcode;have jV:=qh hvf;have iQ:=qh hnf;have HA:=qh (At.start H);have HO:=qh ho;have o0:=ho.c0;have o2:=ho.c2;have o3:=ho.c3;have hdb:=hs.db;clear hvf hnf hlf H ho hs
 go_enter Tryz.func61,Tryz.ntmps61
 go_wp2_with fail
 refine(pA fb fa w HA.o.m ha0 ha1).mono ?_;rintro e w1 ⟨rfl,hb1⟩;rw[jV.o];have HA1:=qh (HA.o.below hb1);clear hb1;have k2:=(HA1.o.op HO.o bK).1.c2;have k3:=(HA1.o.op HO.o bK).1.c3;clear o0 o2 o3
 by_cases h0:nf=0
 ·subst h0
  go_wp2_with fail
  go_ret
  exact⟨by rw[HC.o];rfl,HA1.o.f,fun h=>by rw[HC.o]at h;simp at h⟩
 ·have h0':((nf:Int)==0)=false:=by simp;omega
  have jH:=qh (show code=0 by rw[HC.o,if_neg h0]);clear k2 k3 HC
  go_wp2_with fail
  go_loopw [6] (fun iv wr=>∃i tgr ar,i≤nf∧iv=.int .i64 i∧At w tg a.g {s with d:=s.d+i} wr tgr ar∧ar.F=a.F∧ar.K=a.K) (fun iv _=>nf-(intOf iv).toNat)
  case atStart=>exact⟨0,tg,a,Nat.zero_le _,rfl,HA1.o,rfl,rfl⟩
  case round=>
   obtain⟨i,tgr,ar,hi,rfl,hat,hF,hK⟩:=hrel;have CN:=qh hat;have HF:=qh hF;have HK:=qh hK;clear hat hF hK
   by_cases hlt:i<nf
   ·have hl:bE wr (.slice Af nf cf) nf:=by
     have h:=CN.o.m.lU (b:=fb) ha0 ha1;have e1:kO ar fb fa=kO a fb fa:=by unfold kO;rw[HF.o,HK.o]
     have e2:aM ({s with d:=s.d+i}:aI) fb fa=nf:=iQ.o.symm;rw[e1,e2,jV.o]at h;exact h
    obtain⟨A9,c9,ys,Ma,hrd⟩:=hl.rd;injection Ma with e1 e2 e3;subst e1 e3;clear e2 hl;obtain⟨gl,ol,rfl,hgl,hra⟩:=hrd qo;have kl:=hra i hlt;obtain⟨y,hy⟩:=qx (ys.getD i 0)
    simp only[←hy]at kl
    obtain⟨qd,SR,hld⟩:=CN.o.m.d;obtain⟨AD,cD,DR⟩:=hld.form;have m6:wr.cell? ⟨a.g,6,none⟩=some (.slice AD qd cD):=by
     have h:=CN.o.m.m.cell 6;rw[CN.o.g]at h;exact h.trans (by rw[←DR];rfl)
    rw[DR]at hld;have L6:=qh hld;have HQD:Hq (qd≤s.d+i):=qh SR;have hqD:qd≤1048576:=by have h:qd≤s.d+i:=SR;omega
    clear hrd hra hy hld SR DR
    go_wp2_with fail
    refine cN (S:=fun w'=>w'.cell? ⟨a.g,6,none⟩=some (.slice AD qd cD)∧w'.cell? ⟨gl,ol+i,none⟩=some (.int .i64 y)) _ qj qk qk ⟨m6,kl⟩ (fun hHeld=>?_)
    simp only[List.dropLast,List.getLast_cons_cons,List.getLast_singleton,List.length_cons,List.length_nil]
    refine qt 0 hHeld ?_
    simp only[List.getElem_toArray,List.getElem_cons_zero,Act.put,List.setIfInBounds_toArray,List.set_cons_zero,List.set_cons_succ]
    refine qt 1 hHeld ?_;refine qt 2 hHeld ?_;refine qt 3 hHeld ?_;refine qt 4 hHeld ?_;refine qt 5 hHeld ?_;refine qt 6 hHeld ?_;refine qt 7 hHeld ?_;refine qt 8 hHeld ?_
    simp only[List.getElem_toArray,List.getElem_cons_succ,List.getElem_cons_zero,Act.put,List.setIfInBounds_toArray,List.set_cons_zero,List.set_cons_succ]
    refine wpAnyH_ready (rs:=[9]) qk qj ?_;refine AllReadyH.cons rfl (fun K hK=>?_) AllReadyH.nil
    simp only[List.getElem_toArray,List.getElem_cons_succ,List.getElem_cons_zero]
    go_simp
    refine(Dt _ qd y wr.drew (L6.o.blk fun _ _=>rfl) hqD).mono ?_;rintro e w2 ⟨q2,hq2,v2,rfl,hl2,hn2,hb2⟩;obtain⟨A2,c2,rfl⟩:=hl2.form;have HB2:Hq (Below wr.heap.size wr w2):=qh (((Below.refl wr.heap.size wr).drew).trans hb2);have k6:=((aA HB2.o).1 a.g 6 (World.block_lt_of_cell? wr _ m6)).trans m6;have kl2:=((aA HB2.o).1 gl (ol+i) hgl).trans kl;have HA2:=qh (CN.o.below HB2.o);have f6:w2.frozen? ⟨a.g,6,none⟩=false:=by
     have h:=HA2.o.m.m.frozen 6;rw[HA2.o.g]at h;exact h
    have HAS:Hq (At w tg a.g {s with d:=s.d+(i+1)} (w2.setCell ⟨a.g,6,none⟩ (.slice A2 q2 c2)) (retag tgr (.slice A2 q2 c2) 6) {ar with D:=.slice A2 q2 c2}):=qh (by
     exact HA2.o.Bw (m:=s.d+(i+1)) ⟨q2,by have h1:=HQD.o;omega,hl2⟩ (fun q hq=>⟨Decidable.byContradiction fun hn=>Nat.lt_irrefl _ (Nat.lt_of_lt_of_le (CN.o.m.lt q hn) (hn2 q hq)),Nat.le_trans CN.o.f.size (hn2 q hq)⟩))
    clear hb2 hl2 hn2 m6 kl hgl;refine hK.out _ _ ⟨k6,kl2⟩ (fun jL=>?_);clear hK K hHeld;refine qt 10 jL ?_;refine qt 11 jL ?_
    simp only[List.getElem_toArray,List.getElem_cons_succ,List.getElem_cons_zero,Act.put,List.setIfInBounds_toArray,List.set_cons_zero,List.set_cons_succ]
    refine wpAnyH_done qk ?_ _;refine d8.of ?_
    go_simp
    clear jL k6 kl2 f6
    go_wp2_with fail
    go_roundw
    case rel=>exact⟨i+1,_,_,by omega,qg,HAS.o,HF.o,HK.o⟩
    case measure=>exact qs
   ·obtain rfl:nf=i:=qo
    have k2:=(CN.o.op HO.o bK).1.c2;have k3:=(CN.o.op HO.o bK).1.c3
    go_wp2_with fail
    have wO:Below wr.heap.size wr (wr.alloc (.cells #[] 2)):=qb;have sQ:=lV fb fa (.slice (some ⟨wr.heap.size,0,none⟩) 0 0) _ (CN.o.below wO).m ha0 ha1 ⟨_,_,_,rfl⟩;rw[CN.o.g]at sQ;refine sQ.mono ?_;rintro e w9 ⟨rfl,gP⟩;obtain⟨xY,a2,gF⟩:=(CN.o.below wO).put (m:=0) ha0 ha1 ⟨[],World.ownsRow_made wr #[] 0 (Nat.zero_le _) qm rfl⟩ (fun q hq=>by
     injection hq with hq;subst hq;exact⟨Decidable.byContradiction fun hn=>Nat.lt_irrefl _ (CN.o.m.lt _ hn),CN.o.f.size⟩) gP
    have HA2:=qh gF;clear gF gP sQ wO k2 k3
    go_wp2_with fail
    go_ret
    exact⟨by rw[jH.o];rfl,HA2.o.f,fun _=>HA2.o.moved⟩
end
end Go.Proofs.YtdnmhhohcedjbaaGreat
namespace Go.Proofs.YtdnmhhohcedjbaaGreat
open Go.RowKit
section
variable {tg:Nat→Nat}{a:bC}{s:aI}{D:Nat}{w:World}
theorem zQ13x1 {p:Prop}(h:p:=by
 go_enter Tryz.func61,Tryz.ntmps61
 go_wp2_with fail
 refine HF.o.mono ?_;rintro e w1 ⟨rfl,h1,h2⟩;have HR:=qh (And.intro h1 h2);clear h1 h2
 go_wp2_with fail
 go_ret
 exact⟨rfl,HR.o.1,HR.o.2⟩):p:=h
theorem Dr (bo o:Nat)(k d fb fa tb ta r:Int)(j:Nat)(H:Mem tg a s w)(hs:bW s D)(ho:gI bo o k d fb fa tb ta ((j:Int)+1) r w)(bK:tg bo=0)(hk:k=1∨k=2∨k=5)(hj:j<4)(hd:d=1∨d= -1)(ha0:0≤fa)(ha1:fa<s.W)(fC:0≤ta)(i9:ta<s.W):
 Calls Tryz.prog 61 #[.pointer (some ⟨a.g,0,none⟩),.pointer (some ⟨bo,o,none⟩)] w (vZ w tg a.g (eH s k d fb fa tb ta j) (mZ s k d fb fa tb ta j)):=by
 have hform:=jq bo o k d fb fa tb ta r j H hs ho bK hk hj hd ha0 ha1 fC i9;obtain⟨code,hcode⟩:=qx (eH s k d fb fa tb ta j);obtain⟨s',hs'⟩:∃c,c=mZ s k d fb fa tb ta j:=⟨_,rfl⟩;rw[←hcode,←hs']at hform ⊢;have HF:=qh hform;have o0:=ho.c0;clear hform hcode hs' ho H hs
 rcases hk with rfl|rfl|rfl
 all_goals
  exact zQ13x1
theorem Dq (bo o:Nat)(d fb fa tb ta r:Int)(j:Nat)(H:Mem tg a s w)(hs:bW s D)(ho:gI bo o 3 d fb fa tb ta ((j:Int)+1) r w)(bK:tg bo=0)(hj:j<4)(hd:d=1∨d= -1)(ha0:0≤fa)(ha1:fa<s.W):
 Calls Tryz.prog 61 #[.pointer (some ⟨a.g,0,none⟩),.pointer (some ⟨bo,o,none⟩)] w (vZ w tg a.g (if eP s d (aL fb fa s.rk) j=true then 0 else 9) (bM s d (aL fb fa s.rk) j)):=by
 have hw2:=hs.w2;have hcar:=I6 bo o 3 d fb fa tb ta r j H hs ho bK hj hd ha0 qo;obtain⟨b,hb⟩:=qx (eP s d (aL fb fa s.rk) j);obtain⟨s',hs'⟩:∃c,c=bM s d (aL fb fa s.rk) j:=⟨_,rfl⟩;rw[←hb,←hs']at hcar ⊢;have HF:=qh hcar;have o0:=ho.c0;clear hcar hb hs' ho H hs
 cases b
 ·obtain⟨code,hcode⟩:∃c,c=(if false=true then(0:Int)else 9):=⟨_,rfl⟩
  rw[←hcode];have HC:=qh hcode;clear hcode
  go_enter Tryz.func61,Tryz.ntmps61
  go_wp2_with fail
  refine HF.o.mono ?_;rintro e w1 ⟨rfl,h1,h2⟩;have HR:=qh h1;clear h1 h2
  go_wp2_with fail
  go_ret
  exact⟨by rw[HC.o];rfl,HR.o,fun h=>by rw[HC.o]at h;simp at h⟩
 ·obtain⟨code,hcode⟩:∃c,c=(if true=true then(0:Int)else 9):=⟨_,rfl⟩
  rw[←hcode];have HC:=qh hcode;clear hcode
  go_enter Tryz.func61,Tryz.ntmps61
  go_wp2_with fail
  refine HF.o.mono ?_;rintro e w1 ⟨rfl,h1,h2⟩;have HR:=qh (And.intro h1 (h2 rfl));clear h1 h2
  go_wp2_with fail
  go_ret
  exact⟨by rw[HC.o];rfl,HR.o.1,fun _=>HR.o.2⟩
theorem Dp (bo o:Nat)(d fb fa tb ta c r:Int)(H:Mem tg a s w)(hs:bW s D)(ho:gI bo o 4 d fb fa tb ta c r w)(bK:tg bo=0)(ha0:0≤fa)(ha1:fa<s.W)(fC:0≤ta)(i9:ta<s.W):
 Calls Tryz.prog 61 #[.pointer (some ⟨a.g,0,none⟩),.pointer (some ⟨bo,o,none⟩)] w (vZ w tg a.g (eG s fb fa tb ta) (aY s fb fa tb ta)):=by
 have hform:=KJ bo o 4 d fb fa tb ta c r H hs ho bK ha0 ha1 fC i9;obtain⟨code,hcode⟩:=qx (eG s fb fa tb ta);obtain⟨s',hs'⟩:∃c,c=aY s fb fa tb ta:=⟨_,rfl⟩;rw[←hcode,←hs']at hform ⊢;have HF:=qh hform;have o0:=ho.c0;clear hform hcode hs' ho H hs
 exact zQ13x1
theorem Ru (bo o:Nat)(k d fb fa tb ta r:Int)(j:Nat)(H:Mem tg a s w)(hs:bW s D)(ho:gI bo o k d fb fa tb ta ((j:Int)+1) r w)(bK:tg bo=0)(hk:k=8∧(d=1∨d= -1)∨k=9)(hj:j<4):
 Calls Tryz.prog 61 #[.pointer (some ⟨a.g,0,none⟩),.pointer (some ⟨bo,o,none⟩)] w (vZ w tg a.g (lY s k j) (vA s k d j)):=by
 have hform:=Kq bo o k d fb fa tb ta r j H hs ho bK hk hj;obtain⟨code,hcode⟩:=qx (lY s k j);obtain⟨s',hs'⟩:∃c,c=vA s k d j:=⟨_,rfl⟩;rw[←hcode,←hs']at hform ⊢;have HF:=qh hform;have o0:=ho.c0;clear hform hcode hs' ho H hs;have hk':k=8∨k=9:=qo;clear hk
 rcases hk' with rfl|rfl
 all_goals
  exact zQ13x1
theorem Dn (bo o:Nat)(d fb fa tb ta c r:Int)(H:Mem tg a s w)(ho:gI bo o 7 d fb fa tb ta c r w):
 Calls Tryz.prog 61 #[.pointer (some ⟨a.g,0,none⟩),.pointer (some ⟨bo,o,none⟩)] w (vZ w tg a.g 0 {s with rk:=r}):=by
 have HA:=qh ((At.start H).rT r);have m1:w.cell? ⟨a.g,1,none⟩=some (.int .i64 s.rk):=H.m.cell 1;have f1:w.frozen? ⟨a.g,1,none⟩=false:=H.m.frozen 1;have o0:=ho.c0;have o7:=ho.c7;clear H ho
 go_enter Tryz.func61,Tryz.ntmps61
 go_wp2_with fail
 go_ret
 exact⟨rfl,HA.o.f,fun _=>HA.o.moved⟩
theorem BX (bo o:Nat){k d fb fa tb ta c r:Int}{j:Nat}(H:Mem tg a s w)(hs:bW s D)(hD:D≤1000000)(ho:gI bo o k d fb fa tb ta c r w)(bK:tg bo=0)(hp:fP s.W k d fb fa tb ta c r j):
 Calls Tryz.prog 61 #[.pointer (some ⟨a.g,0,none⟩),.pointer (some ⟨bo,o,none⟩)] w (vZ w tg a.g (aX s k d fb fa tb ta j) (cV s k d fb fa tb ta r j)):=by
 have h1:=hp.k1;have h9:=hp.k9;unfold aX cV
 by_cases hk:k=1∨k=2∨k=5
 ·rw[if_pos hk,if_pos hk]
  obtain⟨rfl,hj⟩:=hp.mA qo qo qo;exact Dr bo o k d fb fa tb ta r j H hs ho bK hk hj (hp.dir qo qo qo qo) hp.f0 hp.f1 hp.t0 hp.t1
 ·rw[if_neg hk,if_neg hk]
  by_cases h3:k=3
  ·subst h3
   rw[if_pos rfl,if_pos rfl];obtain⟨rfl,hj⟩:=hp.mA qo qo qo;exact Dq bo o d fb fa tb ta r j H hs ho bK hj (hp.dir qo qo qo qo) hp.f0 hp.f1
  ·rw[if_neg h3,if_neg h3]
   by_cases h4:k=4
   ·subst h4
    rw[if_pos rfl,if_pos rfl];exact Dp bo o d fb fa tb ta c r H hs ho bK hp.f0 hp.f1 hp.t0 hp.t1
   ·rw[if_neg h4,if_neg h4]
    by_cases h6:k=6
    ·subst h6
     rw[if_pos rfl,if_pos rfl];exact jv bo o d fb fa tb ta c r H hs hD ho bK hp.f0 hp.f1
    ·rw[if_neg h6,if_neg h6]
     by_cases h7:k=7
     ·subst h7
      rw[if_pos rfl,if_pos rfl];exact Dn bo o d fb fa tb ta c r H ho
     ·rw[if_neg h7,if_neg h7]
      obtain⟨rfl,hj⟩:=hp.mA h4 h6 h7;refine Ru bo o k d fb fa tb ta r j H hs ho bK ?_ hj
      by_cases h8:k=8
      ·exact .inl ⟨h8,hp.dir h4 h6 h7 qo⟩
      ·exact .inr qo
end
end Go.Proofs.YtdnmhhohcedjbaaGreat
