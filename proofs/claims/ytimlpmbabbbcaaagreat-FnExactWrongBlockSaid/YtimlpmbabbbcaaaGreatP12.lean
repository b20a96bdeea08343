/- Walks and plain lemmas. -/
import Derived.Test.YtimlpmbabbbcaaaGreatP11
import Derived.Test.YtimlpmbabbbcaaaGreatP10
set_option linter.unusedVariables false
set_option linter.unusedSimpArgs false
set_option maxHeartbeats 1000000
set_option maxRecDepth 20000
namespace Go.Proofs.YtimlpmbabbbcaaaGreat
open Go.RowKit
def mM (s:aP)(k:Int)(j:Nat):Int:=if s.cin j=decide (k=8)then 9 else 0
def wL (s:aP)(k d:Int)(j:Nat):aP:=
 {s with cin:=fun q=>if q=j then decide (k=8)else s.cin q,cat:=fun q=>if q=j then(if k=8 then(if d= -1 then(s.W:Int)+3 else-3)else 0)else s.cat q}
section
variable {tg:Nat→Nat}{a:bV}{s:aP}{D:Nat}{w:World}
theorem At.tN {wb:World}{eP:Nat→Nat}{g:Nat}(h:At wb eP g s w tg a){j:Nat}(hj:j<4)(x:Bool):At wb eP g {s with cin:=fun q=>if q=j then x else s.cin q} (w.setCell ⟨a.gc,j*2,none⟩ (.bool x)) tg a:=
 ⟨h.g,h.m.tN hj x,h.fr ((Fr.refl w _).set (by unfold fZ;rw[h.m.tc];omega) _),h.t⟩
theorem At.setAt {wb:World}{eP:Nat→Nat}{g:Nat}(h:At wb eP g s w tg a){j:Nat}(hj:j<4)(x:Int):At wb eP g {s with cat:=fun q=>if q=j then x else s.cat q} (w.setCell ⟨a.gc,j*2+1,none⟩ (.int .i64 x)) tg a:=
 ⟨h.g,h.m.setAt hj x,h.fr ((Fr.refl w _).set (by unfold fZ;rw[h.m.tc];omega) _),h.t⟩
theorem At.sR {wb:World}{eP:Nat→Nat}{g:Nat}(h:At wb eP g s w tg a)(r:Int):At wb eP g {s with rk:=r} (w.setCell ⟨a.g,1,none⟩ (.int .i64 r)) tg a:=
 ⟨h.g,h.m.sR r,h.fr ((Fr.refl w _).set (by unfold fZ;rw[h.m.tm];omega) _),h.t⟩
theorem At.PR {wb:World}{eP:Nat→Nat}{g:Nat}(h:At wb eP g s w tg a):At wb eP g s w.drew.drew tg a:=h.below (((Below.refl w.heap.size w).drew).drew)
theorem zP12x0 {p:Prop}(h:p:=by
 go_enter Tryz.func143,Tryz.ntmps143
 go_wp2_with fail
 go_region
 go_wp2_with fail
 go_region
 go_wp2_with fail
 go_ret
 exact⟨by rw[HC.o];rfl,HF.o.f,fun _=>by rw[HE.o];exact HF.o.moved⟩):p:=h
theorem zP12x2 {p:Prop}(h:p:=by
 rw[hci]at k0;clear hci
 go_enter Tryz.func143,Tryz.ntmps143
 go_wp2_with fail
 go_region
 go_wp2_with fail
 go_region
 go_wp2_with fail
 go_ret
 exact⟨by rw[HC.o];rfl,(At.start HA.o.m).PR.f,fun h=>by rw[HC.o]at h;omega⟩):p:=h
theorem Iw (bo o:Nat)(k d fb fa tb ta r:Int)(j:Nat)(H:Mem tg a s w)(hs:d8 s D)(ho:kO bo o k d fb fa tb ta ((j:Int)+1) r w)(cQ:tg bo=0)(hk:k=8∧(d=1∨d= -1)∨k=9)(hj:j<4):
 Calls Tryz.prog 143 #[.pointer (some ⟨a.g,0,none⟩),.pointer (some ⟨bo,o,none⟩)] w (xL w tg a.g (mM s k j) (wL s k d j)):=by
 have HA:=qh (At.start H);have m0:w.cell? ⟨a.g,0,none⟩=some (.int .i64 s.W):=H.m.cell 0;have m4:w.cell? ⟨a.g,4,none⟩=some (.slice (some ⟨a.gc,0,none⟩) 4 a.cc):=H.m.cell 4;obtain⟨k0,k1,f0,f1⟩:=H.mP hj;have o0:=ho.c0;have o1:=ho.c1;have o6:=ho.c6;have hw2:=hs.w2;have hf1:∀(W:World) (x:Nat) (v:Value) (q:Nat),(W.setCell ⟨a.gc,x,none⟩ v).cell? ⟨bo,q,none⟩=W.cell? ⟨bo,q,none⟩:=fun W x v q=>World.cell?_setCell_other W _ _ v (by intro e;injection e with e1 e2;have:=H.tc;rw[e1,cQ]at this;omega);have hf2:∀(W:World) (x:Nat) (v:Value) (q:Nat),(W.setCell ⟨a.gc,x,none⟩ v).cell? ⟨a.g,q,none⟩=W.cell? ⟨a.g,q,none⟩:=fun W x v q=>World.cell?_setCell_other W _ _ v (by intro e;injection e with e1 e2;have:=H.tc;rw[e1,H.tm]at this;omega);clear H ho
 rcases hk with⟨rfl,hd⟩|rfl
 ·cases hci:s.cin j
  ·have HC:=qh (show mM s 8 j=0 by unfold mM;simp[hci])
   rw[hci]at k0;clear hci
   rcases hd with rfl|rfl
   ·have HE:=qh (show wL s 8 1 j={s with cin:=fun q=>if q=j then true else(if q=j then false else s.cin q),cat:=fun q=>if q=j then-3 else(if q=j then 0 else s.cat q)}by
     unfold wL
     congr 1<;>(funext q;by_cases h:q=j<;>simp[h]))
    have HF:=qh ((((HA.o.tN hj false).setAt hj 0).tN hj true).setAt hj (-3)).PR
    exact zP12x0
   ·have HE:=qh (show wL s 8 (-1) j={s with cin:=fun q=>if q=j then true else(if q=j then false else s.cin q),cat:=fun q=>if q=j then(s.W:Int)+3 else(if q=j then-3 else(if q=j then 0 else s.cat q))}by
     unfold wL
     congr 1<;>(funext q;by_cases h:q=j<;>simp[h]))
    have HF:=qh (((((HA.o.tN hj false).setAt hj 0).tN hj true).setAt hj (-3)).setAt hj ((s.W:Int)+3)).PR;have k9:=((((HA.o.tN hj false).setAt hj 0).tN hj true).setAt hj (-3)).m.mP hj;have k10:=k9.2.1;have k11:=k9.2.2.2
    simp only[if_true]at k10 k11
    clear k9
    exact zP12x0
  ·have HC:=qh (show mM s 8 j=9 by unfold mM;simp[hci])
   exact zP12x2
 ·cases hci:s.cin j
  ·have HC:=qh (show mM s 9 j=9 by unfold mM;simp[hci])
   exact zP12x2
  ·have HC:=qh (show mM s 9 j=0 by unfold mM;simp[hci])
   have HE:=qh (show wL s 9 d j={s with cin:=fun q=>if q=j then false else s.cin q,cat:=fun q=>if q=j then 0 else s.cat q}by
    unfold wL
    congr 1)
   have HF:=qh ((HA.o.tN hj false).setAt hj 0).PR;rw[hci]at k0;clear hci
   exact zP12x0
end
end Go.Proofs.YtimlpmbabbbcaaaGreat
namespace Go.Proofs.YtimlpmbabbbcaaaGreat
open Go.RowKit
structure gZ (W:Nat)(k d fb fa tb ta c r:Int)(j:Nat):Prop where
 k1:1≤k
 k9:k≤9
 f0:0≤fa
 f1:fa<W
 t0:0≤ta
 t1:ta<W
 r0: -3≤r
 r1:r≤3
 mP:k≠4→k≠6→k≠7→c=(j:Int)+1∧j<4
 dir:k≠4→k≠6→k≠7→k≠9→d=1∨d= -1
def bJ (s:aP)(k d fb fa tb ta:Int)(j:Nat):Int:=
 if k=1∨k=2∨k=5 then fQ s k d fb fa tb ta j
 else if k=3 then(if fR s d (aO fb fa s.rk) j=true then 0 else 9)
 else if k=4 then fO s fb fa tb ta
 else if k=6 then(if aU s fb fa=0 then 7 else 0)
 else if k=7 then 0
 else mM s k j
def eM (s:aP)(k d fb fa tb ta r:Int)(j:Nat):aP:=
 if k=1∨k=2∨k=5 then p9 s k d fb fa tb ta j
 else if k=3 then eD s d (aO fb fa s.rk) j
 else if k=4 then bO s fb fa tb ta
 else if k=6 then bB {s with d:=s.d+aU s fb fa} fb fa 0
 else if k=7 then{s with rk:=r}
 else wL s k d j
section
variable {tg:Nat→Nat}{a:bV}{s:aP}{D:Nat}{w:World}
theorem At.Bv {wb:World}{eP:Nat→Nat}{g:Nat}{v:Value}{m:Nat}(h:At wb eP g s w tg a)(hv:z8 w v m)(hf:∀q,v.ownBlock=some q→tg q=0∧wb.heap.size≤q):At wb eP g {s with d:=m} (w.setCell ⟨g,6,none⟩ v) (retag tg v 6) {a with D:=v}:=by
 obtain rfl:=h.g;exact⟨rfl,h.m.Bv (h.m.rest 6 fun _ _ _=>rfl) ql hv fun q hq=>.inl (hf q hq).1,h.fr ((Fr.refl w _).set (by unfold fZ;rw[h.m.tm];omega) _),fun q hq=>by
  unfold retag at hq
  split at hq
  ·exact .inr (hf q ‹_›).2
  ·exact h.t q hq⟩
theorem je (bo o:Nat)(d fb fa tb ta c r:Int)(H:Mem tg a s w)(hs:d8 s D)(hD:D≤1000000)(ho:kO bo o 6 d fb fa tb ta c r w)(cQ:tg bo=0)(ha0:0≤fa)(ha1:fa<s.W):
 Calls Tryz.prog 86 #[.pointer (some ⟨a.g,0,none⟩),.pointer (some ⟨bo,o,none⟩)] w (xL w tg a.g (if aU s fb fa=0 then 7 else 0) (bB {s with d:=s.d+aU s fb fa} fb fa 0)):=by
 obtain⟨nf,hnf⟩:=qx (aU s fb fa);have lT:nf≤4:=by rw[hnf];exact cY hs ha0 ha1
 have hlf:bR w (lR a fb fa) nf:=by rw[hnf];exact H.nP ha0 ha1
 obtain⟨Af,cf,hvf⟩:=hlf.form;rw[←hnf];obtain⟨code,hcode⟩:∃c,c=(if nf=0 then(7:Int)else 0):=⟨_,rfl⟩;rw[←hcode];have HC:=qh hcode;clear hcode;have lF:=qh hvf;have jS:=qh hnf;have HA:=qh (At.start H);have HO:=qh ho;have o0:=ho.c0;have o2:=ho.c2;have o3:=ho.c3;have hdb:=hs.db;clear hvf hnf hlf H ho hs
 go_enter Tryz.func86,Tryz.ntmps86
 go_wp2_with fail
 refine(xX fb fa w HA.o.m ha0 ha1).mono ?_;rintro e w1 ⟨rfl,hb1⟩;rw[lF.o];have HA1:=qh (HA.o.below hb1);clear hb1;have k2:=(HA1.o.op HO.o cQ).1.c2;have k3:=(HA1.o.op HO.o cQ).1.c3;clear o0 o2 o3
 by_cases h0:nf=0
 ·subst h0
  go_wp2_with fail
  go_ret
  exact⟨by rw[HC.o];rfl,HA1.o.f,fun h=>by rw[HC.o]at h;simp at h⟩
 ·have h0':((nf:Int)==0)=false:=by simp;omega
  have pR:=qh (show code=0 by rw[HC.o,if_neg h0]);clear k2 k3 HC
  go_wp2_with fail
  go_loopw [6] (fun iv wr=>∃i Gd ar,i≤nf∧iv=.int .i64 i∧At w tg a.g {s with d:=s.d+i} wr Gd ar∧ar.F=a.F∧ar.K=a.K) (fun iv _=>nf-(intOf iv).toNat)
  case atStart=>exact⟨0,tg,a,Nat.zero_le _,rfl,HA1.o,rfl,rfl⟩
  case round=>
   obtain⟨i,Gd,ar,hi,rfl,hat,hF,hK⟩:=hrel;have DO:=qh hat;have HF:=qh hF;have HK:=qh hK;clear hat hF hK
   by_cases hlt:i<nf
   ·have hl:bR wr (.slice Af nf cf) nf:=by
     have h:=DO.o.m.nP (b:=fb) ha0 ha1;have e1:lR ar fb fa=lR a fb fa:=by unfold lR;rw[HF.o,HK.o]
     have e2:aU ({s with d:=s.d+i}:aP) fb fa=nf:=jS.o.symm;rw[e1,e2,lF.o]at h;exact h
    obtain⟨A9,c9,ys,Jy,hrd⟩:=hl.rd;injection Jy with e1 e2 e3;subst e1 e3;clear e2 hl;obtain⟨gl,ol,rfl,hgl,hra⟩:=hrd qo;have kl:=hra i hlt;obtain⟨y,hy⟩:=qx (ys.getD i 0)
    simp only[←hy]at kl
    obtain⟨qd,sw,hld⟩:=DO.o.m.d;obtain⟨AD,cD,PG⟩:=hld.form;have m6:wr.cell? ⟨a.g,6,none⟩=some (.slice AD qd cD):=by
     have h:=DO.o.m.m.cell 6;rw[DO.o.g]at h;exact h.trans (by rw[←PG];rfl)
    rw[PG]at hld;have HLD:=qh hld;have HQD:Hq (qd≤s.d+i):=qh sw;have hqD:qd≤1048576:=by have h:qd≤s.d+i:=sw;omega
    clear hrd hra hy hld sw PG
    go_wp2_with fail
    refine aY (S:=fun w'=>w'.cell? ⟨a.g,6,none⟩=some (.slice AD qd cD)∧w'.cell? ⟨gl,ol+i,none⟩=some (.int .i64 y)) _ qj qk qk ⟨m6,kl⟩ (fun hHeld=>?_)
    simp only[List.dropLast,List.getLast_cons_cons,List.getLast_singleton,List.length_cons,List.length_nil]
    refine qt 0 hHeld ?_
    simp only[List.getElem_toArray,List.getElem_cons_zero,Act.put,List.setIfInBounds_toArray,List.set_cons_zero,List.set_cons_succ]
    refine qt 1 hHeld ?_;refine qt 2 hHeld ?_;refine qt 3 hHeld ?_;refine qt 4 hHeld ?_;refine qt 5 hHeld ?_;refine qt 6 hHeld ?_;refine qt 7 hHeld ?_;refine qt 8 hHeld ?_
    simp only[List.getElem_toArray,List.getElem_cons_succ,List.getElem_cons_zero,Act.put,List.setIfInBounds_toArray,List.set_cons_zero,List.set_cons_succ]
    refine wpAnyH_ready (rs:=[9]) qk qj ?_;refine AllReadyH.cons rfl (fun K hK=>?_) AllReadyH.nil
    simp only[List.getElem_toArray,List.getElem_cons_succ,List.getElem_cons_zero]
    go_simp
    refine(Dj _ qd y wr.drew (HLD.o.blk fun _ _=>rfl) hqD).mono ?_;rintro e w2 ⟨q2,hq2,v2,rfl,hl2,hn2,hb2⟩;obtain⟨A2,c2,rfl⟩:=hl2.form;have HB2:Hq (Below wr.heap.size wr w2):=qh (((Below.refl wr.heap.size wr).drew).trans hb2);have k6:=((aC HB2.o).1 a.g 6 (World.block_lt_of_cell? wr _ m6)).trans m6;have kl2:=((aC HB2.o).1 gl (ol+i) hgl).trans kl;have HA2:=qh (DO.o.below HB2.o);have f6:w2.frozen? ⟨a.g,6,none⟩=false:=by
     have h:=HA2.o.m.m.frozen 6;rw[HA2.o.g]at h;exact h
    have HAS:Hq (At w tg a.g {s with d:=s.d+(i+1)} (w2.setCell ⟨a.g,6,none⟩ (.slice A2 q2 c2)) (retag Gd (.slice A2 q2 c2) 6) {ar with D:=.slice A2 q2 c2}):=qh (by
     exact HA2.o.Bv (m:=s.d+(i+1)) ⟨q2,by have h1:=HQD.o;omega,hl2⟩ (fun q hq=>⟨Decidable.byContradiction fun hn=>Nat.lt_irrefl _ (Nat.lt_of_lt_of_le (DO.o.m.lt q hn) (hn2 q hq)),Nat.le_trans DO.o.f.size (hn2 q hq)⟩))
    clear hb2 hl2 hn2 m6 kl hgl;refine hK.out _ _ ⟨k6,kl2⟩ (fun bT=>?_);clear hK K hHeld;refine qt 10 bT ?_;refine qt 11 bT ?_
    simp only[List.getElem_toArray,List.getElem_cons_succ,List.getElem_cons_zero,Act.put,List.setIfInBounds_toArray,List.set_cons_zero,List.set_cons_succ]
    refine wpAnyH_done qk ?_ _;refine bZ.of ?_
    go_simp
    clear bT k6 kl2 f6
    go_wp2_with fail
    go_roundw
    case rel=>exact⟨i+1,_,_,by omega,qg,HAS.o,HF.o,HK.o⟩
    case measure=>exact qs
   ·obtain rfl:nf=i:=qo
    have k2:=(DO.o.op HO.o cQ).1.c2;have k3:=(DO.o.op HO.o cQ).1.c3
    go_wp2_with fail
    have oH:Below wr.heap.size wr (wr.alloc (.cells #[] 2)):=qb;have tX:=mI fb fa (.slice (some ⟨wr.heap.size,0,none⟩) 0 0) _ (DO.o.below oH).m ha0 ha1 ⟨_,_,_,rfl⟩;rw[DO.o.g]at tX;refine tX.mono ?_;rintro e w9 ⟨rfl,iJ⟩;obtain⟨xM,a2,fI⟩:=(DO.o.below oH).put (m:=0) ha0 ha1 ⟨[],World.ownsRow_made wr #[] 0 (Nat.zero_le _) qm rfl⟩ (fun q hq=>by
     injection hq with hq;subst hq;exact⟨Decidable.byContradiction fun hn=>Nat.lt_irrefl _ (DO.o.m.lt _ hn),DO.o.f.size⟩) iJ
    have HA2:=qh fI;clear fI iJ tX oH k2 k3
    go_wp2_with fail
    go_ret
    exact⟨by rw[pR.o];rfl,HA2.o.f,fun _=>HA2.o.moved⟩
end
end Go.Proofs.YtimlpmbabbbcaaaGreat
namespace Go.Proofs.YtimlpmbabbbcaaaGreat
open Go.RowKit
section
variable {tg:Nat→Nat}{a:bV}{s:aP}{D:Nat}{w:World}
theorem zP12x1 {p:Prop}(h:p:=by
 go_enter Tryz.func86,Tryz.ntmps86
 go_wp2_with fail
 refine HF.o.mono ?_;rintro e w1 ⟨rfl,h1,h2⟩;have HR:=qh (And.intro h1 h2);clear h1 h2
 go_wp2_with fail
 go_ret
 exact⟨rfl,HR.o.1,HR.o.2⟩):p:=h
theorem Di (bo o:Nat)(k d fb fa tb ta r:Int)(j:Nat)(H:Mem tg a s w)(hs:d8 s D)(ho:kO bo o k d fb fa tb ta ((j:Int)+1) r w)(cQ:tg bo=0)(hk:k=1∨k=2∨k=5)(hj:j<4)(hd:d=1∨d= -1)(ha0:0≤fa)(ha1:fa<s.W)(gB:0≤ta)(iY:ta<s.W):
 Calls Tryz.prog 86 #[.pointer (some ⟨a.g,0,none⟩),.pointer (some ⟨bo,o,none⟩)] w (xL w tg a.g (fQ s k d fb fa tb ta j) (p9 s k d fb fa tb ta j)):=by
 have hform:=jc bo o k d fb fa tb ta r j H hs ho cQ hk hj hd ha0 ha1 gB iY;obtain⟨code,hcode⟩:=qx (fQ s k d fb fa tb ta j);obtain⟨s',hs'⟩:∃c,c=p9 s k d fb fa tb ta j:=⟨_,rfl⟩;rw[←hcode,←hs']at hform ⊢;have HF:=qh hform;have o0:=ho.c0;clear hform hcode hs' ho H hs
 rcases hk with rfl|rfl|rfl
 all_goals
  exact zP12x1
theorem Dh (bo o:Nat)(d fb fa tb ta r:Int)(j:Nat)(H:Mem tg a s w)(hs:d8 s D)(ho:kO bo o 3 d fb fa tb ta ((j:Int)+1) r w)(cQ:tg bo=0)(hj:j<4)(hd:d=1∨d= -1)(ha0:0≤fa)(ha1:fa<s.W):
 Calls Tryz.prog 86 #[.pointer (some ⟨a.g,0,none⟩),.pointer (some ⟨bo,o,none⟩)] w (xL w tg a.g (if fR s d (aO fb fa s.rk) j=true then 0 else 9) (eD s d (aO fb fa s.rk) j)):=by
 have hw2:=hs.w2;have hcar:=JC bo o 3 d fb fa tb ta r j H hs ho cQ hj hd ha0 qo;obtain⟨b,hb⟩:=qx (fR s d (aO fb fa s.rk) j);obtain⟨s',hs'⟩:∃c,c=eD s d (aO fb fa s.rk) j:=⟨_,rfl⟩;rw[←hb,←hs']at hcar ⊢;have HF:=qh hcar;have o0:=ho.c0;clear hcar hb hs' ho H hs
 cases b
 ·obtain⟨code,hcode⟩:∃c,c=(if false=true then(0:Int)else 9):=⟨_,rfl⟩
  rw[←hcode];have HC:=qh hcode;clear hcode
  go_enter Tryz.func86,Tryz.ntmps86
  go_wp2_with fail
  refine HF.o.mono ?_;rintro e w1 ⟨rfl,h1,h2⟩;have HR:=qh h1;clear h1 h2
  go_wp2_with fail
  go_ret
  exact⟨by rw[HC.o];rfl,HR.o,fun h=>by rw[HC.o]at h;simp at h⟩
 ·obtain⟨code,hcode⟩:∃c,c=(if true=true then(0:Int)else 9):=⟨_,rfl⟩
  rw[←hcode];have HC:=qh hcode;clear hcode
  go_enter Tryz.func86,Tryz.ntmps86
  go_wp2_with fail
  refine HF.o.mono ?_;rintro e w1 ⟨rfl,h1,h2⟩;have HR:=qh (And.intro h1 (h2 rfl));clear h1 h2
  go_wp2_with fail
  go_ret
  exact⟨by rw[HC.o];rfl,HR.o.1,fun _=>HR.o.2⟩
theorem Dg (bo o:Nat)(d fb fa tb ta c r:Int)(H:Mem tg a s w)(hs:d8 s D)(ho:kO bo o 4 d fb fa tb ta c r w)(cQ:tg bo=0)(ha0:0≤fa)(ha1:fa<s.W)(gB:0≤ta)(iY:ta<s.W):
 Calls Tryz.prog 86 #[.pointer (some ⟨a.g,0,none⟩),.pointer (some ⟨bo,o,none⟩)] w (xL w tg a.g (fO s fb fa tb ta) (bO s fb fa tb ta)):=by
 have hform:=LX bo o 4 d fb fa tb ta c r H hs ho cQ ha0 ha1 gB iY;obtain⟨code,hcode⟩:=qx (fO s fb fa tb ta);obtain⟨s',hs'⟩:∃c,c=bO s fb fa tb ta:=⟨_,rfl⟩;rw[←hcode,←hs']at hform ⊢;have HF:=qh hform;have o0:=ho.c0;clear hform hcode hs' ho H hs
 exact zP12x1
theorem Qd (bo o:Nat)(k d fb fa tb ta r:Int)(j:Nat)(H:Mem tg a s w)(hs:d8 s D)(ho:kO bo o k d fb fa tb ta ((j:Int)+1) r w)(cQ:tg bo=0)(hk:k=8∧(d=1∨d= -1)∨k=9)(hj:j<4):
 Calls Tryz.prog 86 #[.pointer (some ⟨a.g,0,none⟩),.pointer (some ⟨bo,o,none⟩)] w (xL w tg a.g (mM s k j) (wL s k d j)):=by
 have hform:=Iw bo o k d fb fa tb ta r j H hs ho cQ hk hj;obtain⟨code,hcode⟩:=qx (mM s k j);obtain⟨s',hs'⟩:∃c,c=wL s k d j:=⟨_,rfl⟩;rw[←hcode,←hs']at hform ⊢;have HF:=qh hform;have o0:=ho.c0;clear hform hcode hs' ho H hs;have hk':k=8∨k=9:=qo;clear hk
 rcases hk' with rfl|rfl
 all_goals
  exact zP12x1
theorem Df (bo o:Nat)(d fb fa tb ta c r:Int)(H:Mem tg a s w)(ho:kO bo o 7 d fb fa tb ta c r w):
 Calls Tryz.prog 86 #[.pointer (some ⟨a.g,0,none⟩),.pointer (some ⟨bo,o,none⟩)] w (xL w tg a.g 0 {s with rk:=r}):=by
 have HA:=qh ((At.start H).sR r);have m1:w.cell? ⟨a.g,1,none⟩=some (.int .i64 s.rk):=H.m.cell 1;have f1:w.frozen? ⟨a.g,1,none⟩=false:=H.m.frozen 1;have o0:=ho.c0;have o7:=ho.c7;clear H ho
 go_enter Tryz.func86,Tryz.ntmps86
 go_wp2_with fail
 go_ret
 exact⟨rfl,HA.o.f,fun _=>HA.o.moved⟩
theorem Iy (bo o:Nat){k d fb fa tb ta c r:Int}{j:Nat}(H:Mem tg a s w)(hs:d8 s D)(hD:D≤1000000)(ho:kO bo o k d fb fa tb ta c r w)(cQ:tg bo=0)(hp:gZ s.W k d fb fa tb ta c r j):
 Calls Tryz.prog 86 #[.pointer (some ⟨a.g,0,none⟩),.pointer (some ⟨bo,o,none⟩)] w (xL w tg a.g (bJ s k d fb fa tb ta j) (eM s k d fb fa tb ta r j)):=by
 have h1:=hp.k1;have h9:=hp.k9;unfold bJ eM
 by_cases hk:k=1∨k=2∨k=5
 ·rw[if_pos hk,if_pos hk]
  obtain⟨rfl,hj⟩:=hp.mP qo qo qo;exact Di bo o k d fb fa tb ta r j H hs ho cQ hk hj (hp.dir qo qo qo qo) hp.f0 hp.f1 hp.t0 hp.t1
 ·rw[if_neg hk,if_neg hk]
  by_cases h3:k=3
  ·subst h3
   rw[if_pos rfl,if_pos rfl];obtain⟨rfl,hj⟩:=hp.mP qo qo qo;exact Dh bo o d fb fa tb ta r j H hs ho cQ hj (hp.dir qo qo qo qo) hp.f0 hp.f1
  ·rw[if_neg h3,if_neg h3]
   by_cases h4:k=4
   ·subst h4
    rw[if_pos rfl,if_pos rfl];exact Dg bo o d fb fa tb ta c r H hs ho cQ hp.f0 hp.f1 hp.t0 hp.t1
   ·rw[if_neg h4,if_neg h4]
    by_cases h6:k=6
    ·subst h6
     rw[if_pos rfl,if_pos rfl];exact je bo o d fb fa tb ta c r H hs hD ho cQ hp.f0 hp.f1
    ·rw[if_neg h6,if_neg h6]
     by_cases h7:k=7
     ·subst h7
      rw[if_pos rfl,if_pos rfl];exact Df bo o d fb fa tb ta c r H ho
     ·rw[if_neg h7,if_neg h7]
      obtain⟨rfl,hj⟩:=hp.mP h4 h6 h7;refine Qd bo o k d fb fa tb ta r j H hs ho cQ ?_ hj
      by_cases h8:k=8
      ·exact .inl ⟨h8,hp.dir h4 h6 h7 qo⟩
      ·exact .inr qo
end
end Go.Proofs.YtimlpmbabbbcaaaGreat
namespace Go.Proofs.YtimlpmbabbbcaaaGreat
open Go.RowKit
theorem aat {W:Nat}{k d fb fa tb ta c r:Int}(_hW:1≤W)(h:(bD k d fb fa tb ta c r&&(decide (fa<(W:Int))&&decide (ta<(W:Int))))=true):gZ W k d fb fa tb ta c r (c-1).toNat:=by
 unfold bD gQ nB aJ at h
 split at h
 ·simp only[Bool.and_eq_true,decide_eq_true_eq,beq_iff_eq]at h
  refine⟨?_,?_,?_,?_,?_,?_,?_,?_,?_,?_⟩<;>omega
 split at h
 ·simp only[Bool.and_eq_true,decide_eq_true_eq,beq_iff_eq]at h
  refine⟨?_,?_,?_,?_,?_,?_,?_,?_,?_,?_⟩<;>omega
 split at h
 ·simp only[Bool.and_eq_true,decide_eq_true_eq,beq_iff_eq]at h
  refine⟨?_,?_,?_,?_,?_,?_,?_,?_,?_,?_⟩<;>omega
 split at h
 ·simp only[Bool.and_eq_true,decide_eq_true_eq,beq_iff_eq]at h
  refine⟨?_,?_,?_,?_,?_,?_,?_,?_,?_,?_⟩<;>omega
 split at h
 ·simp only[Bool.and_eq_true,decide_eq_true_eq,beq_iff_eq]at h
  refine⟨?_,?_,?_,?_,?_,?_,?_,?_,?_,?_⟩<;>omega
 split at h
 ·simp only[Bool.and_eq_true,decide_eq_true_eq,beq_iff_eq]at h
  refine⟨?_,?_,?_,?_,?_,?_,?_,?_,?_,?_⟩<;>omega
 split at h
 ·simp only[Bool.and_eq_true,decide_eq_true_eq,beq_iff_eq]at h
  refine⟨?_,?_,?_,?_,?_,?_,?_,?_,?_,?_⟩<;>omega
 ·simp at h
def kC (s:aP)(z:Nat→Int)(i:Nat):Int:=bJ s (z (i*8)) (z (i*8+1)) (z (i*8+2)) (z (i*8+3)) (z (i*8+4)) (z (i*8+5)) (z (i*8+6)-1).toNat
def kS (s:aP)(z:Nat→Int)(i:Nat):aP:=eM s (z (i*8)) (z (i*8+1)) (z (i*8+2)) (z (i*8+3)) (z (i*8+4)) (z (i*8+5)) (z (i*8+7)) (z (i*8+6)-1).toNat
def pX (W:Nat):aP:=⟨W,0,fun _=>0,fun _=>0,fun _=>false,fun _=>0,0,0⟩
def fA (W:Nat)(z:Nat→Int):Nat→aP
 |0=>pX W
 |i+1=>kS (fA W z i) z i
theorem Yp {W:Nat}(h1:1≤W)(h2:W≤24):d8 (pX W) 0:=
 ⟨h1,h2,by show(-3:Int)≤0;omega,by show(0:Int)≤3;omega,fun _ _=>Nat.zero_le _,fun _ _=>Nat.zero_le _,fun _ _=>by show(-3:Int)≤0∧(0:Int)≤30;omega,Nat.zero_le _,Nat.le_refl _⟩
theorem qP {s:aP}{D:Nat}(hs:d8 s D)(b x:Int){m:Nat}(hm:m≤4):d8 (bB s b x m) D:=by
 unfold bB
 split
 ·exact⟨hs.w1,hs.w2,hs.r1,hs.r2,fun i hi=>by show(if i=x.toNat then m else s.f i)≤4;split;exact hm;exact hs.fb i hi,hs.kb,hs.ca,hs.nb,hs.db⟩
 ·exact⟨hs.w1,hs.w2,hs.r1,hs.r2,hs.fb,fun i hi=>by show(if i=x.toNat then m else s.k i)≤4;split;exact hm;exact hs.kb i hi,hs.ca,hs.nb,hs.db⟩
theorem RB {s:aP}{D:Nat}(hs:d8 s D)(hn:s.n<300):d8 (more s) D:=⟨hs.w1,hs.w2,hs.r1,hs.r2,hs.fb,hs.kb,hs.ca,hn,hs.db⟩
theorem d8.le {s:aP}{D D':Nat}(hs:d8 s D)(h:D≤D'):d8 s D':=⟨hs.w1,hs.w2,hs.r1,hs.r2,hs.fb,hs.kb,hs.ca,hs.nb,Nat.le_trans hs.db h⟩
theorem abH (s:aP)(k d fb fa tb ta r:Int)(j:Nat):(eM s k d fb fa tb ta r j).W=s.W:=by
 unfold eM p9
 split
 ·split
  ·rw[j3];rfl
  ·split
   ·rw[j3];rfl
   ·rw[j3];exact BA _ _ _ _ _
 split
 ·rfl
 split
 ·exact BA _ _ _ _ _
 split
 ·rw[j3]
 split<;>rfl
theorem Zg {s:aP}{D:Nat}(hs:d8 s D){k d fb fa tb ta c r:Int}{j:Nat}(hp:gZ s.W k d fb fa tb ta c r j)(h:bJ s k d fb fa tb ta j=0):d8 (eM s k d fb fa tb ta r j) (D+4):=by
 have hw2:=hs.w2;have hf1:=hp.f1;have hxb:=j4 (b:=fb) hp.f0 (show fa≤23 by omega) hs.r1 hs.r2;have hcs:=PV (d:=d) (j:=j) hs hxb.1 hxb.2;have h4f:=cY (b:=fb) hs hp.f0 hp.f1;have h4t:=cY (b:=tb) hs hp.t0 hp.t1;have Vx:∀{s':aP},d8 s' D→fO s' fb fa tb ta=0→d8 (bO s' fb fa tb ta) D:=fun{s'} hs' hm=>by
  unfold fO at hm;unfold bO;refine qP (qP hs' _ _ ?_) _ _ (Nat.zero_le _)
  split at hm
  ·split at hm
   ·omega
   ·split at hm<;>omega
  ·omega
 unfold bJ at h;unfold eM
 by_cases hk:k=1∨k=2∨k=5
 ·rw[if_pos hk]at h ⊢
  unfold fQ at h;unfold p9;have hcb:fR s d (aO fb fa s.rk) j=true:=Decidable.byContradiction fun hc=>by
   rw[if_neg hc]at h;omega
  rw[if_pos hcb]at h;have hn:s.n<300:=by
   rcases Nat.lt_or_ge s.n 300 with h'|h'
   ·exact h'
   ·rw[if_pos h']at h
    omega
  rw[if_neg qo]at h
  by_cases h1:k=1
  ·rw[if_pos h1]
   exact(qP (RB hcs hn) _ _ qo).le qo
  ·rw[if_neg h1]at h ⊢
   by_cases h2:k=2
   ·rw[if_pos h2]at h ⊢
    refine(qP (RB hcs hn) _ _ ?_).le qo
    split at h<;>omega
   ·rw[if_neg h2]at h ⊢
    have hm:=Vx hcs h;refine(qP (RB hm ?_) _ _ qo).le qo;rw[N3];exact hn
 ·rw[if_neg hk]at h ⊢
  split
  ·exact hcs.le qo
  split
  ·rename_i h3 h4
   rw[if_neg h3,if_pos h4]at h;exact(Vx hs h).le qo
  split
  ·exact qP (s:={s with d:=s.d+aU s fb fa}) (D:=D+4) ⟨hs.w1,hs.w2,hs.r1,hs.r2,hs.fb,hs.kb,hs.ca,hs.nb,by show s.d+aU s fb fa≤D+4;have:=hs.db;omega⟩ _ _ (Nat.zero_le _)
  split
  ·exact⟨hs.w1,hs.w2,hp.r0,hp.r1,hs.fb,hs.kb,hs.ca,hs.nb,by show s.d≤D+4;have:=hs.db;omega⟩
  ·refine⟨hs.w1,hs.w2,hs.r1,hs.r2,hs.fb,hs.kb,fun q hq=>?_,hs.nb,by show s.d≤D+4;have:=hs.db;omega⟩
   show-3≤(if q=j then(if k=8 then(if d= -1 then(s.W:Int)+3 else-3)else 0)else s.cat q)∧(if q=j then(if k=8 then(if d= -1 then(s.W:Int)+3 else-3)else 0)else s.cat q)≤30;have:=hs.ca q hq
   split
   ·split
    ·split<;>omega
    ·omega
   ·exact this
theorem V0 (W:Nat)(z:Nat→Int)(i:Nat):(fA W z i).W=W:=by
 induction i with
 |zero=>rfl
 |succ i ih=>exact(abH _ _ _ _ _ _ _ _ _).trans ih
theorem R7 {W:Nat}{z:Nat→Int}{i:Nat}(hW:1≤W)(h:xS W z i=true):gZ W (z (i*8)) (z (i*8+1)) (z (i*8+2)) (z (i*8+3)) (z (i*8+4)) (z (i*8+5)) (z (i*8+6)) (z (i*8+7)) (z (i*8+6)-1).toNat:=aat hW h
theorem W7 {W:Nat}{z:Nat→Int}(h1:1≤W)(h2:W≤24)(n:Nat)(hp:∀i,i<n→xS W z i=true)(hc:∀i,i<n→kC (fA W z i) z i=0):d8 (fA W z n) (4*n):=by
 induction n with
 |zero=>exact Yp h1 h2
 |succ n ih=>
  have h:=ih (fun i hi=>hp i qo) (fun i hi=>hc i qo);have ho:=R7 h1 (hp n qo);rw[show 4*(n+1)=4*n+4 by omega];exact Zg h (by rw[V0];exact ho) (hc n qo)
def Pq (W:Nat)(z:Nat→Int)(k:Nat):Prop:=∀i,i<k→kC (fA W z i) z i=0
def Gn (W:Nat)(z:Nat→Int):Nat→Nat→Option (Nat×Int)
 |_,0=>none
 |i,m+1=>if kC (fA W z i) z i=0 then Gn W z (i+1) m else some (i,kC (fA W z i) z i)
def aff (W:Nat)(z:Nat→Int)(n:Nat):Int:=((Gn W z 0 n).map (·.2)).getD 0
theorem Ie {W:Nat}{z:Nat→Int}{i:Nat}(h:Pq W z i)(hc:kC (fA W z i) z i=0):Pq W z (i+1):=fun q hq=>by
 by_cases hqi:q=i
 ·subst hqi;exact hc
 ·exact h q qo
end Go.Proofs.YtimlpmbabbbcaaaGreat
