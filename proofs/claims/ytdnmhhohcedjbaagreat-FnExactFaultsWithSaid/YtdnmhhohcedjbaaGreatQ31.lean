/- Walks and plain lemmas. -/
import Derived.Test.YtdnmhhohcedjbaaGreatQ30
import Derived.Test.YtdnmhhohcedjbaaGreatQ27
import Derived.Test.YtdnmhhohcedjbaaGreatQ29
set_option linter.unusedVariables false
set_option linter.unusedSimpArgs false
set_option maxHeartbeats 4000000
set_option maxRecDepth 20000
namespace Go.Proofs.YtdnmhhohcedjbaaGreat
open Go.RowKit
theorem JZ {W:Nat}{z:Nat→Int}{i:Nat}(h:dR W z i=true):rI (z (i*8)) (z (i*8+2)):=by
 intro hk;unfold dR at h;generalize z (i*8)=k at*;generalize z (i*8+1)=d at*;generalize z (i*8+2)=fb at*;generalize z (i*8+3)=fa at*;generalize z (i*8+4)=tb at*;generalize z (i*8+5)=ta at*;generalize z (i*8+6)=c at*;generalize z (i*8+7)=r at*;unfold aW kA kG aK at h
 split at h
 ·simp only[Bool.and_eq_true,decide_eq_true_eq,beq_iff_eq]at h;omega
 split at h
 ·simp only[Bool.and_eq_true,decide_eq_true_eq,beq_iff_eq]at h;omega
 split at h
 ·simp only[Bool.and_eq_true,decide_eq_true_eq,beq_iff_eq]at h;omega
 split at h
 ·simp only[Bool.and_eq_true,decide_eq_true_eq,beq_iff_eq]at h;omega
 ·omega
section
variable {tg:Nat→Nat}{a:bC}{s:aI}{D:Nat}{w:World}
theorem D3 {k d fb fa tb ta c r:Int}{j:Nat}(H:Mem tg a s w)(hs:bW s D)(hD:D≤1000000)(hp:fP s.W k d fb fa tb ta c r j)(hb:nA k fb tb)(hf:rI k fb):
 Calls Tryz.prog 100 #[.pointer (some ⟨a.g,0,none⟩),.agg #[.int .i64 k,.int .i64 d,.int .i64 fb,.int .i64 fa,.int .i64 tb,.int .i64 ta,.int .i64 c,.int .i64 r]] w (LC w tg a.g (aX s k d fb fa tb ta j) (cV s k d fb fa tb ta r j)):=by
 have hk:k=1∨k=2∨k=3∨k=4∨k=5∨k=6∨k=7∨k=8∨k=9:=by have:=hp.k1;have:=hp.k9;omega
 rcases hk with rfl|rfl|rfl|rfl|rfl|rfl|rfl|rfl|rfl
 ·exact Nh H hs hD hp hb hf
 ·exact Ng H hs hD hp hb hf
 ·exact Nf H hs hD hp hb hf
 ·exact Nc H hs hD hp hb hf
 ·exact Nb H hs hD hp hb hf
 ·exact Na H hs hD hp hb hf
 ·exact Mx H hs hD hp hb hf
 ·exact Mw H hs hD hp hb hf
 ·exact Mv H hs hD hp hb hf
end
theorem Mem.seven {tg:Nat→Nat}{a:bC}{s:aI}{w:World}(H:Mem tg a s w):∃AL cL AD qD cD,dM a s=#[.int .i64 s.W,.int .i64 s.rk,.slice (some ⟨a.gf,0,none⟩) s.W a.cf,.slice (some ⟨a.gk,0,none⟩) s.W a.ck,.slice (some ⟨a.gc,0,none⟩) 4 a.cc,.slice AL s.n cL,.slice AD qD cD]∧
 w.cell? ⟨a.g,0,none⟩=some (.int .i64 s.W)∧w.cell? ⟨a.g,1,none⟩=some (.int .i64 s.rk)∧w.cell? ⟨a.g,2,none⟩=some (.slice (some ⟨a.gf,0,none⟩) s.W a.cf)∧w.cell? ⟨a.g,3,none⟩=some (.slice (some ⟨a.gk,0,none⟩) s.W a.ck)∧w.cell? ⟨a.g,4,none⟩=some (.slice (some ⟨a.gc,0,none⟩) 4 a.cc)∧w.cell? ⟨a.g,5,none⟩=some (.slice AL s.n cL)∧w.cell? ⟨a.g,6,none⟩=some (.slice AD qD cD):=by
 obtain⟨xs,hx,_⟩:=H.l;obtain⟨AL,cL,hL⟩:=aF hx;obtain⟨q,_,xd,hd⟩:=H.d;obtain⟨AD,cD,hD⟩:=aF hd;refine⟨AL,cL,AD,q,cD,by unfold dM;rw[hL,hD],H.m.cell 0,H.m.cell 1,H.m.cell 2,H.m.cell 3,H.m.cell 4,(H.m.cell 5).trans (by rw[←hL];rfl),(H.m.cell 6).trans (by rw[←hD];rfl)⟩
theorem fI.abC {B:Nat}{v:Value}{s:aI}{w:World}(h:fI B v s w)(g:Nat)(hg:g<B)(u0 u1 u2 u3 u4 u5 u6:Value):fI B v s (((((((w.setCell ⟨g,0,none⟩ u0).setCell ⟨g,1,none⟩ u1).setCell ⟨g,2,none⟩ u2).setCell ⟨g,3,none⟩ u3).setCell ⟨g,4,none⟩ u4).setCell ⟨g,5,none⟩ u5).setCell ⟨g,6,none⟩ u6):=
 ((((((h.set g _ _ hg).set g _ _ hg).set g _ _ hg).set g _ _ hg).set g _ _ hg).set g _ _ hg).set g _ _ hg
theorem yN {B:Nat}{w w0:World}(h:Below B w0 w)(g:Nat)(hg:B≤g)(u0 u1 u2 u3 u4 u5 u6:Value):Below B w0 (((((((w.setCell ⟨g,0,none⟩ u0).setCell ⟨g,1,none⟩ u1).setCell ⟨g,2,none⟩ u2).setCell ⟨g,3,none⟩ u3).setCell ⟨g,4,none⟩ u4).setCell ⟨g,5,none⟩ u5).setCell ⟨g,6,none⟩ u6):=
 ((((((h.setCell hg _).setCell hg _).setCell hg _).setCell hg _).setCell hg _).setCell hg _).setCell hg _
def afG (w:World)(W:Nat)(z:Nat→Int)(n:Nat)(e:Ending)(w':World):Prop:=
 ∃i v,e=.returned (.tuple #[v,.int .i64 (i:Nat),.int .i64 (xJ W z n)])∧i≤n∧mV W z i∧(xJ W z n=0→i=n)∧fI w.heap.size v (bB W z i) w'∧Below w.heap.size w w'
theorem pz (W:Nat)(A:OA)(n q:Nat)(z:Nat→Int)(w:World)(ha:Rd w A (n*8) (fun j=>.int .i64 (z j)))(hW1:1≤W)(hW2:W≤24)(hn:n≤1500)(hops:∀i,i<n→dR W z i=true):
 Calls Tryz.prog 96 #[.int .i64 W,.slice A n q] w (afG w W z n):=by
 have HB0:=qh ((Below.refl w.heap.size w).alloc ql (.cells e9 58));have HA:=qh (ha.below HB0.o);have dT:=qh hops;clear ha hops
 go_enter Tryz.func96,Tryz.ntmps96
 go_wp2_with fail
 refine(DJ W _ hW2).mono ?_;rintro e w2 ⟨v,rfl,⟨iM,⟨g0,gf,cf,gk,ck,gc,cc,F0,K0,L0,D0⟩,rfl,hlo,gK,⟨⟨AL,nL,cL,hL⟩,⟨AD,nD,cD,hD⟩⟩,hmk⟩,hb2⟩;obtain rfl:L0=_:=hL;obtain rfl:D0=_:=hD;have HB2:Hq (Below (w.alloc (.cells e9 58)).heap.size (w.alloc (.cells e9 58)) w2):=qh hb2;have H0:Hq (Runs (w.alloc (.cells e9 58)) (eX iM w2.heap.size) ⟨w2.heap.size,gf,cf,gk,ck,gc,cc,F0,K0,.slice AL nL cL,.slice AD nD cD⟩ (bB W z 0) (w2.alloc (.cells (dM ⟨g0,gf,cf,gk,ck,gc,cc,F0,K0,.slice AL nL cL,.slice AD nD cD⟩ (jC W)) 58))):=qh ⟨hmk _ _ (Decidable.byContradiction fun hn=>Nat.lt_irrefl _ (gK _ hn)) (fun b hb=>Below.heap_alloc _ _ b (gK b hb)) qj (aB.at_ _ _ _ rfl),
  HB2.o.alloc HB2.o.size _,fun q hq=>by
   unfold eX at hq
   split at hq
   ·have:=HB2.o.size;omega
   ·exact hlo q hq⟩
 clear hlo gK hmk hb2;have hw2s:w.heap.size+1≤w2.heap.size:=by have:=HB2.o.size;simpa using this
 simp only[dM,jC]at H0 ⊢
 go_wp2_with fail
 go_loopw [15] (fun iv wr=>∃(i:Nat) (tg:Nat→Nat) (a:bC),i≤n∧iv=.int .i64 i∧a.g=w2.heap.size∧Runs (w.alloc (.cells e9 58)) tg a (bB W z i) wr∧mV W z i) (fun iv _=>n-(intOf iv).toNat)
 case atStart=>exact⟨0,_,_,Nat.zero_le _,rfl,rfl,H0.o,fun i hi=>by omega⟩
 case round=>
  obtain⟨i,tg,a,hile,rfl,hg,hr,hok⟩:=hrel;have HG:=qh hg;have HR:=qh hr;have iV:=qh hok;have xS:Hq (∀w',Runs (w.alloc (.cells e9 58)) tg a (bB W z i) w'→aB w' w.heap.size 58 e9):=qh fun w' h=>aB.below (aB.at_ w 58 e9 rfl) h.b qj;clear hg hr hok
  by_cases hlt:i<n
  ·have dC:=qh hlt
   obtain⟨ga,o,rfl,hga,hra⟩:=HA.o qo;have hce:=lR (hra.below hga HR.o.b) hlt;have hs:=zI hW1 hW2 i (fun q hq=>dT.o q qo) iV.o;have hp:=gC hW1 (dT.o i hlt);rw[←BU W z i]at hp;have hbd:=LW (dT.o i hlt);have bK:=JZ (dT.o i hlt);generalize hx0:z (i*8)=k at*;generalize hx1:z (i*8+1)=d at*;generalize hx2:z (i*8+2)=fb at*;generalize hx3:z (i*8+3)=fa at*;generalize hx4:z (i*8+4)=tb at*;generalize hx5:z (i*8+5)=ta at*;generalize hx6:z (i*8+6)=c at*;generalize hx7:z (i*8+7)=r at*;have HX0:=qh hx0;have dN:=qh hx1;have eI:=qh hx2;have CE:=qh hx3;have Om:=qh hx4;have Ol:=qh hx5;have IW:=qh hx6;have GA:=qh hx7;have HS:=qh hs;have HP:=qh hp;have BI:=qh hbd;have CM:=qh bK;have o0:=hce.c0;have o1:=hce.c1;have o2:=hce.c2;have o3:wr.cell? ⟨ga,o+i*8+3,none⟩=some (.int .i64 fa):=hce.c3;have o4:=hce.c4;have o5:wr.cell? ⟨ga,o+i*8+5,none⟩=some (.int .i64 ta):=hce.c5;have o6:=hce.c6;have o7:=hce.c7;clear hx0 hx1 hx2 hx3 hx4 hx5 hx6 hx7 hce hs hp hra hga hbd bK;have HR1:=qh (HR.o.below ((Below.refl wr.heap.size wr).alloc ql (.cells #[.int .i64 k,.int .i64 d,.int .i64 fb,.int .i64 fa,.int .i64 tb,.int .i64 ta,.int .i64 c,.int .i64 r] 67)));have hex:=D3 (D:=4*i) (k:=k) (d:=d) (fb:=fb) (fa:=fa) (tb:=tb) (ta:=ta) (c:=c) (r:=r) HR1.o.m HS.o qo HP.o BI.o CM.o;rw[HG.o]at hex;obtain⟨code,hcode⟩:=qx (aX (bB W z i) k d fb fa tb ta (c-1).toNat);rw[←hcode]at hex;have mQ:=qh hcode;have tA:=qh hex;clear hex hcode
   go_wp2_with fail
   refine tA.o.mono ?_;rintro e w6 ⟨rfl,nG,hm6⟩
   by_cases hc0:code=0
   ·obtain⟨RQ,a7,Lx,tI,_⟩:=HR1.o.step (by rw[HG.o];exact hm6 hc0)
    subst hc0;have pN:Hq (kC (bB W z i) z i=0):=qh (by unfold kC;rw[HX0.o,dN.o,eI.o,CE.o,Om.o,Ol.o,IW.o];exact mQ.o.symm);have l8:Hq (Runs (w.alloc (.cells e9 58)) RQ a7 (bB W z (i+1)) w6):=qh (by
     have e:cV (bB W z i) k d fb fa tb ta r (c-1).toNat=bB W z (i+1):=by
      show _=kS (bB W z i) z i;unfold kS;rw[HX0.o,dN.o,eI.o,CE.o,Om.o,Ol.o,IW.o,GA.o]
     rw[←e];exact tI)
    have ZR:Hq (a7.g=w2.heap.size):=qh (Lx.trans HG.o);clear hm6 nG Lx tI o0 o1 o2 o3 o4 o5 o6 o7
    go_wp2_with fail
    go_roundw
    case rel=>exact⟨i+1,RQ,a7,dC.o,qg,ZR.o,l8.o,I0 iV.o pN.o⟩
    case measure=>exact qs
   ·have pN:Hq (kC (bB W z i) z i=code):=qh (by unfold kC;rw[HX0.o,dN.o,eI.o,CE.o,Om.o,Ol.o,IW.o];exact mQ.o.symm)
    have TV:Hq (xJ W z n=code):=qh (by rw[GZ iV.o dC.o (by rw[pN.o];exact hc0),pN.o]);have mC:=qh (HR1.o.below (nG hc0));have hc1:(code==0)=false:=by simpa using hc0
    have jH:=qh hc0;clear hm6 nG hc0 o0 o1 o2 o3 o4 o5 o6 o7;have hres:=xS.o _ mC.o;have q0:=(show w6.cell? ⟨w.heap.size,0,none⟩=some (Value.int .i64 0)from hres.cell 0);have q1:=(show w6.cell? ⟨w.heap.size,1,none⟩=some (Value.int .i64 0)from hres.cell 1);have q2:=(show w6.cell? ⟨w.heap.size,2,none⟩=some (Value.slice none 0 0)from hres.cell 2);have q3:=(show w6.cell? ⟨w.heap.size,3,none⟩=some (Value.slice none 0 0)from hres.cell 3);have q4:=(show w6.cell? ⟨w.heap.size,4,none⟩=some (Value.slice none 0 0)from hres.cell 4);have q5:=(show w6.cell? ⟨w.heap.size,5,none⟩=some (Value.slice none 0 0)from hres.cell 5);have q6:=(show w6.cell? ⟨w.heap.size,6,none⟩=some (Value.slice none 0 0)from hres.cell 6);have f0:=fun o=>hres.frozen o;obtain⟨BL,dL,BD,qD,dD,hcm,m0,m1,m2,m3,m4,m5,m6⟩:=mC.o.m.seven;rw[HG.o]at m0 m1 m2 m3 m4 m5 m6;have HCM:=qh hcm;have mM:Hq (fI (w.heap.size+1) (.agg (dM a (bB W z i))) (bB W z i) w6):=qh (mC.o.m.makes fun b hb=>by have:=mC.o.lo b hb;simpa using this);have jA:Hq (Below w.heap.size w w6):=qh (((Below.refl w.heap.size w).alloc ql (.cells e9 58)).trans (mC.o.b.mono qj));rw[hcm]at mM;clear hres hcm
    go_wp2_with fail
    refine bodyPost_ret (v:=.tuple #[.agg #[.int .i64 (bB W z i).W,.int .i64 (bB W z i).rk,.slice (some ⟨a.gf,0,none⟩) (bB W z i).W a.cf,.slice (some ⟨a.gk,0,none⟩) (bB W z i).W a.ck,.slice (some ⟨a.gc,0,none⟩) 4 a.cc,.slice BL (bB W z i).n dL,.slice BD qD dD],.int .i64 (i:Nat),.int .i64 code]) (by simp[results,Tryz.results96,go_sem,q0,q1,q2,q3,q4,q5,q6]) rfl ?_;exact⟨i,_,by rw[TV.o],hile,iV.o,fun h=>absurd (TV.o.symm.trans h) jH.o,(mM.o.abC w.heap.size (Nat.lt_succ_self _) _ _ _ _ _ _ _).lower (Nat.le_succ _),yN jA.o _ ql _ _ _ _ _ _ _⟩
  ·obtain rfl:n=i:=qo
   have TV:Hq (xJ W z n=0):=qh (QE iV.o);have hres:=xS.o _ HR.o;have q0:=(show wr.cell? ⟨w.heap.size,0,none⟩=some (Value.int .i64 0)from hres.cell 0);have q1:=(show wr.cell? ⟨w.heap.size,1,none⟩=some (Value.int .i64 0)from hres.cell 1);have q2:=(show wr.cell? ⟨w.heap.size,2,none⟩=some (Value.slice none 0 0)from hres.cell 2);have q3:=(show wr.cell? ⟨w.heap.size,3,none⟩=some (Value.slice none 0 0)from hres.cell 3);have q4:=(show wr.cell? ⟨w.heap.size,4,none⟩=some (Value.slice none 0 0)from hres.cell 4);have q5:=(show wr.cell? ⟨w.heap.size,5,none⟩=some (Value.slice none 0 0)from hres.cell 5);have q6:=(show wr.cell? ⟨w.heap.size,6,none⟩=some (Value.slice none 0 0)from hres.cell 6);have f0:=fun o=>hres.frozen o;obtain⟨BL,dL,BD,qD,dD,hcm,m0,m1,m2,m3,m4,m5,m6⟩:=HR.o.m.seven;rw[HG.o]at m0 m1 m2 m3 m4 m5 m6;have HCM:=qh hcm;have mM:Hq (fI (w.heap.size+1) (.agg (dM a (bB W z n))) (bB W z n) wr):=qh (HR.o.m.makes fun b hb=>by have:=HR.o.lo b hb;simpa using this);have jA:Hq (Below w.heap.size w wr):=qh (((Below.refl w.heap.size w).alloc ql (.cells e9 58)).trans (HR.o.b.mono qj));rw[hcm]at mM;clear hres hcm
   go_wp2_with fail
   refine bodyPost_ret (v:=.tuple #[.agg #[.int .i64 (bB W z n).W,.int .i64 (bB W z n).rk,.slice (some ⟨a.gf,0,none⟩) (bB W z n).W a.cf,.slice (some ⟨a.gk,0,none⟩) (bB W z n).W a.ck,.slice (some ⟨a.gc,0,none⟩) 4 a.cc,.slice BL (bB W z n).n dL,.slice BD qD dD],.int .i64 (n:Nat),.int .i64 0]) (by simp[results,Tryz.results96,go_sem,q0,q1,q2,q3,q4,q5,q6]) rfl ?_;exact⟨n,_,by rw[TV.o],Nat.le_refl _,iV.o,fun _=>rfl,(mM.o.abC w.heap.size (Nat.lt_succ_self _) _ _ _ _ _ _ _).lower (Nat.le_succ _),yN jA.o _ ql _ _ _ _ _ _ _⟩
end Go.Proofs.YtdnmhhohcedjbaaGreat
namespace Go.Proofs.YtdnmhhohcedjbaaGreat
open Go.RowKit
def Zf (v:Value):Prop:=∃(a0 a1:Int) (A2 A3 A4 A5 A6:OA) (n2 c2 n3 c3 n4 c4 n5 c5 n6 c6:Nat),v=.agg #[.int .i64 a0,.int .i64 a1,.slice A2 n2 c2,.slice A3 n3 c3,.slice A4 n4 c4,.slice A5 n5 c5,.slice A6 n6 c6]
theorem fI.v {B:Nat}{v:Value}{s:aI}{w:World}(h:fI B v s w):Zf v:=by
 obtain⟨tg,⟨g0,gf,cf,gk,ck,gc,cc,F0,K0,L0,D0⟩,rfl,_,_,⟨⟨AL,nL,cL,hL⟩,⟨AD,nD,cD,hD⟩⟩,_⟩:=h;obtain rfl:L0=_:=hL;obtain rfl:D0=_:=hD;exact⟨_,_,_,_,_,_,_,_,_,_,_,_,_,_,_,_,_,rfl⟩
def afH (w:World)(c:Int)(e:Ending)(w':World):Prop:=∃(i:Nat) (v:Value),e=.returned (.tuple #[v,.int .i64 i,.int .i64 c])∧Zf v∧Below w.heap.size w w'
theorem NM {W:Int}{z:Nat→Int}{n:Nat}(h:gZ W z n=true):∃W':Nat,W=W'∧1≤W'∧W'≤24∧n≤1500∧(∀i,i<n→dR W' z i=true)∧codeOf W z n=xJ W' z n:=by
 have hpp:aK W 1 24=true∧n≤1500∧oY W z n=true:=by
  have h':=h;unfold gZ at h'
  simpa only[Bool.and_eq_true,decide_eq_true_eq]using h'
 have hW:1≤W∧W≤24:=by have:=hpp.1;unfold aK at this;simpa only[Bool.and_eq_true,decide_eq_true_eq]using this
 obtain⟨W',rfl⟩:=Int.eq_ofNat_of_zero_le (show 0≤W by omega);exact⟨W',rfl,by omega,by omega,hpp.2.1,LU hpp.2.2,by unfold codeOf;rw[if_pos h,Int.toNat_natCast]⟩
theorem QD (W:Int)(A:OA)(n q:Nat)(z:Nat→Int)(w:World)(ha:Rd w A (n*8) (fun j=>.int .i64 (z j)))(hn:n≤1048576):
 Calls Tryz.prog 66 #[.int .i64 W,.slice A n q] w (afH w (codeOf W z n)):=by
 have HB0:=qh ((Below.refl w.heap.size w).alloc ql (.cells e9 58));have gB:=qh (ha.below HB0.o);have hvf:=V8 W A n q z _ gB.o hn;obtain⟨cd,hcd⟩:=qx (codeOf W z n);rw[←hcd]
 cases hpb:gZ W z n
 ·rw[hpb]at hvf
  obtain rfl:cd=1:=by rw[hcd];exact IR hpb
  have HV:=qh hvf;clear hvf hpb ha hcd
  go_enter Tryz.func66,Tryz.ntmps66
  go_wp2_with fail
  refine HV.o.mono ?_;rintro e w1 ⟨rfl,hb1⟩;have hres:=aB.below (aB.at_ w 58 e9 rfl) hb1 qj;have q0:=(show w1.cell? ⟨w.heap.size,0,none⟩=some (Value.int .i64 0)from hres.cell 0);have q1:=(show w1.cell? ⟨w.heap.size,1,none⟩=some (Value.int .i64 0)from hres.cell 1);have q2:=(show w1.cell? ⟨w.heap.size,2,none⟩=some (Value.slice none 0 0)from hres.cell 2);have q3:=(show w1.cell? ⟨w.heap.size,3,none⟩=some (Value.slice none 0 0)from hres.cell 3);have q4:=(show w1.cell? ⟨w.heap.size,4,none⟩=some (Value.slice none 0 0)from hres.cell 4);have q5:=(show w1.cell? ⟨w.heap.size,5,none⟩=some (Value.slice none 0 0)from hres.cell 5);have q6:=(show w1.cell? ⟨w.heap.size,6,none⟩=some (Value.slice none 0 0)from hres.cell 6);have f0:=fun o=>hres.frozen o;have HB1:=HB0.st hb1;clear hb1 hres
  go_wp2_with fail
  refine bodyPost_ret (v:=.tuple #[.agg e9,.int .i64 0,.int .i64 1]) (by simp[results,Tryz.results66,go_sem,q0,q1,q2,q3,q4,q5,q6]) rfl ?_;exact⟨0,_,rfl,⟨_,_,_,_,_,_,_,_,_,_,_,_,_,_,_,_,_,rfl⟩,yN HB1.o _ ql _ _ _ _ _ _ _⟩
 ·rw[hpb]at hvf
  obtain⟨W,rfl,hW1,hW2,oG,hops,hco⟩:=NM hpb;have hce:xJ W z n=cd:=hco.symm.trans hcd.symm;have sE:=qh hce;have HV:=qh hvf;have dT:=qh hops;clear hvf hpb ha hcd hops hco hce
  go_enter Tryz.func66,Tryz.ntmps66
  go_wp2_with fail
  refine HV.o.mono ?_;rintro e w1 ⟨rfl,hb1⟩;have HR1:=qh (gB.o.below hb1);have rD:=qh hb1;clear hb1
  go_wp2_with fail
  refine(pz W A n q z w1 HR1.o hW1 hW2 oG dT.o).mono ?_;rintro e w2 ⟨i,v,rfl,_,_,_,hmk,hb2⟩;obtain⟨a0,a1,A2,A3,A4,A5,A6,n2,c2,n3,c3,n4,c4,n5,c5,n6,c6,rfl⟩:=hmk.v;rw[sE.o];have Sn:=rD.o.trans (hb2.mono rD.o.size);have hres:=aB.below (aB.at_ w 58 e9 rfl) Sn qj;have q0:=(show w2.cell? ⟨w.heap.size,0,none⟩=some (Value.int .i64 0)from hres.cell 0);have q1:=(show w2.cell? ⟨w.heap.size,1,none⟩=some (Value.int .i64 0)from hres.cell 1);have q2:=(show w2.cell? ⟨w.heap.size,2,none⟩=some (Value.slice none 0 0)from hres.cell 2);have q3:=(show w2.cell? ⟨w.heap.size,3,none⟩=some (Value.slice none 0 0)from hres.cell 3);have q4:=(show w2.cell? ⟨w.heap.size,4,none⟩=some (Value.slice none 0 0)from hres.cell 4);have q5:=(show w2.cell? ⟨w.heap.size,5,none⟩=some (Value.slice none 0 0)from hres.cell 5);have q6:=(show w2.cell? ⟨w.heap.size,6,none⟩=some (Value.slice none 0 0)from hres.cell 6);have f0:=fun o=>hres.frozen o;have HB2:=HB0.st Sn;clear hmk hb2 Sn hres
  go_wp2_with fail
  refine bodyPost_ret (v:=.tuple #[.agg #[.int .i64 a0,.int .i64 a1,.slice A2 n2 c2,.slice A3 n3 c3,.slice A4 n4 c4,.slice A5 n5 c5,.slice A6 n6 c6],.int .i64 (i:Nat),.int .i64 cd]) (by simp[results,Tryz.results66,go_sem,q0,q1,q2,q3,q4,q5,q6]) rfl ?_;exact⟨i,_,rfl,⟨_,_,_,_,_,_,_,_,_,_,_,_,_,_,_,_,_,rfl⟩,yN HB2.o _ ql _ _ _ _ _ _ _⟩
theorem KF (W:Int)(A:OA)(n q:Nat)(z:Nat→Int)(w:World)(ha:Rd w A (n*8) (fun j=>.int .i64 (z j)))(hn:n≤1048576):
 Calls Tryz.prog 36 #[.int .i64 W,.slice A n q] w fun e w'=>e=.returned (.int .i64 (codeOf W z n))∧Below w.heap.size w w':=by
 obtain⟨cd,hcd⟩:=qx (codeOf W z n);have hrm:=QD W A n q z w ha hn;rw[←hcd]at hrm ⊢;have HRM:=qh hrm;clear hrm ha hcd
 go_enter Tryz.func36,Tryz.ntmps36
 go_wp2_with fail
 refine HRM.o.mono ?_;rintro e w2 ⟨i,v,rfl,⟨a0,a1,A2,A3,A4,A5,A6,n2,c2,n3,c3,n4,c4,n5,c5,n6,c6,rfl⟩,hb2⟩;have HB2:=qh hb2;clear hb2
 go_wp2_with fail
 go_ret
 exact⟨rfl,HB2.o.alloc HB2.o.size _⟩
end Go.Proofs.YtdnmhhohcedjbaaGreat
