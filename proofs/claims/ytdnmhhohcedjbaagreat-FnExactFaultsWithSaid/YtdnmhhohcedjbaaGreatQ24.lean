/- Walks and plain lemmas. -/
import Derived.Test.YtdnmhhohcedjbaaGreatQ18
import Derived.Test.YtdnmhhohcedjbaaGreatQ15
set_option linter.unusedVariables false
set_option linter.unusedSimpArgs false
set_option maxHeartbeats 4000000
set_option maxRecDepth 20000
namespace Go.Proofs.YtdnmhhohcedjbaaGreat
open Go.RowKit
def iN (b x:Int):Nat:=if b=1 then 8+2*x.toNat else 9+2*x.toNat
def rK (a:bC)(b x:Int)(v:Value):bC:=if b=1 then{a with F:=fun q=>if q=x.toNat then v else a.F q}else{a with K:=fun q=>if q=x.toNat then v else a.K q}
theorem wG (a:bC)(b x:Int)(v:Value):(rK a b x v).g=a.g:=by unfold rK;split<;>rfl
theorem VV (a:bC)(b x:Int)(v:Value):(rK a b x v).L=a.L:=by unfold rK;split<;>rfl
theorem tU (a:bC)(b x:Int)(v:Value)(c:Int):bO (rK a b x v) c=bO a c:=by unfold rK;split<;>rfl
theorem QH (a:bC)(b x:Int)(v:Value):kO (rK a b x v) b x=v:=by
 unfold kO rK
 split
 ·exact if_pos rfl
 ·exact if_pos rfl
theorem VU (a:bC){b b':Int}(x x':Int)(v:Value)(h:b=1∧b'=2∨b=2∧b'=1):kO (rK a b x v) b' x'=kO a b' x':=by
 rcases h with⟨rfl,rfl⟩|⟨rfl,rfl⟩<;>rfl
theorem i8 (b x:Int):8≤iN b x:=by unfold iN;split<;>omega
section
variable {tg:Nat→Nat}{a:bC}{s:aI}{D:Nat}{w w0:World}
theorem Mem.WE (H:Mem tg a s w){b x:Int}(hx:0≤x)(hx1:x<s.W):eD tg (kO a b x) (iN b x):=by
 unfold kO iN
 split
 ·exact H.tF _ qo
 ·exact H.tK _ qo
theorem Mem.VT (h:Mem tg a s w0){b x:Int}(hx:0≤x)(hx1:x<s.W)(r0:yQ tg a s (iN b x) w)(hz:w0.heap.size≤w.heap.size){v:Value}{m:Nat}(hv:bE w v m)(hf:Free tg v (iN b x)):
 Mem (retag tg v (iN b x)) (rK a b x v) (gA s b x m) (w.setCell ⟨bO a b,x.toNat,none⟩ v):=by
 unfold iN rK gA bO;unfold iN at r0 hf
 by_cases hb:b=1
 ·rw[if_pos hb]at r0 hf
  rw[if_pos hb,if_pos hb,if_pos hb,if_pos hb];exact h.abB r0 hz qo hv hf
 ·rw[if_neg hb]at r0 hf
  rw[if_neg hb,if_neg hb,if_neg hb,if_neg hb];exact h.abA r0 hz qo hv hf
theorem Mem.LR (h:Mem tg a s w){b x:Int}(hx:0≤x)(hx1:x<s.W){v:Value}{m:Nat}(hv:bE w v m)(hf:Free tg v (iN b x)):
 Mem (retag tg v (iN b x)) (rK a b x v) (gA s b x m) (w.setCell ⟨bO a b,x.toNat,none⟩ v):=h.VT hx hx1 (h.rest _ fun _ _ _=>rfl) ql hv hf
theorem MX (h:Mem tg a s w)(b:Int):eZ tg (bO a b):=by
 unfold eZ bO
 split
 ·rw[h.tf];omega
 ·rw[h.tk];omega
theorem Mem.MN (h:Mem tg a s w){b x:Int}(hx:0≤x)(hx1:x<s.W):w.frozen? ⟨bO a b,x.toNat,none⟩=false:=by
 unfold bO
 split
 ·have:=(h.fw x.toNat qo).2
  rwa[Nat.zero_add]at this
 ·have:=(h.kw x.toNat qo).2
  rwa[Nat.zero_add]at this
theorem bE.nil (w:World):bE w (.slice none 0 0) 0:=⟨[],World.ownsRow_nil _ _ _ _⟩
theorem LN {v:Value}{c:Nat}(h:v.ownBlock=none)(b:Nat):retag tg v c b=tg b:=by unfold retag;rw[if_neg (by rw[h];exact fun e=>by cases e)]
theorem At.VT {wb:World}{dY:Nat→Nat}{g:Nat}(h:At wb dY g s w0 tg a){b x:Int}(hx:0≤x)(hx1:x<s.W)(r0:yQ tg a s (iN b x) w)(hfr:Fr w0 w (eZ tg)){v:Value}{m:Nat}(hv:bE w v m)(hf:Free tg v (iN b x))(hnew:∀q,v.ownBlock=some q→dY q≠0∨wb.heap.size≤q):
 At wb dY g (gA s b x m) (w.setCell ⟨bO a b,x.toNat,none⟩ v) (retag tg v (iN b x)) (rK a b x v):=
 ⟨(
  wG _ _ _ _).trans h.g,h.m.VT hx hx1 r0 hfr.size hv hf,h.fr (hfr.set (p:=⟨bO a b,x.toNat,none⟩) (MX h.m b) v),fun q hq=>by
  unfold retag at hq
  split at hq
  ·exact hnew q ‹_›
  ·exact h.t q hq⟩
theorem At.LR {wb:World}{dY:Nat→Nat}{g:Nat}(h:At wb dY g s w tg a){b x:Int}(hx:0≤x)(hx1:x<s.W){v:Value}{m:Nat}(hv:bE w v m)(hf:Free tg v (iN b x))(hnew:∀q,v.ownBlock=some q→dY q≠0∨wb.heap.size≤q):
 At wb dY g (gA s b x m) (w.setCell ⟨bO a b,x.toNat,none⟩ v) (retag tg v (iN b x)) (rK a b x v):=
 h.VT hx hx1 (h.m.rest _ fun _ _ _=>rfl) (Fr.refl _ _) hv hf hnew
theorem bE.rdf {A:Option Addr}{n c:Nat}(h:bE w (.slice A n c) n):∃f:Nat→Int,Rd w A n (fun j=>.int .i64 (f j)):=by
 obtain⟨A',c',xs,e,hr⟩:=h.rd;injection e with e1 e2 e3;subst e1;exact⟨_,hr⟩
def adN (w:World)(tg:Nat→Nat)(g:Nat)(s:aI)(fb fa tb ta:Int)(e:Ending)(w':World):Prop:=
 ∃v gU a',e=.returned v∧At w tg g (aY s fb fa tb ta) w' gU a'∧bE w' v (aM s fb fa)∧kO a' fb fa=.slice none 0 0∧∀q,v.ownBlock=some q→8≤gU q
theorem zQ24x0 {p:Prop}(h:p:=by
 rw[e8]at h8;refine⟨.slice Af nf cf,_,_,rfl,h8,?_,QH _ _ _ _,?_⟩
 ·rw[←iQ.o]
  refine Vd.o.blk fun q hq=>aE _ _ _ _ ?_;intro e;have ht:=AX.o q hq;have h1:=FP.o fb;rw[←show q=bO a fb from e,ht]at h1;have:=i8 fb fa;omega
 ·intro q hq
  have ht:=AX.o q hq;rw[LN rfl];unfold retag
  split
  ·exact i8 _ _
  ·rw[ht]
   exact i8 _ _):p:=h
theorem GP (fb fa tb ta:Int)(H:Mem tg a s w)(hs:bW s D)(hb:fb=1∧tb=2∨fb=2∧tb=1)(ha0:0≤fa)(ha1:fa<s.W)(fC:0≤ta)(i9:ta<s.W)(hpos:aM s fb fa≠0):
 Calls Tryz.prog 129 #[.pointer (some ⟨a.g,0,none⟩),.agg #[.int .i64 fb,.int .i64 fa],.agg #[.int .i64 tb,.int .i64 ta]] w (adN w tg a.g s fb fa tb ta):=by
 have zT:fb=1∨fb=2:=qo;have Eb:tb=1∨tb=2:=qo;have hg:Below w.heap.size w ((w.alloc (.cells #[.int .i64 fb,.int .i64 fa] 65)).alloc (.cells #[.int .i64 tb,.int .i64 ta] 65)):=qz;have HM:=qh (H.below hg);have HG:=qh hg;have HS:=qh hs;have HP:=qh hpos;have tP:=qh hb;obtain⟨nf,hnf⟩:=qx (aM s fb fa);obtain⟨nt,hnt⟩:=qx (aM s tb ta);have fW:nf≤4:=by rw[hnf];exact bT hs ha0 ha1
 have vk:nt≤4:=by rw[hnt];exact bT hs fC i9
 have hlf:=HM.o.lU (b:=fb) ha0 ha1;have hlt:=HM.o.lU (b:=tb) fC i9;rw[←hnf]at hlf;rw[←hnt]at hlt;obtain⟨Af,cf,hvf⟩:=hlf.form;obtain⟨Au,cu,IB⟩:=hlt.form;have jV:=qh hvf;have PL:=qh IB;have iQ:=qh hnf;have TQ:=qh hnt;have HX0:=qh (And.intro (aB.alloc (aB.at_ w 65 #[.int .i64 fb,.int .i64 fa] rfl) (.cells #[.int .i64 tb,.int .i64 ta] 65)) (aB.at_ (w.alloc (.cells #[.int .i64 fb,.int .i64 fa] 65)) 65 #[.int .i64 tb,.int .i64 ta] (show w.heap.size+1=_ by simp)));have N8:=qh hlf;rw[hvf]at N8;have Uz:=qh hlt;rw[IB]at Uz;have AX:Hq (∀q,(Value.slice Af nf cf).ownBlock=some q→tg q=iN fb fa):=qh (by rw[←hvf];exact H.WE ha0 ha1);have gB:=qh ((At.start H).below hg);have ZO:Hq (∀b,bO a b<w.heap.size):=qh fun b=>H.lt _ (MX H b);have FP:Hq (∀b,tg (bO a b)=2∨tg (bO a b)=3):=qh fun b=>by unfold bO;split;exact .inl H.tf;exact .inr H.tk
 have hpos':nf≠0:=by rw[hnf];exact hpos
 clear H hs hpos hb hlf hlt hvf IB hnf hnt hg
 go_enter Tryz.func129,Tryz.ntmps129
 go_wp2_with fail
 refine(cG fb fa HM.o zT ha0 ha1).mono ?_;rintro e w1 ⟨rfl,hb1⟩;have bZ:=qh (HM.o.below hb1);have HB1:=HG.st hb1;have dN:=qh (And.intro (HX0.o.1.below hb1 HX0.o.1.lt) (HX0.o.2.below hb1 HX0.o.2.lt));have kc:=bZ.o.dE (b:=fb) ha0 ha1;rw[jV.o]at kc;have HA1:=qh (gB.o.below hb1);have rC:=qh (N8.o.blk fun q hq=>hb1.block q (N8.o.lt q hq));have dC:=qh (Uz.o.blk fun q hq=>hb1.block q (Uz.o.lt q hq));obtain⟨FF,hrf⟩:=rC.o.rdf;obtain⟨FT,hrt⟩:=dC.o.rdf;have CH:=qh hrf;have J0:=qh hrt;clear hrf hrt;have t0:=(show _=some (Value.int .i64 tb)from dN.o.2.cell 0);have t1:=(show _=some (Value.int .i64 ta)from dN.o.2.cell 1);clear hb1;have HFT:Hq (fb+tb=3):=qh (by have:=tP.o;omega)
 rcases Eb with rfl|rfl
 ·go_wp2_with fail
  go_region_with (first
   |(go_at_call 124;(with_reducible refine(cG 1 ta (HA1.o.below ((Below.refl w1.heap.size w1).drew)).m qo fC i9).mono ?_);rintro e w2 ⟨rfl,hb2⟩;have HB2:Hq (Below w1.heap.size w1 w2):=qh (((Below.refl w1.heap.size w1).drew).trans hb2);have x0:=(show _=some (Value.int .i64 1)from(dN.o.2.below HB2.o dN.o.2.lt).cell 0);have x1:=(show _=some (Value.int .i64 ta)from(dN.o.2.below HB2.o dN.o.2.lt).cell 1);clear hb2)
   |(go_at_call 124;(with_reducible refine(cG 1 ta (HA1.o.below HB2.o).m qo fC i9).mono ?_);rintro e w3 ⟨rfl,hb3⟩;have HB3:Hq (Below w1.heap.size w1 w3):=HB2.st hb3;have kt:=(HA1.o.below HB3.o).m.dE (b:=1) fC i9;rw[PL.o]at kt;clear hb3)
   |(go_at_call 159;have hb4:Below w1.heap.size w1 (w3.alloc (.cells #[.slice Au nt cu,.slice Af nf cf] 34)):=HB3.o.alloc HB3.o.size _;refine(IQ w3.heap.size 2 Au Af nt nf cu cf FT FF _ ((iE _ _ _ rfl 0).trans rfl) ((iE _ _ _ rfl 1).trans rfl) (J0.o.below hb4) (CH.o.below hb4) qo qo qo).mono ?_;rintro e w5 ⟨v5,rfl,hl5,Ll,hb5⟩;obtain⟨A5,c5,rfl⟩:=hl5.form;have aZ:Hq (Below w1.heap.size w1 w5):=qh (hb4.trans (hb5.mono hb4.size));have GG:=qh hl5;have mK:Hq (∀q,(Value.slice A5 (nt+nf) c5).ownBlock=some q→w1.heap.size≤q):=qh (fun q hq=>Nat.le_trans (Nat.le_trans HB3.o.size qj) (Ll q hq));have k5:=(HA1.o.below aZ.o).m.dE (b:=1) fC i9;rw[PL.o]at k5;have f5:=(HA1.o.below aZ.o).m.MN (b:=1) fC i9;clear hb4 hl5 Ll hb5))
  all_goals
   have t7:Hq (∀q,(Value.slice A5 (nt+nf) c5).ownBlock=some q→tg q=0):=qh (fun q hq=>Decidable.byContradiction fun hn=>by have h1:=HA1.o.m.lt q hn;have h2:=mK.o q hq;omega);have GK:=qh ((HA1.o.below aZ.o).LR (b:=1) fC i9 GG.o (fun q hq=>.inl (t7.o q hq)) (fun q hq=>.inr (Nat.le_trans HA1.o.f.size (mK.o q hq))));have IW:=qh ((dN.o.1.below aZ.o dN.o.1.lt).far (p:=⟨bO a 1,ta.toNat,none⟩) (by intro e;have h1:=ZO.o 1;rw[←show w.heap.size=bO a 1 from e]at h1;omega) (.slice A5 (nt+nf) c5));have ZG:Hq (bE (w5.setCell ⟨bO a 1,ta.toNat,none⟩ (.slice A5 (nt+nf) c5)) (.slice Af nf cf) nf):=qh (rC.o.blk fun q hq=>by
    have ht:=AX.o q hq;refine(aE _ _ _ _ ?_).trans (aZ.o.block q (rC.o.lt q hq));intro e;have h1:=FP.o 1;rw[←show q=bO a 1 from e,ht]at h1;have:=i8 fb fa;omega)
   have z0:=(show _=some (Value.int .i64 fb)from IW.o.cell 0);have z1:=(show _=some (Value.int .i64 fa)from IW.o.cell 1);clear kc t0 t1 k5 f5
   go_wp2_with fail
   have hon:=cG fb fa GK.o.m zT ha0 (by rw[iB];exact ha1);rw[wG,tU]at hon;refine hon.mono ?_;rintro e w7 ⟨rfl,bQ⟩;clear hon;have BK:=qh (GK.o.below bQ);have Vd:=qh (ZG.o.blk fun q hq=>bQ.block q (ZG.o.lt q hq));have k7:=BK.o.m.dE (b:=fb) ha0 (by rw[iB];exact ha1);have f7:=BK.o.m.MN (b:=fb) ha0 (by rw[iB];exact ha1);rw[tU]at k7 f7;rw[VU a ta fa _ (by have:=HFT.o;omega),jV.o]at k7;clear bQ z0 z1;have iY:=qh (BK.o.LR (b:=fb) ha0 (by rw[iB];exact ha1) (bE.nil w7) (fun q hq=>by cases hq) (fun q hq=>by cases hq))
   go_wp2_with fail
   go_ret
   have h8:=iY.o;rw[tU]at h8;have e8:gA (gA s 1 ta (nt+nf)) fb fa 0=aY s fb fa 1 ta:=by
    unfold aY;rw[←iQ.o,←TQ.o,Nat.add_comm nt nf]
   exact zQ24x0
 ·go_wp2_with fail
  go_region_with (first
   |(go_at_call 124;(with_reducible refine(cG 2 ta (HA1.o.below ((Below.refl w1.heap.size w1).drew)).m qo fC i9).mono ?_);rintro e w2 ⟨rfl,hb2⟩;have HB2:Hq (Below w1.heap.size w1 w2):=qh (((Below.refl w1.heap.size w1).drew).trans hb2);have x0:=(show _=some (Value.int .i64 2)from(dN.o.2.below HB2.o dN.o.2.lt).cell 0);have x1:=(show _=some (Value.int .i64 ta)from(dN.o.2.below HB2.o dN.o.2.lt).cell 1);clear hb2)
   |(go_at_call 124;(with_reducible refine(cG 2 ta (HA1.o.below HB2.o).m qo fC i9).mono ?_);rintro e w3 ⟨rfl,hb3⟩;have HB3:Hq (Below w1.heap.size w1 w3):=HB2.st hb3;have kt:=(HA1.o.below HB3.o).m.dE (b:=2) fC i9;rw[PL.o]at kt;clear hb3)
   |(go_at_call 159;have hb4:Below w1.heap.size w1 (w3.alloc (.cells #[.slice Af nf cf,.slice Au nt cu] 34)):=HB3.o.alloc HB3.o.size _;refine(IQ w3.heap.size 2 Af Au nf nt cf cu FF FT _ ((iE _ _ _ rfl 0).trans rfl) ((iE _ _ _ rfl 1).trans rfl) (CH.o.below hb4) (J0.o.below hb4) qo qo qo).mono ?_;rintro e w5 ⟨v5,rfl,hl5,Ll,hb5⟩;obtain⟨A5,c5,rfl⟩:=hl5.form;have aZ:Hq (Below w1.heap.size w1 w5):=qh (hb4.trans (hb5.mono hb4.size));have GG:=qh hl5;have mK:Hq (∀q,(Value.slice A5 (nf+nt) c5).ownBlock=some q→w1.heap.size≤q):=qh (fun q hq=>Nat.le_trans (Nat.le_trans HB3.o.size qj) (Ll q hq));have k5:=(HA1.o.below aZ.o).m.dE (b:=2) fC i9;rw[PL.o]at k5;have f5:=(HA1.o.below aZ.o).m.MN (b:=2) fC i9;clear hb4 hl5 Ll hb5))
  all_goals
   have t7:Hq (∀q,(Value.slice A5 (nf+nt) c5).ownBlock=some q→tg q=0):=qh (fun q hq=>Decidable.byContradiction fun hn=>by have h1:=HA1.o.m.lt q hn;have h2:=mK.o q hq;omega);have GK:=qh ((HA1.o.below aZ.o).LR (b:=2) fC i9 GG.o (fun q hq=>.inl (t7.o q hq)) (fun q hq=>.inr (Nat.le_trans HA1.o.f.size (mK.o q hq))));have IW:=qh ((dN.o.1.below aZ.o dN.o.1.lt).far (p:=⟨bO a 2,ta.toNat,none⟩) (by intro e;have h1:=ZO.o 2;rw[←show w.heap.size=bO a 2 from e]at h1;omega) (.slice A5 (nf+nt) c5));have ZG:Hq (bE (w5.setCell ⟨bO a 2,ta.toNat,none⟩ (.slice A5 (nf+nt) c5)) (.slice Af nf cf) nf):=qh (rC.o.blk fun q hq=>by
    have ht:=AX.o q hq;refine(aE _ _ _ _ ?_).trans (aZ.o.block q (rC.o.lt q hq));intro e;have h1:=FP.o 2;rw[←show q=bO a 2 from e,ht]at h1;have:=i8 fb fa;omega)
   have z0:=(show _=some (Value.int .i64 fb)from IW.o.cell 0);have z1:=(show _=some (Value.int .i64 fa)from IW.o.cell 1);clear kc t0 t1 k5 f5
   go_wp2_with fail
   have hon:=cG fb fa GK.o.m zT ha0 (by rw[iB];exact ha1);rw[wG,tU]at hon;refine hon.mono ?_;rintro e w7 ⟨rfl,bQ⟩;clear hon;have BK:=qh (GK.o.below bQ);have Vd:=qh (ZG.o.blk fun q hq=>bQ.block q (ZG.o.lt q hq));have k7:=BK.o.m.dE (b:=fb) ha0 (by rw[iB];exact ha1);have f7:=BK.o.m.MN (b:=fb) ha0 (by rw[iB];exact ha1);rw[tU]at k7 f7;rw[VU a ta fa _ (by have:=HFT.o;omega),jV.o]at k7;clear bQ z0 z1;have iY:=qh (BK.o.LR (b:=fb) ha0 (by rw[iB];exact ha1) (bE.nil w7) (fun q hq=>by cases hq) (fun q hq=>by cases hq))
   go_wp2_with fail
   go_ret
   have h8:=iY.o;rw[tU]at h8;have e8:gA (gA s 2 ta (nf+nt)) fb fa 0=aY s fb fa 2 ta:=by
    unfold aY;rw[←iQ.o,←TQ.o]
   exact zQ24x0
end
end Go.Proofs.YtdnmhhohcedjbaaGreat
namespace Go.Proofs.YtdnmhhohcedjbaaGreat
open Go.RowKit
section
variable {tg:Nat→Nat}{a:bC}{s:aI}{D:Nat}{w:World}
theorem At.L {wb:World}{dY:Nat→Nat}{g:Nat}(h:At wb dY g s w tg a):∃AL cL,a.L=.slice AL s.n cL:=by
 obtain⟨xs,hx,_⟩:=h.m.l;exact aF hx
theorem At.Bv {wb:World}{dY:Nat→Nat}{g:Nat}{w0:World}(h:At wb dY g s w0 tg a)(r0:yQ tg a s 5 w)(hfr:Fr w0 w (eZ tg)){v:Value}{m:Nat}(hv:lP tg w v m)(hf:Free tg v 5)(hnew:∀q,v.ownBlock=some q→dY q≠0∨wb.heap.size≤q):
 At wb dY g {s with n:=m} (w.setCell ⟨a.g,5,none⟩ v) (retag tg v 5) {a with L:=v}:=
 ⟨h.g,h.m.Bv r0 hfr.size hv hf,h.fr (hfr.set (p:=⟨a.g,5,none⟩) (by unfold eZ;rw[h.m.tm];omega) v),fun q hq=>by
  unfold retag at hq
  split at hq
  ·exact hnew q ‹_›
  ·exact h.t q hq⟩
theorem Ic (s:aI)(b x:Int)(q:Nat):{gA s b x q with n:=s.n+1}=gA (more s) b x q:=by unfold gA more;split<;>rfl
theorem LZ (k d fb fa tb ta c r:Int)(v:Value)(m:Nat)(H:Mem tg a s w)(hs:bW s D)(fB:fb=1∨fb=2)(ha0:0≤fa)(ha1:fa<s.W)(hn:s.n<300)(hv:bE w v m)(hm:m≤1000)(hpar:∀q,v.ownBlock=some q→8≤tg q∧¬(kO a fb fa).ownBlock=some q):
 Calls Tryz.prog 128 #[.pointer (some ⟨a.g,0,none⟩),.agg #[.int .i64 k,.int .i64 d,.int .i64 fb,.int .i64 fa,.int .i64 tb,.int .i64 ta,.int .i64 c,.int .i64 r],v] w fun e w'=>e=.returned (.tuple #[])∧Moved w tg a.g (gA (more s) fb fa (aM s fb fa+1)) w':=by
 obtain⟨i0,hi,iz,is,ib⟩:=info_parts yL;obtain⟨j0,hj,jz,js,jb⟩:=info_parts Dz;have hg:Below w.heap.size w (w.alloc (.cells #[.int .i64 k,.int .i64 d,.int .i64 fb,.int .i64 fa,.int .i64 tb,.int .i64 ta,.int .i64 c,.int .i64 r] 67)):=qb;have gB:=qh ((At.start H).below hg);have cM:=kT w k d fb fa tb ta c r;have bA:=qh cM;obtain⟨nf,hnf⟩:=qx (aM s fb fa);have fW:nf≤4:=by rw[hnf];exact bT hs ha0 ha1
 have hlf:=gB.o.m.lU (b:=fb) ha0 ha1;rw[←hnf]at hlf;obtain⟨Af,cf,hvf⟩:=hlf.form;have jV:=qh hvf;have iQ:=qh hnf;rw[hvf]at hlf hpar;have N8:=qh hlf;have aej:=qh hpar;have HV0:=qh (hv.blk (w':=w.alloc (.cells #[.int .i64 k,.int .i64 d,.int .i64 fb,.int .i64 fa,.int .i64 tb,.int .i64 ta,.int .i64 c,.int .i64 r] 67)) fun q hq=>hg.block q (hv.lt q hq));have AX:Hq (∀q,(Value.slice Af nf cf).ownBlock=some q→tg q=iN fb fa):=qh (by rw[←hvf];exact H.WE ha0 ha1);have ZO:Hq (∀b,bO a b<w.heap.size):=qh fun b=>H.lt _ (MX H b);have FP:Hq (∀b,tg (bO a b)=2∨tg (bO a b)=3):=qh fun b=>by unfold bO;split;exact .inl H.tf;exact .inr H.tk
 obtain⟨Av,cv,rfl⟩:=hv.form;have e2:=cM.c2;have e3:=cM.c3;have oS:=qh (H.lt a.g (by rw[H.tm];omega));have sX:=qh H.tm;have gT:Hq (∀q,tg q≠0→q<w.heap.size):=qh H.lt;have air:Hq (∀q,(Value.slice Af nf cf).ownBlock=some q→q<w.heap.size):=qh fun q hq=>H.lt q (by rw[AX.o q hq];have:=i8 fb fa;omega);clear H hs hlf hvf hnf hv hpar cM hg
 go_enter Tryz.func128,Tryz.ntmps128
 go_wp2_with fail
 refine(cG fb fa gB.o.m fB ha0 ha1).mono ?_;rintro e w1 ⟨rfl,hb1⟩;have HA1:=qh (gB.o.below hb1);have aO:=qh ((dA _ _ _ _ _ _ _ _ _ _).1 _ _ bA.o fun q hq=>by subst hq;exact hb1.block _ (World.block_lt_of_cell? _ _ bA.o.c0));have YR:=qh (HV0.o.blk fun q hq=>hb1.block q (HV0.o.lt q hq));have ZH:=qh (N8.o.blk fun q hq=>hb1.block q (N8.o.lt q hq));have kc:=HA1.o.m.dE (b:=fb) ha0 ha1;rw[jV.o]at kc;have kf:=HA1.o.m.MN (b:=fb) ha0 ha1;obtain⟨AL,cL,hL⟩:=HA1.o.L;have HL:=qh hL;have m5:w1.cell? ⟨a.g,5,none⟩=some (.slice AL s.n cL):=(HA1.o.m.m.cell 5).trans (by rw[←hL];rfl);obtain⟨xs,hxs⟩:=ZH.o;have G9:=qh hxs;clear hb1 hL hxs e2 e3
 go_wp2_with fail
 have kca:=(World.cell?_alloc_some w1 ⟨bO a fb,fa.toNat,none⟩ (.cells #[.int .i64 s.n] 2) (by rw[kc];rfl)).trans kc
 go_region_law (refine pU w1.drew (by rfl) (.tmp 14) (.tmp 20) _ (by rfl) 0 2 i0 _ 1 8 Tryz.underlying34 hi iz is ib rfl qo (.slice Af nf cf) nf (ints xs) (by rfl) G9.o _ 1 1 [.int .i64 s.n] (by rfl) rfl (by simp[Value.oneCell']) qm qo (Nat.zero_le _) ?_;intro v2 w2 hown2 hfr2 gF;obtain⟨A2,c2,rfl⟩:=aF hown2;have hbn:¬(Value.slice Af nf cf).ownBlock=some (bO a fb):=(fun e=>by have h1:=AX.o _ e;have h2:=FP.o fb;have:=i8 fb fa;omega);have hbl:bO a fb<w1.drew.heap.size:=World.block_lt_of_cell? w1 _ kc;have k2:=(hfr2.cells hbl hbn fa.toNat).trans kc;have f2:w2.frozen? ⟨bO a fb,fa.toNat,none⟩=false:=(World.frozen?_of_block (w:=w1.drew) (a:=⟨bO a fb,fa.toNat,none⟩) (hfr2.block _ hbl hbn)).trans kf;have f9:=qh hown2;have vU:=qh hfr2;have BJ:=qh gF;clear hown2 hfr2 gF hbn hbl)
 all_goals
  have ZV:Hq (Fr w1 w2 (fun b=>(Value.slice Af nf cf).ownBlock=some b)):=qh ⟨vU.o.os,vU.o.tape,vU.o.output,vU.o.size,vU.o.block⟩;have eS:Hq (∀q,(Value.slice A2 (nf+1) c2).ownBlock=some q→tg q=iN fb fa∨(tg q=0∧w1.heap.size≤q)):=qh fun q hq=>by
   rcases BJ.o with h|h
   ·exact .inl (AX.o q (h.symm.trans hq))
   ·rw[hq]at h
    have h':q=w1.heap.size+1:=Option.some.inj h;exact .inr ⟨Decidable.byContradiction fun hn=>by have:=HA1.o.m.lt q hn;omega,by omega⟩
  have HA2:=qh (HA1.o.VT (b:=fb) (x:=fa) (w:=w2) (v:=.slice A2 (nf+1) c2) (m:=nf+1) ha0 ha1 (HA1.o.m.rest (iN fb fa) fun b hb hc=>ZV.o.block b (HA1.o.m.lt b hb) fun e=>hc (AX.o b e)) (ZV.o.mono fun b hb=>by unfold eZ;rw[AX.o b hb];have:=i8 fb fa;omega) ⟨xs++[(s.n:Int)],by rw[aT];exact f9.o⟩ (fun q hq=>by rcases eS.o q hq with h|h;exact .inr h;exact .inl h.1) (fun q hq=>by rcases eS.o q hq with h|h;exact .inl (by rw[h];have:=i8 fb fa;omega);exact .inr (Nat.le_trans HA1.o.f.size h.2)));have HTB:Hq (retag tg (.slice A2 (nf+1) c2) (iN fb fa) w.heap.size=0):=qh (by
   have hz1:w.heap.size<w1.heap.size:=World.block_lt_of_cell? _ _ aO.o.c0;unfold retag;rw[if_neg (fun e=>by
    rcases eS.o _ e with h|h
    ·have h1:=gT.o w.heap.size (by rw[h];have:=i8 fb fa;omega)
     omega
    ·omega)]
   exact Decidable.byContradiction fun hn=>by have:=gT.o _ hn;omega)
  have aH:Hq (gI w.heap.size 0 k d fb fa tb ta c r (w2.setCell ⟨bO a fb,fa.toNat,none⟩ (.slice A2 (nf+1) c2))):=qh ((dA _ _ _ _ _ _ _ _ _ _).1 _ _ aO.o fun q hq=>by
   subst hq;exact(aE _ _ _ _ (by intro e;have h1:=ZO.o fb;rw[←show w.heap.size=bO a fb from e]at h1;omega)).trans (ZV.o.block _ (World.block_lt_of_cell? _ _ aO.o.c0) fun e=>by have:=air.o _ e;omega))
  have zq:Hq (bE (w2.setCell ⟨bO a fb,fa.toNat,none⟩ (.slice A2 (nf+1) c2)) (.slice Av m cv) m):=qh (YR.o.blk fun q hq=>by
   refine(aE _ _ _ _ ?_).trans (ZV.o.block q (YR.o.lt q hq) (aej.o q hq).2);intro e;have h1:=(aej.o q hq).1;rw[show q=bO a fb from e]at h1;have h2:=FP.o fb;omega)
  have q5:(w2.setCell ⟨bO a fb,fa.toNat,none⟩ (.slice A2 (nf+1) c2)).cell? ⟨a.g,5,none⟩=some (.slice AL s.n cL):=by
   have h:=HA2.o.m.m.cell 5;rw[wG]at h;refine h.trans ?_;show some (rK a fb fa (.slice A2 (nf+1) c2)).L=_;rw[VV,HL.o]
  clear kc kf m5 k2 f2 kca;obtain⟨W2,hW2⟩:=qx (w2.setCell ⟨bO a fb,fa.toNat,none⟩ (.slice A2 (nf+1) c2));rw[←hW2]at HA2 aH zq q5 ⊢;have o0:=aH.o.c0;have o1:=aH.o.c1;have o2:=aH.o.c2;have o3:=aH.o.c3;have o6:=aH.o.c6;clear hW2 vU f9 BJ ZV gB bA N8 HV0 aO YR ZH G9;rw[Nat.zero_add]at o1 o2 o3 o6
  go_wp2_with fail
  refine cN (S:=fun w'=>w'.cell? ⟨a.g,5,none⟩=some (.slice AL s.n cL)∧w'.cell? ⟨w.heap.size,0,none⟩=some (.int .i64 k)∧w'.cell? ⟨w.heap.size,1,none⟩=some (.int .i64 d)∧w'.cell? ⟨w.heap.size,2,none⟩=some (.int .i64 fb)∧w'.cell? ⟨w.heap.size,2+1,none⟩=some (.int .i64 fa)∧w'.cell? ⟨w.heap.size,6,none⟩=some (.int .i64 c)) _ qj qk qk ⟨q5,o0,o1,o2,o3,o6⟩ (fun hHeld=>?_)
  simp only[List.dropLast,List.getLast_cons_cons,List.getLast_singleton,List.length_cons,List.length_nil]
  refine qt 0 hHeld ?_
  simp only[List.getElem_toArray,List.getElem_cons_zero,Act.put,List.setIfInBounds_toArray,List.set_cons_zero,List.set_cons_succ]
  refine qt 1 hHeld ?_;refine qt 2 hHeld ?_;refine qt 3 hHeld ?_;refine qt 4 hHeld ?_;refine qt 5 hHeld ?_;refine qt 6 hHeld ?_;refine qt 7 hHeld ?_;refine qt 8 hHeld ?_;refine qt 9 hHeld ?_;refine qt 10 hHeld ?_;refine qt 11 hHeld ?_;refine qt 12 hHeld ?_;refine qt 13 hHeld ?_;refine qt 14 hHeld ?_;refine qt 15 hHeld ?_;refine qt 16 hHeld ?_;refine qt 17 hHeld ?_
  simp only[List.getElem_toArray,List.getElem_cons_succ,List.getElem_cons_zero,Act.put,List.setIfInBounds_toArray,List.set_cons_zero,List.set_cons_succ]
  refine wpAnyH_ready (rs:=[18]) qk qj ?_;refine AllReadyH.cons rfl (fun K hK=>?_) AllReadyH.nil
  simp only[List.getElem_toArray,List.getElem_cons_succ,List.getElem_cons_zero]
  go_simp
  refine(nk _ m W2.drew (zq.o.blk fun _ _=>rfl) qo).mono ?_;rintro e w3 ⟨vp,rfl,hlp,hnp,hb3⟩;obtain⟨Ap,cp,rfl⟩:=hlp.form;have HB3:Hq (Below W2.heap.size W2 w3):=qh (((Below.refl W2.heap.size W2).drew).trans hb3);have IY:Hq (w.heap.size<W2.heap.size):=qh (World.block_lt_of_cell? W2 _ o0);have O9:=((aA HB3.o).1 a.g 5 (World.block_lt_of_cell? W2 _ q5)).trans q5;have O7:=((aA HB3.o).1 w.heap.size 0 (World.block_lt_of_cell? W2 _ o0)).trans o0;have KL:=((aA HB3.o).1 w.heap.size 1 (World.block_lt_of_cell? W2 _ o0)).trans o1;have WM:=((aA HB3.o).1 w.heap.size 2 (World.block_lt_of_cell? W2 _ o0)).trans o2;have WL:=((aA HB3.o).1 w.heap.size (2+1) (World.block_lt_of_cell? W2 _ o0)).trans o3;have WK:=((aA HB3.o).1 w.heap.size 6 (World.block_lt_of_cell? W2 _ o0)).trans o6;clear hb3 q5 o0 o1 o2 o3 o6;refine hK.out _ _ ⟨O9,O7,KL,WM,WL,WK⟩ (fun jL=>?_);clear hK K hHeld;refine qt 19 jL ?_
  simp only[List.getElem_toArray,List.getElem_cons_succ,List.getElem_cons_zero,Act.put,List.setIfInBounds_toArray,List.set_cons_zero,List.set_cons_succ]
  refine wpAnyH_ready (rs:=[20]) qk qj ?_;refine AllReadyH.cons rfl (fun K hK=>?_) AllReadyH.nil
  simp only[List.getElem_toArray,List.getElem_cons_succ,List.getElem_cons_zero]
  go_simp
  refine hK.out _ _ (by go_keep) (fun fY=>?_);clear hK K jL;refine wpAnyH_ready (rs:=[21]) qk qj ?_;refine AllReadyH.cons rfl (fun K hK=>?_) AllReadyH.nil
  simp only[List.getElem_toArray,List.getElem_cons_succ,List.getElem_cons_zero]
  have ae8:=HA2.o.below HB3.o;have hsz2:=HA2.o.f.size;obtain⟨iM,vB⟩:=qx (retag (retag tg (.slice A2 (nf+1) c2) (iN fb fa)) (.slice Ap m cp) 7);have gY:=qh (show At _ _ _ _ w3 iM _ from vB▸ae8.UW (fun q hq=>.inr (Decidable.byContradiction fun hne=>by have h1:=HA2.o.m.lt q hne;have h2:W2.heap.size≤q:=hnp q hq;omega)) hlp.lt fun q hq=>by have h2:W2.heap.size≤q:=hnp q hq;omega);have htp:eD iM (.slice Ap m cp) 7:=vB▸oX _ _;have acV:iM w.heap.size=0:=by
   rw[vB];unfold retag;rw[if_neg (fun e=>by have h2:W2.heap.size≤w.heap.size:=hnp _ e;have h3:=IY.o;omega)];exact HTB.o
  obtain⟨ys,hys,hps⟩:=gY.o.m.l;rw[VV,HL.o,GY]at hys;refine pU w3 (by rfl) (.tmp 27) (.tmp 43) _ (by rfl) 0 126 j0 _ 6 64 Tryz.underlying56 hj jz js jb rfl qo (.slice AL s.n cL) s.n ys (by rfl) hys _ 1 1 [.int .i64 k,.int .i64 c,.int .i64 fb,.int .i64 fa,.int .i64 d,.slice Ap m cp] (by rfl) rfl (by simp[Value.oneCell']) qm qo (Nat.zero_le _) ?_;intro v4 w4 C4 oH qM;obtain⟨A4,c4,rfl⟩:=aF C4;have C5:∀b,(Value.slice AL s.n cL).ownBlock=some b→iM b=5:=fun b hb=>gY.o.m.tL b (by rw[VV,HL.o];exact hb);have htm:=gY.o.m.tm;rw[wG]at htm;have hgn:¬(Value.slice AL s.n cL).ownBlock=some a.g:=fun e=>by have:=C5 _ e;omega
  have htb:iM w.heap.size=0:=acV;have hon:¬(Value.slice AL s.n cL).ownBlock=some w.heap.size:=fun e=>by have:=C5 _ e;omega
  have kP:=World.block_lt_of_cell? w3 _ O9;have hlo:=World.block_lt_of_cell? w3 _ O7;have acD:=(oH.cells kP hgn 5).trans O9;have acC:=(oH.cells hlo hon 0).trans O7;have acB:=(oH.cells hlo hon 1).trans KL;have acA:=(oH.cells hlo hon 2).trans WM;have acz:=(oH.cells hlo hon (2+1)).trans WL;have acy:=(oH.cells hlo hon 6).trans WK;have wh:=gY.o.m.m;rw[wG]at wh;have ahw:w4.frozen? ⟨a.g,5,none⟩=false:=(World.frozen?_of_block (w:=w3) (a:=⟨a.g,5,none⟩) (oH.block a.g kP hgn)).trans (wh.frozen 5);refine hK.out _ _ ⟨acD,acC,acB,acA,acz,acy⟩ (fun bU=>?_);clear hK K fY;have SS:∀q,(Value.slice A4 (s.n+1) c4).ownBlock=some q→iM q=5∨(iM q=0∧w3.heap.size≤q):=fun q hq=>by
   rcases qM with h|h
   ·exact .inl (C5 q (h.symm.trans hq))
   ·rw[hq]at h
    have h':q=w3.heap.size+1:=Option.some.inj h;exact .inr ⟨Decidable.byContradiction fun hn=>by have:=gY.o.m.lt q hn;omega,by omega⟩
  have cH:=qh (gY.o.Bv (w:=w4) (m:=s.n+1) (gY.o.m.rest 5 fun b hb h5=>oH.block b (gY.o.m.lt b hb) fun e=>h5 (C5 b e)) (oH.mono fun b hb=>by unfold eZ;rw[C5 b hb];omega) (lP.more C4 hys.1 (by simpa only[GY]using hps) (IK _ _ _ _ _ _) (by rfl) qo hlp htp fun b hb=>oH.block b (gY.o.m.lt b qo) fun e=>by have:=C5 b e;omega) (fun q hq=>by rcases SS q hq with h|h;exact .inr h;exact .inl h.1) (fun q hq=>by rcases SS q hq with h|h;exact gY.o.t q qo;exact .inr (Nat.le_trans gY.o.f.size h.2)));clear C5 hgn hon kP hlo O9 O7 KL WM WL WK oH C4 qM hys SS htm htb wh acV htp hps hsz2 ae8 hnp hlp;refine qt 22 bU ?_;refine qt 23 bU ?_
  simp only[List.getElem_toArray,List.getElem_cons_succ,List.getElem_cons_zero,Act.put,List.setIfInBounds_toArray,List.set_cons_zero,List.set_cons_succ]
  refine wpAnyH_done qk ?_ _;refine d8.of ?_
  go_simp
  clear bU acD acC acB acA acz acy ahw
  go_wp2_with fail
  go_end0
  refine⟨rfl,?_⟩;have h5:=cH.o.moved;rw[wG]at h5;rw[←iQ.o,←Ic];exact h5
end
end Go.Proofs.YtdnmhhohcedjbaaGreat
