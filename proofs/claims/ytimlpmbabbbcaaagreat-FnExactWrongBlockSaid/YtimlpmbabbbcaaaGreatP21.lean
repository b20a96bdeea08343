/- Walks and plain lemmas. -/
import Derived.Test.YtimlpmbabbbcaaaGreatP16
import Derived.Test.YtimlpmbabbbcaaaGreatP14
set_option linter.unusedVariables false
set_option linter.unusedSimpArgs false
set_option maxHeartbeats 4000000
set_option maxRecDepth 20000
namespace Go.Proofs.YtimlpmbabbbcaaaGreat
open Go.RowKit
def jH (b x:Int):Nat:=if b=1 then 8+2*x.toNat else 9+2*x.toNat
def s8 (a:bV)(b x:Int)(v:Value):bV:=if b=1 then{a with F:=fun q=>if q=x.toNat then v else a.F q}else{a with K:=fun q=>if q=x.toNat then v else a.K q}
theorem xQ (a:bV)(b x:Int)(v:Value):(s8 a b x v).g=a.g:=by unfold s8;split<;>rfl
theorem VN (a:bV)(b x:Int)(v:Value):(s8 a b x v).L=a.L:=by unfold s8;split<;>rfl
theorem wE (a:bV)(b x:Int)(v:Value)(c:Int):cA (s8 a b x v) c=cA a c:=by unfold s8;split<;>rfl
theorem R5 (a:bV)(b x:Int)(v:Value):lR (s8 a b x v) b x=v:=by
 unfold lR s8
 split
 ·exact if_pos rfl
 ·exact if_pos rfl
theorem VM (a:bV){b b':Int}(x x':Int)(v:Value)(h:b=1∧b'=2∨b=2∧b'=1):lR (s8 a b x v) b' x'=lR a b' x':=by
 rcases h with⟨rfl,rfl⟩|⟨rfl,rfl⟩<;>rfl
theorem iX (b x:Int):8≤jH b x:=by unfold jH;split<;>omega
section
variable {tg:Nat→Nat}{a:bV}{s:aP}{D:Nat}{w w0:World}
theorem Mem.W8 (H:Mem tg a s w){b x:Int}(hx:0≤x)(hx1:x<s.W):fE tg (lR a b x) (jH b x):=by
 unfold lR jH
 split
 ·exact H.tF _ qo
 ·exact H.tK _ qo
theorem Mem.VL (h:Mem tg a s w0){b x:Int}(hx:0≤x)(hx1:x<s.W)(r0:zX tg a s (jH b x) w)(hz:w0.heap.size≤w.heap.size){v:Value}{m:Nat}(hv:bR w v m)(hf:Free tg v (jH b x)):
 Mem (retag tg v (jH b x)) (s8 a b x v) (bB s b x m) (w.setCell ⟨cA a b,x.toNat,none⟩ v):=by
 unfold jH s8 bB cA;unfold jH at r0 hf
 by_cases hb:b=1
 ·rw[if_pos hb]at r0 hf
  rw[if_pos hb,if_pos hb,if_pos hb,if_pos hb];exact h.aai r0 hz qo hv hf
 ·rw[if_neg hb]at r0 hf
  rw[if_neg hb,if_neg hb,if_neg hb,if_neg hb];exact h.aah r0 hz qo hv hf
theorem Mem.N2 (h:Mem tg a s w){b x:Int}(hx:0≤x)(hx1:x<s.W){v:Value}{m:Nat}(hv:bR w v m)(hf:Free tg v (jH b x)):
 Mem (retag tg v (jH b x)) (s8 a b x v) (bB s b x m) (w.setCell ⟨cA a b,x.toNat,none⟩ v):=h.VL hx hx1 (h.rest _ fun _ _ _=>rfl) ql hv hf
theorem NY (h:Mem tg a s w)(b:Int):fZ tg (cA a b):=by
 unfold fZ cA
 split
 ·rw[h.tf];omega
 ·rw[h.tk];omega
theorem Mem.NP (h:Mem tg a s w){b x:Int}(hx:0≤x)(hx1:x<s.W):w.frozen? ⟨cA a b,x.toNat,none⟩=false:=by
 unfold cA
 split
 ·have:=(h.fw x.toNat qo).2
  rwa[Nat.zero_add]at this
 ·have:=(h.kw x.toNat qo).2
  rwa[Nat.zero_add]at this
theorem bR.nil (w:World):bR w (.slice none 0 0) 0:=⟨[],World.ownsRow_nil _ _ _ _⟩
theorem MY {v:Value}{c:Nat}(h:v.ownBlock=none)(b:Nat):retag tg v c b=tg b:=by unfold retag;rw[if_neg (by rw[h];exact fun e=>by cases e)]
theorem At.VL {wb:World}{eP:Nat→Nat}{g:Nat}(h:At wb eP g s w0 tg a){b x:Int}(hx:0≤x)(hx1:x<s.W)(r0:zX tg a s (jH b x) w)(hfr:Fr w0 w (fZ tg)){v:Value}{m:Nat}(hv:bR w v m)(hf:Free tg v (jH b x))(hnew:∀q,v.ownBlock=some q→eP q≠0∨wb.heap.size≤q):
 At wb eP g (bB s b x m) (w.setCell ⟨cA a b,x.toNat,none⟩ v) (retag tg v (jH b x)) (s8 a b x v):=
 ⟨(
  xQ _ _ _ _).trans h.g,h.m.VL hx hx1 r0 hfr.size hv hf,h.fr (hfr.set (p:=⟨cA a b,x.toNat,none⟩) (NY h.m b) v),fun q hq=>by
  unfold retag at hq
  split at hq
  ·exact hnew q ‹_›
  ·exact h.t q hq⟩
theorem At.N2 {wb:World}{eP:Nat→Nat}{g:Nat}(h:At wb eP g s w tg a){b x:Int}(hx:0≤x)(hx1:x<s.W){v:Value}{m:Nat}(hv:bR w v m)(hf:Free tg v (jH b x))(hnew:∀q,v.ownBlock=some q→eP q≠0∨wb.heap.size≤q):
 At wb eP g (bB s b x m) (w.setCell ⟨cA a b,x.toNat,none⟩ v) (retag tg v (jH b x)) (s8 a b x v):=
 h.VL hx hx1 (h.m.rest _ fun _ _ _=>rfl) (Fr.refl _ _) hv hf hnew
theorem bR.rdf {A:Option Addr}{n c:Nat}(h:bR w (.slice A n c) n):∃f:Nat→Int,Rd w A n (fun j=>.int .i64 (f j)):=by
 obtain⟨A',c',xs,e,hr⟩:=h.rd;injection e with e1 e2 e3;subst e1;exact⟨_,hr⟩
def abY (w:World)(tg:Nat→Nat)(g:Nat)(s:aP)(fb fa tb ta:Int)(e:Ending)(w':World):Prop:=
 ∃v eZ a',e=.returned v∧At w tg g (bO s fb fa tb ta) w' eZ a'∧bR w' v (aU s fb fa)∧lR a' fb fa=.slice none 0 0∧∀q,v.ownBlock=some q→8≤eZ q
theorem zP21x0 {p:Prop}(h:p:=by
 rw[e8]at h8;refine⟨.slice Af nf cf,_,_,rfl,h8,?_,R5 _ _ _ _,?_⟩
 ·rw[←jS.o]
  refine Uh.o.blk fun q hq=>bI _ _ _ _ ?_;intro e;have ht:=C8.o q hq;have h1:=GO.o fb;rw[←show q=cA a fb from e,ht]at h1;have:=iX fb fa;omega
 ·intro q hq
  have ht:=C8.o q hq;rw[MY rfl];unfold retag
  split
  ·exact iX _ _
  ·rw[ht]
   exact iX _ _):p:=h
theorem IJ (fb fa tb ta:Int)(H:Mem tg a s w)(hs:d8 s D)(hb:fb=1∧tb=2∨fb=2∧tb=1)(ha0:0≤fa)(ha1:fa<s.W)(gB:0≤ta)(iY:ta<s.W)(hpos:aU s fb fa≠0):
 Calls Tryz.prog 107 #[.pointer (some ⟨a.g,0,none⟩),.agg #[.int .i64 fb,.int .i64 fa],.agg #[.int .i64 tb,.int .i64 ta]] w (abY w tg a.g s fb fa tb ta):=by
 have BM:fb=1∨fb=2:=qo;have Dq:tb=1∨tb=2:=qo;have hg:Below w.heap.size w ((w.alloc (.cells #[.int .i64 fb,.int .i64 fa] 49)).alloc (.cells #[.int .i64 tb,.int .i64 ta] 49)):=qz;have HM:=qh (H.below hg);have HG:=qh hg;have HS:=qh hs;have HP:=qh hpos;have CL:=qh hb;obtain⟨nf,hnf⟩:=qx (aU s fb fa);obtain⟨nt,hnt⟩:=qx (aU s tb ta);have lT:nf≤4:=by rw[hnf];exact cY hs ha0 ha1
 have su:nt≤4:=by rw[hnt];exact cY hs gB iY
 have hlf:=HM.o.nP (b:=fb) ha0 ha1;have hlt:=HM.o.nP (b:=tb) gB iY;rw[←hnf]at hlf;rw[←hnt]at hlt;obtain⟨Af,cf,hvf⟩:=hlf.form;obtain⟨Au,cu,JJ⟩:=hlt.form;have lF:=qh hvf;have Q6:=qh JJ;have jS:=qh hnf;have TN:=qh hnt;have HX0:=qh (And.intro (aG.alloc (aG.at_ w 49 #[.int .i64 fb,.int .i64 fa] rfl) (.cells #[.int .i64 tb,.int .i64 ta] 49)) (aG.at_ (w.alloc (.cells #[.int .i64 fb,.int .i64 fa] 49)) 49 #[.int .i64 tb,.int .i64 ta] (show w.heap.size+1=_ by simp)));have OD:=qh hlf;rw[hvf]at OD;have Ud:=qh hlt;rw[JJ]at Ud;have C8:Hq (∀q,(Value.slice Af nf cf).ownBlock=some q→tg q=jH fb fa):=qh (by rw[←hvf];exact H.W8 ha0 ha1);have lI:=qh ((At.start H).below hg);have ZH:Hq (∀b,cA a b<w.heap.size):=qh fun b=>H.lt _ (NY H b);have GO:Hq (∀b,tg (cA a b)=2∨tg (cA a b)=3):=qh fun b=>by unfold cA;split;exact .inl H.tf;exact .inr H.tk
 have hpos':nf≠0:=by rw[hnf];exact hpos
 clear H hs hpos hb hlf hlt hvf JJ hnf hnt hg
 go_enter Tryz.func107,Tryz.ntmps107
 go_wp2_with fail
 refine(dJ fb fa HM.o BM ha0 ha1).mono ?_;rintro e w1 ⟨rfl,hb1⟩;have fD:=qh (HM.o.below hb1);have HB1:=HG.st hb1;have jE:=qh (And.intro (HX0.o.1.below hb1 HX0.o.1.lt) (HX0.o.2.below hb1 HX0.o.2.lt));have kc:=fD.o.eL (b:=fb) ha0 ha1;rw[lF.o]at kc;have HA1:=qh (lI.o.below hb1);have rR:=qh (OD.o.blk fun q hq=>hb1.block q (OD.o.lt q hq));have iO:=qh (Ud.o.blk fun q hq=>hb1.block q (Ud.o.lt q hq));obtain⟨FF,hrf⟩:=rR.o.rdf;obtain⟨FT,hrt⟩:=iO.o.rdf;have TK:=qh hrf;have K7:=qh hrt;clear hrf hrt;have t0:=(show _=some (Value.int .i64 tb)from jE.o.2.cell 0);have t1:=(show _=some (Value.int .i64 ta)from jE.o.2.cell 1);clear hb1;have HFT:Hq (fb+tb=3):=qh (by have:=CL.o;omega)
 rcases Dq with rfl|rfl
 ·go_wp2_with fail
  go_region_with (first
   |(go_at_call 102;(with_reducible refine(dJ 1 ta (HA1.o.below ((Below.refl w1.heap.size w1).drew)).m qo gB iY).mono ?_);rintro e w2 ⟨rfl,hb2⟩;have HB2:Hq (Below w1.heap.size w1 w2):=qh (((Below.refl w1.heap.size w1).drew).trans hb2);have x0:=(show _=some (Value.int .i64 1)from(jE.o.2.below HB2.o jE.o.2.lt).cell 0);have x1:=(show _=some (Value.int .i64 ta)from(jE.o.2.below HB2.o jE.o.2.lt).cell 1);clear hb2)
   |(go_at_call 102;(with_reducible refine(dJ 1 ta (HA1.o.below HB2.o).m qo gB iY).mono ?_);rintro e w3 ⟨rfl,hb3⟩;have HB3:Hq (Below w1.heap.size w1 w3):=HB2.st hb3;have kt:=(HA1.o.below HB3.o).m.eL (b:=1) gB iY;rw[Q6.o]at kt;clear hb3)
   |(go_at_call 116;have hb4:Below w1.heap.size w1 (w3.alloc (.cells #[.slice Au nt cu,.slice Af nf cf] 61)):=HB3.o.alloc HB3.o.size _;refine(JZ w3.heap.size 2 Au Af nt nf cu cf FT FF _ ((j6 _ _ _ rfl 0).trans rfl) ((j6 _ _ _ rfl 1).trans rfl) (K7.o.below hb4) (TK.o.below hb4) qo qo qo).mono ?_;rintro e w5 ⟨v5,rfl,hl5,H7,hb5⟩;obtain⟨A5,c5,rfl⟩:=hl5.form;have bG:Hq (Below w1.heap.size w1 w5):=qh (hb4.trans (hb5.mono hb4.size));have IA:=qh hl5;have nC:Hq (∀q,(Value.slice A5 (nt+nf) c5).ownBlock=some q→w1.heap.size≤q):=qh (fun q hq=>Nat.le_trans (Nat.le_trans HB3.o.size qj) (H7 q hq));have k5:=(HA1.o.below bG.o).m.eL (b:=1) gB iY;rw[Q6.o]at k5;have f5:=(HA1.o.below bG.o).m.NP (b:=1) gB iY;clear hb4 hl5 H7 hb5))
  all_goals
   have vQ:Hq (∀q,(Value.slice A5 (nt+nf) c5).ownBlock=some q→tg q=0):=qh (fun q hq=>Decidable.byContradiction fun hn=>by have h1:=HA1.o.m.lt q hn;have h2:=nC.o q hq;omega);have ID:=qh ((HA1.o.below bG.o).N2 (b:=1) gB iY IA.o (fun q hq=>.inl (vQ.o q hq)) (fun q hq=>.inr (Nat.le_trans HA1.o.f.size (nC.o q hq))));have YS:=qh ((jE.o.1.below bG.o jE.o.1.lt).far (p:=⟨cA a 1,ta.toNat,none⟩) (by intro e;have h1:=ZH.o 1;rw[←show w.heap.size=cA a 1 from e]at h1;omega) (.slice A5 (nt+nf) c5));have ZE:Hq (bR (w5.setCell ⟨cA a 1,ta.toNat,none⟩ (.slice A5 (nt+nf) c5)) (.slice Af nf cf) nf):=qh (rR.o.blk fun q hq=>by
    have ht:=C8.o q hq;refine(bI _ _ _ _ ?_).trans (bG.o.block q (rR.o.lt q hq));intro e;have h1:=GO.o 1;rw[←show q=cA a 1 from e,ht]at h1;have:=iX fb fa;omega)
   have z0:=(show _=some (Value.int .i64 fb)from YS.o.cell 0);have z1:=(show _=some (Value.int .i64 fa)from YS.o.cell 1);clear kc t0 t1 k5 f5
   go_wp2_with fail
   have hon:=dJ fb fa ID.o.m BM ha0 (by rw[j3];exact ha1);rw[xQ,wE]at hon;refine hon.mono ?_;rintro e w7 ⟨rfl,bM⟩;clear hon;have CO:=qh (ID.o.below bM);have Uh:=qh (ZE.o.blk fun q hq=>bM.block q (ZE.o.lt q hq));have k7:=CO.o.m.eL (b:=fb) ha0 (by rw[j3];exact ha1);have f7:=CO.o.m.NP (b:=fb) ha0 (by rw[j3];exact ha1);rw[wE]at k7 f7;rw[VM a ta fa _ (by have:=HFT.o;omega),lF.o]at k7;clear bM z0 z1;have kA:=qh (CO.o.N2 (b:=fb) ha0 (by rw[j3];exact ha1) (bR.nil w7) (fun q hq=>by cases hq) (fun q hq=>by cases hq))
   go_wp2_with fail
   go_ret
   have h8:=kA.o;rw[wE]at h8;have e8:bB (bB s 1 ta (nt+nf)) fb fa 0=bO s fb fa 1 ta:=by
    unfold bO;rw[←jS.o,←TN.o,Nat.add_comm nt nf]
   exact zP21x0
 ·go_wp2_with fail
  go_region_with (first
   |(go_at_call 102;(with_reducible refine(dJ 2 ta (HA1.o.below ((Below.refl w1.heap.size w1).drew)).m qo gB iY).mono ?_);rintro e w2 ⟨rfl,hb2⟩;have HB2:Hq (Below w1.heap.size w1 w2):=qh (((Below.refl w1.heap.size w1).drew).trans hb2);have x0:=(show _=some (Value.int .i64 2)from(jE.o.2.below HB2.o jE.o.2.lt).cell 0);have x1:=(show _=some (Value.int .i64 ta)from(jE.o.2.below HB2.o jE.o.2.lt).cell 1);clear hb2)
   |(go_at_call 102;(with_reducible refine(dJ 2 ta (HA1.o.below HB2.o).m qo gB iY).mono ?_);rintro e w3 ⟨rfl,hb3⟩;have HB3:Hq (Below w1.heap.size w1 w3):=HB2.st hb3;have kt:=(HA1.o.below HB3.o).m.eL (b:=2) gB iY;rw[Q6.o]at kt;clear hb3)
   |(go_at_call 116;have hb4:Below w1.heap.size w1 (w3.alloc (.cells #[.slice Af nf cf,.slice Au nt cu] 61)):=HB3.o.alloc HB3.o.size _;refine(JZ w3.heap.size 2 Af Au nf nt cf cu FF FT _ ((j6 _ _ _ rfl 0).trans rfl) ((j6 _ _ _ rfl 1).trans rfl) (TK.o.below hb4) (K7.o.below hb4) qo qo qo).mono ?_;rintro e w5 ⟨v5,rfl,hl5,H7,hb5⟩;obtain⟨A5,c5,rfl⟩:=hl5.form;have bG:Hq (Below w1.heap.size w1 w5):=qh (hb4.trans (hb5.mono hb4.size));have IA:=qh hl5;have nC:Hq (∀q,(Value.slice A5 (nf+nt) c5).ownBlock=some q→w1.heap.size≤q):=qh (fun q hq=>Nat.le_trans (Nat.le_trans HB3.o.size qj) (H7 q hq));have k5:=(HA1.o.below bG.o).m.eL (b:=2) gB iY;rw[Q6.o]at k5;have f5:=(HA1.o.below bG.o).m.NP (b:=2) gB iY;clear hb4 hl5 H7 hb5))
  all_goals
   have vQ:Hq (∀q,(Value.slice A5 (nf+nt) c5).ownBlock=some q→tg q=0):=qh (fun q hq=>Decidable.byContradiction fun hn=>by have h1:=HA1.o.m.lt q hn;have h2:=nC.o q hq;omega);have ID:=qh ((HA1.o.below bG.o).N2 (b:=2) gB iY IA.o (fun q hq=>.inl (vQ.o q hq)) (fun q hq=>.inr (Nat.le_trans HA1.o.f.size (nC.o q hq))));have YS:=qh ((jE.o.1.below bG.o jE.o.1.lt).far (p:=⟨cA a 2,ta.toNat,none⟩) (by intro e;have h1:=ZH.o 2;rw[←show w.heap.size=cA a 2 from e]at h1;omega) (.slice A5 (nf+nt) c5));have ZE:Hq (bR (w5.setCell ⟨cA a 2,ta.toNat,none⟩ (.slice A5 (nf+nt) c5)) (.slice Af nf cf) nf):=qh (rR.o.blk fun q hq=>by
    have ht:=C8.o q hq;refine(bI _ _ _ _ ?_).trans (bG.o.block q (rR.o.lt q hq));intro e;have h1:=GO.o 2;rw[←show q=cA a 2 from e,ht]at h1;have:=iX fb fa;omega)
   have z0:=(show _=some (Value.int .i64 fb)from YS.o.cell 0);have z1:=(show _=some (Value.int .i64 fa)from YS.o.cell 1);clear kc t0 t1 k5 f5
   go_wp2_with fail
   have hon:=dJ fb fa ID.o.m BM ha0 (by rw[j3];exact ha1);rw[xQ,wE]at hon;refine hon.mono ?_;rintro e w7 ⟨rfl,bM⟩;clear hon;have CO:=qh (ID.o.below bM);have Uh:=qh (ZE.o.blk fun q hq=>bM.block q (ZE.o.lt q hq));have k7:=CO.o.m.eL (b:=fb) ha0 (by rw[j3];exact ha1);have f7:=CO.o.m.NP (b:=fb) ha0 (by rw[j3];exact ha1);rw[wE]at k7 f7;rw[VM a ta fa _ (by have:=HFT.o;omega),lF.o]at k7;clear bM z0 z1;have kA:=qh (CO.o.N2 (b:=fb) ha0 (by rw[j3];exact ha1) (bR.nil w7) (fun q hq=>by cases hq) (fun q hq=>by cases hq))
   go_wp2_with fail
   go_ret
   have h8:=kA.o;rw[wE]at h8;have e8:bB (bB s 2 ta (nf+nt)) fb fa 0=bO s fb fa 2 ta:=by
    unfold bO;rw[←jS.o,←TN.o]
   exact zP21x0
end
end Go.Proofs.YtimlpmbabbbcaaaGreat
namespace Go.Proofs.YtimlpmbabbbcaaaGreat
open Go.RowKit
section
variable {tg:Nat→Nat}{a:bV}{s:aP}{D:Nat}{w:World}
theorem At.L {wb:World}{eP:Nat→Nat}{g:Nat}(h:At wb eP g s w tg a):∃AL cL,a.L=.slice AL s.n cL:=by
 obtain⟨xs,hx,_⟩:=h.m.l;exact aE hx
theorem At.Bu {wb:World}{eP:Nat→Nat}{g:Nat}{w0:World}(h:At wb eP g s w0 tg a)(r0:zX tg a s 5 w)(hfr:Fr w0 w (fZ tg)){v:Value}{m:Nat}(hv:o8 tg w v m)(hf:Free tg v 5)(hnew:∀q,v.ownBlock=some q→eP q≠0∨wb.heap.size≤q):
 At wb eP g {s with n:=m} (w.setCell ⟨a.g,5,none⟩ v) (retag tg v 5) {a with L:=v}:=
 ⟨h.g,h.m.Bu r0 hfr.size hv hf,h.fr (hfr.set (p:=⟨a.g,5,none⟩) (by unfold fZ;rw[h.m.tm];omega) v),fun q hq=>by
  unfold retag at hq
  split at hq
  ·exact hnew q ‹_›
  ·exact h.t q hq⟩
theorem Gt (s:aP)(b x:Int)(q:Nat):{bB s b x q with n:=s.n+1}=bB (more s) b x q:=by unfold bB more;split<;>rfl
theorem N4 (k d fb fa tb ta c r:Int)(v:Value)(m:Nat)(H:Mem tg a s w)(hs:d8 s D)(j7:fb=1∨fb=2)(ha0:0≤fa)(ha1:fa<s.W)(hn:s.n<300)(hv:bR w v m)(hm:m≤1000)(hpar:∀q,v.ownBlock=some q→8≤tg q∧¬(lR a fb fa).ownBlock=some q):
 Calls Tryz.prog 106 #[.pointer (some ⟨a.g,0,none⟩),.agg #[.int .i64 k,.int .i64 d,.int .i64 fb,.int .i64 fa,.int .i64 tb,.int .i64 ta,.int .i64 c,.int .i64 r],v] w fun e w'=>e=.returned (.tuple #[])∧Moved w tg a.g (bB (more s) fb fa (aU s fb fa+1)) w':=by
 obtain⟨i0,hi,iz,is,ib⟩:=info_parts zR;obtain⟨j0,hj,jz,js,jb⟩:=info_parts Vs;have hg:Below w.heap.size w (w.alloc (.cells #[.int .i64 k,.int .i64 d,.int .i64 fb,.int .i64 fa,.int .i64 tb,.int .i64 ta,.int .i64 c,.int .i64 r] 51)):=qb;have lI:=qh ((At.start H).below hg);have dG:=lU w k d fb fa tb ta c r;have dE:=qh dG;obtain⟨nf,hnf⟩:=qx (aU s fb fa);have lT:nf≤4:=by rw[hnf];exact cY hs ha0 ha1
 have hlf:=lI.o.m.nP (b:=fb) ha0 ha1;rw[←hnf]at hlf;obtain⟨Af,cf,hvf⟩:=hlf.form;have lF:=qh hvf;have jS:=qh hnf;rw[hvf]at hlf hpar;have OD:=qh hlf;have acy:=qh hpar;have HV0:=qh (hv.blk (w':=w.alloc (.cells #[.int .i64 k,.int .i64 d,.int .i64 fb,.int .i64 fa,.int .i64 tb,.int .i64 ta,.int .i64 c,.int .i64 r] 51)) fun q hq=>hg.block q (hv.lt q hq));have C8:Hq (∀q,(Value.slice Af nf cf).ownBlock=some q→tg q=jH fb fa):=qh (by rw[←hvf];exact H.W8 ha0 ha1);have ZH:Hq (∀b,cA a b<w.heap.size):=qh fun b=>H.lt _ (NY H b);have GO:Hq (∀b,tg (cA a b)=2∨tg (cA a b)=3):=qh fun b=>by unfold cA;split;exact .inl H.tf;exact .inr H.tk
 obtain⟨Av,cv,rfl⟩:=hv.form;have e2:=dG.c2;have e3:=dG.c3;have HGL:=qh (H.lt a.g (by rw[H.tm];omega));have vI:=qh H.tm;have iN:Hq (∀q,tg q≠0→q<w.heap.size):=qh H.lt;have agB:Hq (∀q,(Value.slice Af nf cf).ownBlock=some q→q<w.heap.size):=qh fun q hq=>H.lt q (by rw[C8.o q hq];have:=iX fb fa;omega);clear H hs hlf hvf hnf hv hpar dG hg
 go_enter Tryz.func106,Tryz.ntmps106
 go_wp2_with fail
 refine(dJ fb fa lI.o.m j7 ha0 ha1).mono ?_;rintro e w1 ⟨rfl,hb1⟩;have HA1:=qh (lI.o.below hb1);have aT:=qh ((gN _ _ _ _ _ _ _ _ _ _).1 _ _ dE.o fun q hq=>by subst hq;exact hb1.block _ (World.block_lt_of_cell? _ _ dE.o.c0));have EY:=qh (HV0.o.blk fun q hq=>hb1.block q (HV0.o.lt q hq));have ZF:=qh (OD.o.blk fun q hq=>hb1.block q (OD.o.lt q hq));have kc:=HA1.o.m.eL (b:=fb) ha0 ha1;rw[lF.o]at kc;have kf:=HA1.o.m.NP (b:=fb) ha0 ha1;obtain⟨AL,cL,hL⟩:=HA1.o.L;have HL:=qh hL;have m5:w1.cell? ⟨a.g,5,none⟩=some (.slice AL s.n cL):=(HA1.o.m.m.cell 5).trans (by rw[←hL];rfl);obtain⟨xs,hxs⟩:=ZF.o;have C6:=qh hxs;clear hb1 hL hxs e2 e3
 go_wp2_with fail
 have kca:=(World.cell?_alloc_some w1 ⟨cA a fb,fa.toNat,none⟩ (.cells #[.int .i64 s.n] 2) (by rw[kc];rfl)).trans kc
 go_region_law (refine zO w1.drew (by rfl) (.tmp 14) (.tmp 20) _ (by rfl) 0 2 i0 _ 1 8 Tryz.underlying61 hi iz is ib rfl qo (.slice Af nf cf) nf (ints xs) (by rfl) C6.o _ 1 1 [.int .i64 s.n] (by rfl) rfl (by simp[Value.oneCell']) qm qo (Nat.zero_le _) ?_;intro v2 w2 hown2 hfr2 fI;obtain⟨A2,c2,rfl⟩:=aE hown2;have hbn:¬(Value.slice Af nf cf).ownBlock=some (cA a fb):=(fun e=>by have h1:=C8.o _ e;have h2:=GO.o fb;have:=iX fb fa;omega);have hbl:cA a fb<w1.drew.heap.size:=World.block_lt_of_cell? w1 _ kc;have k2:=(hfr2.cells hbl hbn fa.toNat).trans kc;have f2:w2.frozen? ⟨cA a fb,fa.toNat,none⟩=false:=(World.frozen?_of_block (w:=w1.drew) (a:=⟨cA a fb,fa.toNat,none⟩) (hfr2.block _ hbl hbn)).trans kf;have gP:=qh hown2;have CJ:=qh hfr2;have KL:=qh fI;clear hown2 hfr2 fI hbn hbl)
 all_goals
  have ZL:Hq (Fr w1 w2 (fun b=>(Value.slice Af nf cf).ownBlock=some b)):=qh ⟨CJ.o.os,CJ.o.tape,CJ.o.output,CJ.o.size,CJ.o.block⟩;have cT:Hq (∀q,(Value.slice A2 (nf+1) c2).ownBlock=some q→tg q=jH fb fa∨(tg q=0∧w1.heap.size≤q)):=qh fun q hq=>by
   rcases KL.o with h|h
   ·exact .inl (C8.o q (h.symm.trans hq))
   ·rw[hq]at h
    have h':q=w1.heap.size+1:=Option.some.inj h;exact .inr ⟨Decidable.byContradiction fun hn=>by have:=HA1.o.m.lt q hn;omega,by omega⟩
  have HA2:=qh (HA1.o.VL (b:=fb) (x:=fa) (w:=w2) (v:=.slice A2 (nf+1) c2) (m:=nf+1) ha0 ha1 (HA1.o.m.rest (jH fb fa) fun b hb hc=>ZL.o.block b (HA1.o.m.lt b hb) fun e=>hc (C8.o b e)) (ZL.o.mono fun b hb=>by unfold fZ;rw[C8.o b hb];have:=iX fb fa;omega) ⟨xs++[(s.n:Int)],by rw[aL];exact gP.o⟩ (fun q hq=>by rcases cT.o q hq with h|h;exact .inr h;exact .inl h.1) (fun q hq=>by rcases cT.o q hq with h|h;exact .inl (by rw[h];have:=iX fb fa;omega);exact .inr (Nat.le_trans HA1.o.f.size h.2)));have Nf:Hq (retag tg (.slice A2 (nf+1) c2) (jH fb fa) w.heap.size=0):=qh (by
   have hz1:w.heap.size<w1.heap.size:=World.block_lt_of_cell? _ _ aT.o.c0;unfold retag;rw[if_neg (fun e=>by
    rcases cT.o _ e with h|h
    ·have h1:=iN.o w.heap.size (by rw[h];have:=iX fb fa;omega)
     omega
    ·omega)]
   exact Decidable.byContradiction fun hn=>by have:=iN.o _ hn;omega)
  have aI:Hq (kO w.heap.size 0 k d fb fa tb ta c r (w2.setCell ⟨cA a fb,fa.toNat,none⟩ (.slice A2 (nf+1) c2))):=qh ((gN _ _ _ _ _ _ _ _ _ _).1 _ _ aT.o fun q hq=>by
   subst hq;exact(bI _ _ _ _ (by intro e;have h1:=ZH.o fb;rw[←show w.heap.size=cA a fb from e]at h1;omega)).trans (ZL.o.block _ (World.block_lt_of_cell? _ _ aT.o.c0) fun e=>by have:=agB.o _ e;omega))
  have I4:Hq (bR (w2.setCell ⟨cA a fb,fa.toNat,none⟩ (.slice A2 (nf+1) c2)) (.slice Av m cv) m):=qh (EY.o.blk fun q hq=>by
   refine(bI _ _ _ _ ?_).trans (ZL.o.block q (EY.o.lt q hq) (acy.o q hq).2);intro e;have h1:=(acy.o q hq).1;rw[show q=cA a fb from e]at h1;have h2:=GO.o fb;omega)
  have q5:(w2.setCell ⟨cA a fb,fa.toNat,none⟩ (.slice A2 (nf+1) c2)).cell? ⟨a.g,5,none⟩=some (.slice AL s.n cL):=by
   have h:=HA2.o.m.m.cell 5;rw[xQ]at h;refine h.trans ?_;show some (s8 a fb fa (.slice A2 (nf+1) c2)).L=_;rw[VN,HL.o]
  clear kc kf m5 k2 f2 kca;obtain⟨W2,hW2⟩:=qx (w2.setCell ⟨cA a fb,fa.toNat,none⟩ (.slice A2 (nf+1) c2));rw[←hW2]at HA2 aI I4 q5 ⊢;have o0:=aI.o.c0;have o1:=aI.o.c1;have o2:=aI.o.c2;have o3:=aI.o.c3;have o6:=aI.o.c6;clear hW2 CJ gP KL ZL lI dE OD HV0 aT EY ZF C6;rw[Nat.zero_add]at o1 o2 o3 o6
  go_wp2_with fail
  refine aY (S:=fun w'=>w'.cell? ⟨a.g,5,none⟩=some (.slice AL s.n cL)∧w'.cell? ⟨w.heap.size,0,none⟩=some (.int .i64 k)∧w'.cell? ⟨w.heap.size,1,none⟩=some (.int .i64 d)∧w'.cell? ⟨w.heap.size,2,none⟩=some (.int .i64 fb)∧w'.cell? ⟨w.heap.size,2+1,none⟩=some (.int .i64 fa)∧w'.cell? ⟨w.heap.size,6,none⟩=some (.int .i64 c)) _ qj qk qk ⟨q5,o0,o1,o2,o3,o6⟩ (fun hHeld=>?_)
  simp only[List.dropLast,List.getLast_cons_cons,List.getLast_singleton,List.length_cons,List.length_nil]
  refine qt 0 hHeld ?_
  simp only[List.getElem_toArray,List.getElem_cons_zero,Act.put,List.setIfInBounds_toArray,List.set_cons_zero,List.set_cons_succ]
  refine qt 1 hHeld ?_;refine qt 2 hHeld ?_;refine qt 3 hHeld ?_;refine qt 4 hHeld ?_;refine qt 5 hHeld ?_;refine qt 6 hHeld ?_;refine qt 7 hHeld ?_;refine qt 8 hHeld ?_;refine qt 9 hHeld ?_;refine qt 10 hHeld ?_;refine qt 11 hHeld ?_;refine qt 12 hHeld ?_;refine qt 13 hHeld ?_;refine qt 14 hHeld ?_;refine qt 15 hHeld ?_;refine qt 16 hHeld ?_;refine qt 17 hHeld ?_
  simp only[List.getElem_toArray,List.getElem_cons_succ,List.getElem_cons_zero,Act.put,List.setIfInBounds_toArray,List.set_cons_zero,List.set_cons_succ]
  refine wpAnyH_ready (rs:=[18]) qk qj ?_;refine AllReadyH.cons rfl (fun K hK=>?_) AllReadyH.nil
  simp only[List.getElem_toArray,List.getElem_cons_succ,List.getElem_cons_zero]
  go_simp
  refine(ko _ m W2.drew (I4.o.blk fun _ _=>rfl) qo).mono ?_;rintro e w3 ⟨vp,rfl,hlp,hnp,hb3⟩;obtain⟨Ap,cp,rfl⟩:=hlp.form;have HB3:Hq (Below W2.heap.size W2 w3):=qh (((Below.refl W2.heap.size W2).drew).trans hb3);have K6:Hq (w.heap.size<W2.heap.size):=qh (World.block_lt_of_cell? W2 _ o0);have OY:=((aC HB3.o).1 a.g 5 (World.block_lt_of_cell? W2 _ q5)).trans q5;have OX:=((aC HB3.o).1 w.heap.size 0 (World.block_lt_of_cell? W2 _ o0)).trans o0;have M4:=((aC HB3.o).1 w.heap.size 1 (World.block_lt_of_cell? W2 _ o0)).trans o1;have WO:=((aC HB3.o).1 w.heap.size 2 (World.block_lt_of_cell? W2 _ o0)).trans o2;have WN:=((aC HB3.o).1 w.heap.size (2+1) (World.block_lt_of_cell? W2 _ o0)).trans o3;have WM:=((aC HB3.o).1 w.heap.size 6 (World.block_lt_of_cell? W2 _ o0)).trans o6;clear hb3 q5 o0 o1 o2 o3 o6;refine hK.out _ _ ⟨OY,OX,M4,WO,WN,WM⟩ (fun bT=>?_);clear hK K hHeld;refine qt 19 bT ?_
  simp only[List.getElem_toArray,List.getElem_cons_succ,List.getElem_cons_zero,Act.put,List.setIfInBounds_toArray,List.set_cons_zero,List.set_cons_succ]
  refine wpAnyH_ready (rs:=[20]) qk qj ?_;refine AllReadyH.cons rfl (fun K hK=>?_) AllReadyH.nil
  simp only[List.getElem_toArray,List.getElem_cons_succ,List.getElem_cons_zero]
  go_simp
  refine hK.out _ _ (by go_keep) (fun dK=>?_);clear hK K bT;refine wpAnyH_ready (rs:=[21]) qk qj ?_;refine AllReadyH.cons rfl (fun K hK=>?_) AllReadyH.nil
  simp only[List.getElem_toArray,List.getElem_cons_succ,List.getElem_cons_zero]
  have adq:=HA2.o.below HB3.o;have hsz2:=HA2.o.f.size;obtain⟨p8,oS⟩:=qx (retag (retag tg (.slice A2 (nf+1) c2) (jH fb fa)) (.slice Ap m cp) 7);have g7:=qh (show At _ _ _ _ w3 p8 _ from oS▸adq.UZ (fun q hq=>.inr (Decidable.byContradiction fun hne=>by have h1:=HA2.o.m.lt q hne;have h2:W2.heap.size≤q:=hnp q hq;omega)) hlp.lt fun q hq=>by have h2:W2.heap.size≤q:=hnp q hq;omega);have htp:fE p8 (.slice Ap m cp) 7:=oS▸pV _ _;have aaW:p8 w.heap.size=0:=by
   rw[oS];unfold retag;rw[if_neg (fun e=>by have h2:W2.heap.size≤w.heap.size:=hnp _ e;have h3:=K6.o;omega)];exact Nf.o
  obtain⟨ys,hys,hps⟩:=g7.o.m.l;rw[VN,HL.o,IX]at hys;refine zO w3 (by rfl) (.tmp 27) (.tmp 43) _ (by rfl) 0 191 j0 _ 6 64 Tryz.underlying91 hj jz js jb rfl qo (.slice AL s.n cL) s.n ys (by rfl) hys _ 1 1 [.int .i64 k,.int .i64 c,.int .i64 fb,.int .i64 fa,.int .i64 d,.slice Ap m cp] (by rfl) rfl (by simp[Value.oneCell']) qm qo (Nat.zero_le _) ?_;intro v4 w4 Dt tY wO;obtain⟨A4,c4,rfl⟩:=aE Dt;have gG:∀b,(Value.slice AL s.n cL).ownBlock=some b→p8 b=5:=fun b hb=>g7.o.m.tL b (by rw[VN,HL.o];exact hb);have GY:=g7.o.m.tm;rw[xQ]at GY;have hgn:¬(Value.slice AL s.n cL).ownBlock=some a.g:=fun e=>by have:=gG _ e;omega
  have htb:p8 w.heap.size=0:=aaW;have hon:¬(Value.slice AL s.n cL).ownBlock=some w.heap.size:=fun e=>by have:=gG _ e;omega
  have dM:=World.block_lt_of_cell? w3 _ OY;have hlo:=World.block_lt_of_cell? w3 _ OX;have aaM:=(tY.cells dM hgn 5).trans OY;have aaL:=(tY.cells hlo hon 0).trans OX;have aaK:=(tY.cells hlo hon 1).trans M4;have aaJ:=(tY.cells hlo hon 2).trans WO;have aaI:=(tY.cells hlo hon (2+1)).trans WN;have aaH:=(tY.cells hlo hon 6).trans WM;have hmf:=g7.o.m.m;rw[xQ]at hmf;have afn:w4.frozen? ⟨a.g,5,none⟩=false:=(World.frozen?_of_block (w:=w3) (a:=⟨a.g,5,none⟩) (tY.block a.g dM hgn)).trans (hmf.frozen 5);refine hK.out _ _ ⟨aaM,aaL,aaK,aaJ,aaI,aaH⟩ (fun bF=>?_);clear hK K dK;have oF:∀q,(Value.slice A4 (s.n+1) c4).ownBlock=some q→p8 q=5∨(p8 q=0∧w3.heap.size≤q):=fun q hq=>by
   rcases wO with h|h
   ·exact .inl (gG q (h.symm.trans hq))
   ·rw[hq]at h
    have h':q=w3.heap.size+1:=Option.some.inj h;exact .inr ⟨Decidable.byContradiction fun hn=>by have:=g7.o.m.lt q hn;omega,by omega⟩
  have dC:=qh (g7.o.Bu (w:=w4) (m:=s.n+1) (g7.o.m.rest 5 fun b hb h5=>tY.block b (g7.o.m.lt b hb) fun e=>h5 (gG b e)) (tY.mono fun b hb=>by unfold fZ;rw[gG b hb];omega) (o8.more Dt hys.1 (by simpa only[IX]using hps) (T4 _ _ _ _ _ _) (by rfl) qo hlp htp fun b hb=>tY.block b (g7.o.m.lt b qo) fun e=>by have:=gG b e;omega) (fun q hq=>by rcases oF q hq with h|h;exact .inr h;exact .inl h.1) (fun q hq=>by rcases oF q hq with h|h;exact g7.o.t q qo;exact .inr (Nat.le_trans g7.o.f.size h.2)));clear gG hgn hon dM hlo OY OX M4 WO WN WM tY Dt wO hys oF GY htb hmf aaW htp hps hsz2 adq hnp hlp;refine qt 22 bF ?_;refine qt 23 bF ?_
  simp only[List.getElem_toArray,List.getElem_cons_succ,List.getElem_cons_zero,Act.put,List.setIfInBounds_toArray,List.set_cons_zero,List.set_cons_succ]
  refine wpAnyH_done qk ?_ _;refine bZ.of ?_
  go_simp
  clear bF aaM aaL aaK aaJ aaI aaH afn
  go_wp2_with fail
  go_end0
  refine⟨rfl,?_⟩;have h5:=dC.o.moved;rw[xQ]at h5;rw[←jS.o,←Gt];exact h5
end
end Go.Proofs.YtimlpmbabbbcaaaGreat
