/- Walks and plain lemmas. -/
import Derived.Test.YtmnbgjnipbpiaaaGreatP15
import Derived.Handy
set_option linter.unusedVariables false
set_option linter.unusedSimpArgs false
set_option maxHeartbeats 4000000
set_option maxRecDepth 20000
namespace Go.Proofs.YtmnbgjnipbpiaaaGreat
open Go.RowKit
theorem FP {n:Nat}(L:List (G.PM n))(T:List Int)(x:Int):G.wl n L (T++[x])=if 0<x then G.wl n L T++[G.sig n x.natAbs]else(G.wl n L T).map G.PM.flip++[G.neg n x.natAbs]:=by
 induction T generalizing L with
 |nil=>rfl
 |cons y T ih=>exact ih _
theorem FO (P:Int)(T:List Int)(x:Int):G.wp P (T++[x])=if 0<x then G.wp P T else G.wp P T-1:=by
 induction T generalizing P with
 |nil=>rfl
 |cons y T ih=>exact ih _
theorem AQ {n:Nat}(T:List Int):∀L:List (G.PM n),(G.wl n L T).length=L.length+T.length:=by
 induction T with
 |nil=>intro L;rfl
 |cons y T ih=>
  intro L
  simp only[G.wl]
  rw[ih]
  split
  ·simp
   omega
  ·simp
   omega
theorem AP (T:List Int):∀P:Int,P-T.length≤G.wp P T∧G.wp P T≤P:=by
 induction T with
 |nil=>intro P;simp[G.wp]
 |cons y T ih=>
  intro P
  simp only[G.wp]
  have h:=ih (if 0<y then P else P-1);have h2:(if 0<y then P else P-1)=P∨(if 0<y then P else P-1)=P-1:=by split<;>simp
  simp only[List.length_cons]
  omega
def NF {n:Nat}(w:World)(s:Int×List (G.PM n))(e:Ending)(w':World):Prop:=∃v As cs,e=.returned (.agg #[.int .i64 n,.int .i64 s.1,v])∧aT w.heap.size v (s.2.map G.pl) As cs w'∧Below w.heap.size w w'
def KM {n:Nat}(w:World)(s:Int×List (G.PM n))(e:Ending)(w':World):Prop:=∃v As cs,e=.returned (.agg #[.int .i64 n,.int .i64 s.1,v])∧aT w.heap.size v (s.2.map G.pl) As cs w'∧Up w.heap.size n s.2.length As∧Below w.heap.size w w'
theorem iI {n B C g:Nat}{v:Value}{L:List (G.PM n)}{As:Nat→Option Addr}{cs:Nat→Nat}{w:World}(h:aT B v (L.map G.pl) As cs w)(hU:Up C n L.length As)(h1:g<B)(h2:g<C)(i:Nat)(u:Value):aT B v (L.map G.pl) As cs (w.setCell ⟨g,i,none⟩ u):=h.keep fun b hb=>Below.heap_setCell w _ u b (by
 rcases hb with hb|⟨j,hj,hb⟩
 ·have:=(h.own.lt b hb).1
  show b≠g;omega
 ·rw[List.length_map]at hj
  rw[gH (List.getElem?_eq_getElem hj),G.a6]at hb;have:=hU j hj b hb;show b≠g;omega)
theorem fI {B:Nat}{n:Nat}{v:Value}{L:List (G.PM n)}{As:Nat→Option Addr}{cs:Nat→Nat}{w:World}(h:aT B v (L.map G.pl) As cs w):∃A c,v=.slice A L.length c:=by
 obtain⟨A,c,e⟩:=aD h.own;rw[List.length_map]at e;exact⟨A,c,e⟩
theorem kC {n:Nat}(W:List Int)(A:OA)(c:Nat)(w:World)(ha:aG w A W)(hn:2≤n∨W=[])(hn2:n≤1000)(hw:G.Word n W)(hl:W.length≤100000):
 Calls Tryz.prog 37 #[.int .i64 n,.slice A W.length c] w (KM w (G.acts n (0,[]) W:Int×List (G.PM n))):=by
 obtain⟨i0,hi,iz,is,ib⟩:=info_parts oD;have HW:=qh hw;have HA:=qh ha;have iY:=qh (show G.acts n (0,[]) W=G.nor (G.wp 0 W) (G.wl n [] W)from by
  rcases hn with hn|hn
  ·exact G.DC hn W
  ·rw[hn]
   exact(G.xQ 0).symm)
 clear hn;have fN:=qh (show∀k,k≤W.length→(G.wl n [] (W.take k)).length=k from fun k hk=>by rw[AQ,List.length_take,List.length_nil];omega);have gE:=qh (show∀k,k≤W.length→ -(k:Int)≤G.wp 0 (W.take k)∧G.wp 0 (W.take k)≤0 from fun k hk=>by
  have h1:=AP (W.take k) 0;rw[List.length_take,Nat.min_eq_left hk]at h1;omega)
 have MG:=qh (((aA.at_ w 72 #[.int .i64 0,.int .i64 0,.slice none 0 0] rfl).alloc (.cells #[.int .i64 n,.int .i64 0,.slice none 0 0] 72)).alloc (.cells #[] 74));have D2:=qh ((aA.at_ (g':=w.heap.size+1) (w.alloc (.cells #[.int .i64 0,.int .i64 0,.slice none 0 0] 72)) 72 #[.int .i64 n,.int .i64 0,.slice none 0 0] qj).alloc (.cells #[] 74));have HB:=qh ((((Below.refl w.heap.size w).alloc ql (.cells #[.int .i64 0,.int .i64 0,.slice none 0 0] 72)).alloc qj (.cells #[.int .i64 n,.int .i64 0,.slice none 0 0] 72)).alloc (by simp;omega) (.cells #[] 74));have HO:=qh (World.ownsRow_made (base:=w.heap.size+1+1) (e:=74) (size:=1) ((w.alloc (.cells #[.int .i64 0,.int .i64 0,.slice none 0 0] 72)).alloc (.cells #[.int .i64 n,.int .i64 0,.slice none 0 0] 72)) #[] 0 qj qm rfl);clear ha hw
 go_enter Tryz.func37,Tryz.ntmps37
 go_wp2_with fail
 go_loopw [6,7,8] (fun v x y wr=>∃(k:Nat) (Bs:Nat→OA) (ds:Nat→Nat),k≤W.length∧x=.int .i64 k∧Hq (aT (w.heap.size+1+1) v ((G.wl n [] (W.take k)).map G.pl) Bs ds wr)∧Hq (Up (w.heap.size+1+1) n k Bs)∧Hq (aA wr (w.heap.size+1) 72 #[.int .i64 n,.int .i64 (G.wp 0 (W.take k)),.slice none 0 0])∧Hq (aA wr w.heap.size 72 #[.int .i64 0,.int .i64 0,.slice none 0 0])∧Hq (Below w.heap.size w wr)) (fun _ x _ _=>W.length-(intOf x).toNat)
 case atStart=>exact⟨0,fun _=>none,fun _=>0,Nat.zero_le _,rfl,qh (aT.nil (by simpa using HO.o) _ _),qh (fun j hj=>absurd hj (Nat.not_lt_zero j)),D2,MG,HB⟩
 case round=>
  obtain⟨k,Bs,ds,hk,rfl,HL,HU,H5,H4,eY⟩:=hrel;clear HO HB MG D2;have hlk:=fN.o k hk;have hpb:=gE.o k hk
  by_cases hlt:k<W.length
  ·obtain⟨ga,o,rfl,hg,hr⟩:=HA.o qo
   have hc:=a7 eY.o hg (hr k hlt);have hwx:=HW.o (W.getD k 0) (by simp[List.getD,hlt]);have lE:=qh (show W.take (k+1)=W.take k++[W.getD k 0]by rw[List.take_succ_eq_append_getElem hlt];simp[List.getD,hlt]);have dK:=qh (FP (n:=n) [] (W.take k) (W.getD k 0));have CT:=qh (FO 0 (W.take k) (W.getD k 0));rw[←lE.o]at dK CT;obtain⟨x,hx⟩:=qx (W.getD k 0);obtain⟨M,hM⟩:=qx (G.wl n [] (W.take k));obtain⟨P,hP⟩:=qx (G.wp 0 (W.take k))
   simp only[←hx]at hc hwx dK CT
   rw[←hM]at HL dK hlk;rw[←hP]at H5 CT hpb;have hxb: -1000000≤x∧x≤1000000:=qo;obtain⟨a,ha⟩:=qx (x.natAbs);rw[←ha]at hwx dK;have ha1:1≤a:=qo;have han:=hwx.2;have b1:(0:Int)≤(k:Int):=qo;have b2:(k:Int)<(W.length:Int):=qo;have Q3:=qh ha;have s5:=H5.o.lt;have s4:=H4.o.lt;obtain⟨A6,c6,rfl⟩:=fI HL.o;have J6:=qh HL.o.F3;have PQ:=qh (show(M.map G.pl).length=k by rw[List.length_map];exact hlk);clear hr hx hM hP ha
   go_wp2_with fail
   refine(x6 x _ qo).mono ?_;rintro e w1 ⟨rfl,rfl⟩;rw[←Q3.o]
   by_cases hp:0<x
   ·have ES:=qh (dK.o.trans (if_pos hp))
    have ER:=qh (CT.o.trans (if_pos hp))
    go_wp2_with fail
    refine(fS n _ hn2).mono ?_;rintro e w2 h2;obtain⟨A2,c2,rfl,_,hr2,hb2⟩:=h2.rd;rw[G.a6];have HR2:=qh hr2;have HB2:=qh hb2;clear h2 hr2 hb2
    go_wp2_with fail
    refine(i7 G.one a A2 c2 _ HR2.o hn2 ha1 han).mono ?_;rintro e w3 h3;obtain⟨A3,c3,rfl,ho3,hr3,hb3⟩:=h3.rd;rw[G.a6];have HB3:=HB2.st hb3;have kN:=qh (HL.o.below HB3.o);have HR3:=qh hr3;have eC:=qh ho3;have HW3:=qh (eY.o.trans (HB3.o.mono eY.o.size));have h5:=H5.o.below HB3.o s5;have h4:=H4.o.below HB3.o s4;have fD:=qh (show∀b,Fb A3 n b→wr.heap.size≤b from fun b hb=>by
     rw[←G.a6 (p:=(G.one:G.PM n).aM a)]at hb;have h1:=fA eC.o hb;have h2:=HB2.o.size;omega)
    have hz3:w.heap.size+1+1≤w3.heap.size:=by
     have:=h5.lt;omega
    have nK:=qh h5;have mM:=qh h4;clear h3 hr3 hb3 ho3 h5 h4;have hlm:=PQ.o;obtain⟨Ls,jI⟩:=qx (M.map G.pl);have CX:=qh jI;rw[←jI]at kN hlm;clear jI;rw[hlk]at kN;have NT:=qh (show w3.ownsRow (w.heap.size+1+1) 74 1 (.slice A6 k c6) k ((List.range k).map fun j=>.slice (Bs j) (Ls.getD j []).length (ds j))from by
     have h1:=kN.o.own;rwa[hlm]at h1)
    go_wp2_with (at_builtin;go_must (refine eJ w3 rfl (.tmp 30) (.tmp 35) _ rfl (w.heap.size+1+1) 74 i0 _ 1 24 Tryz.underlying65 hi iz is ib rfl qo (.slice A6 k c6) k _ rfl NT.o _ 1 1 _ rfl rfl (by simp[Value.oneCell']) qm qo hz3 ?_);intro v' w' hown' hf' hat';have HOWN':=qh hown';have bL:=qh hf';have dT:=qh hat';clear hown' hf' hat')
    have JE:=qh (kN.o.snoc HR3.o (c:=c3) (fun b hb he=>by
     rw[G.a6]at hb;have h1:=fD.o b hb;have h2:=(HL.o.own.lt b (by rw[hlk];exact he)).2;omega) (by rw[G.a6,hlm];exact HOWN'.o) bL.o dT.o)
    have wD:=qh (HW3.o.trans ((bL.o.own kN.o.own hz3).mono qo));have D5:=qh (show∀g,g<w.heap.size+1+1→¬(Value.slice A6 k c6).ownBlock=some g from fun g hg he=>by
     have:=(kN.o.own.lt g he).1;omega)
    have iZ:=qh (HU.o.snoc (fun b hb=>Nat.le_trans qo (fD.o b hb)) hlm)
    go_wp2_with fail
    go_roundw
    case rel=>exact⟨k+1,_,_,by omega,qg,qh (by rw[ES.o,List.map_append,←CX.o];exact JE.o),iZ,qh (by rw[ER.o];exact nK.o.fr bL.o (D5.o _ qo)),qh (mM.o.fr bL.o (D5.o _ qo)),wD⟩
    case measure=>exact qs
   ·have ES:=qh (dK.o.trans (if_neg hp))
    have ER:=qh (CT.o.trans (if_neg hp));have m1:=H5.o.cell 1;have f1:=H5.o.frozen 1;have e1:(#[.int .i64 n,.int .i64 P,.slice none 0 0]:Array Value)[1]?=some (.int .i64 P):=rfl;rw[e1]at m1;clear e1;have hp2:P-1≤0:=qo;have JK:=qh (iI HL.o (by rw[hlk];exact HU.o) (by omega:w.heap.size+1<w.heap.size+1+1) qo 1 (.int .i64 (P-1)));have qX:=qh (show aA (wr.setCell ⟨w.heap.size+1,1,none⟩ (.int .i64 (P-1))) (w.heap.size+1) 72 #[.int .i64 n,.int .i64 (P-1),.slice none 0 0]from H5.o.cM 1 (.int .i64 (P-1)));have vU:=qh (H4.o.far (p:=⟨w.heap.size+1,1,none⟩) qj (.int .i64 (P-1)));have yV:=qh (eY.o.setCell (p:=⟨w.heap.size+1,1,none⟩) qj (.int .i64 (P-1)))
    go_wp2_with fail
    obtain⟨wq,hwq⟩:=qx (wr.setCell ⟨w.heap.size+1,1,none⟩ (.int .i64 (P-1)));rw[←hwq]at JK qX vU yV ⊢;clear hwq m1 f1 HL H5 H4 eY J6 s5 s4;have s5:=qX.o.lt;have s4:=vU.o.lt;have hfl:=pL M A6 c6 Bs ds wq JK.o.F3 hn2 qo;rw[hlk]at hfl;refine hfl.mono ?_;clear hfl;rintro e w2 ⟨v2,Cs,es,rfl,hl2,hu2,hb2⟩;obtain⟨A7,c7,rfl⟩:=fI hl2;rw[List.length_map,hlk]at hl2 hu2 ⊢;have HL2:=qh hl2;have iZ:=qh hu2;have HB2:=qh hb2;clear hl2 hu2 hb2
    go_wp2_with fail
    refine(jQ n _ hn2).mono ?_;rintro e w3 h3;obtain⟨A3,c3,rfl,_,hr3,hb3⟩:=h3.rd;rw[G.a6];have HR3:=qh hr3;have HB3:=qh hb3;clear h3 hr3 hb3
    go_wp2_with fail
    refine(i7 G.del a A3 c3 _ HR3.o hn2 ha1 han).mono ?_;rintro e w4 h4;obtain⟨A4,c4,rfl,jH,hr4,hb4⟩:=h4.rd;rw[G.a6];have bQ:=HB3.st hb4;have rA:=qh ((HL2.o.below bQ.o).mono (B:=w.heap.size+1+1) qo);have EX:=qh (HB2.o.trans (bQ.o.mono HB2.o.size));have HR4:=qh hr4;have kL:=qh jH;have dU:=qh (yV.o.trans (EX.o.mono yV.o.size));have h5:=qX.o.below EX.o s5;have h4':=vU.o.below EX.o s4;have fO:=qh (show∀b,Fb A4 n b→w2.heap.size≤b from fun b hb=>by
     rw[←G.a6 (p:=(G.del:G.PM n).aM a)]at hb;have h1:=fA kL.o hb;have h2:=HB3.o.size;omega)
    have hz2:=HB2.o.size;have eA:w.heap.size+1+1≤w4.heap.size:=by
     have:=h5.lt;omega
    have nK:=qh h5;have mM:=qh h4';clear h4 hr4 hb4 jH h5 h4';have hlm:((M.map G.PM.flip).map G.pl).length=k:=by rw[List.length_map,List.length_map];exact hlk
    obtain⟨Ls,jI⟩:∃Ls,Ls=(M.map G.PM.flip).map G.pl:=⟨_,rfl⟩;have CX:=qh jI;rw[←jI]at rA hlm;clear jI;have NS:=qh (show w4.ownsRow (w.heap.size+1+1) 74 1 (.slice A7 k c7) k ((List.range k).map fun j=>.slice (Cs j) (Ls.getD j []).length (es j))from by
     have h1:=rA.o.own;rwa[hlm]at h1)
    go_wp2_with (at_builtin;go_must (refine eJ w4 rfl (.tmp 42) (.tmp 47) _ rfl (w.heap.size+1+1) 74 i0 _ 1 24 Tryz.underlying65 hi iz is ib rfl qo (.slice A7 k c7) k _ rfl NS.o _ 1 1 _ rfl rfl (by simp[Value.oneCell']) qm qo eA ?_);intro v' w' hown' hf' hat';have HOWN':=qh hown';have bL:=qh hf';have dT:=qh hat';clear hown' hf' hat')
    have JE:=qh (rA.o.snoc HR4.o (c:=c4) (fun b hb he=>by
     rw[G.a6]at hb;have h1:=fO.o b hb;have h2:=(HL2.o.own.lt b he).2;omega) (by rw[G.a6,hlm];exact HOWN'.o) bL.o dT.o)
    have wD:=qh (dU.o.trans ((bL.o.own rA.o.own eA).mono qo));have D5:=qh (show∀g,g<w.heap.size+1+1→¬(Value.slice A7 k c7).ownBlock=some g from fun g hg he=>by
     have:=(rA.o.own.lt g he).1;omega)
    have PE:=qh ((iZ.o.mono (D:=w.heap.size+1+1) qo).snoc (fun b hb=>Nat.le_trans qo (fO.o b hb)) hlm)
    go_wp2_with fail
    go_roundw
    case rel=>exact⟨k+1,_,_,by omega,qg,qh (by rw[ES.o,List.map_append,←CX.o];exact JE.o),PE,qh (by rw[ER.o];exact nK.o.fr bL.o (D5.o _ qo)),qh (mM.o.fr bL.o (D5.o _ qo)),wD⟩
    case measure=>exact qs
  ·obtain rfl:W.length=k:=qo
   rw[List.take_length]at HL H5 hlk hpb;obtain⟨M,hM⟩:=qx (G.wl n [] W);obtain⟨P,hP⟩:=qx (G.wp 0 W);have MO:=qh (show(G.acts n (0,[]) W:Int×List (G.PM n))=(P+(G.cnt (G.nf M):Nat),G.strip (G.nf M))from by rw[iY.o,hM,hP];rfl);rw[←hM]at HL hlk;rw[←hP]at H5 hpb;clear hM hP;obtain⟨A6,c6,rfl⟩:=fI HL.o;have s5:=H5.o.lt;have s4:=H4.o.lt;have hsl:=rQ M A6 c6 Bs ds wr HL.o.F3 hn2 qo (w.heap.size+1+1) qo (by rw[hlk];exact HU.o);rw[hlk]at hsl ⊢;have HSL:=qh hsl;have hcn:G.cnt (G.nf M)≤100000:=by
    have h1:=CB (G.nf M);rw[G.qD]at h1;omega
   clear hsl
   go_wp2_with fail
   refine HSL.o.mono ?_;rintro e w2 ⟨v2,Cs,es,rfl,hl2,hu2,hb2⟩;obtain⟨A9,c9,rfl⟩:=fI hl2;have nK:=qh (H5.o.below hb2 s5);have mM:=qh (H4.o.below hb2 s4);have HW2:=eY.st hb2;have HL2:=qh hl2;have iZ:=qh hu2;clear hl2 hu2 hb2 HSL HL HU H5 H4;obtain⟨q,hq⟩:=qx (G.cnt (G.nf M));rw[←hq]at hcn MO ⊢;clear hq;have m0:=nK.o.cell 0;have m1:=nK.o.cell 1;have m2:=nK.o.cell 2;have f1:=nK.o.frozen 1;have f2:=nK.o.frozen 2;have n0:=mM.o.cell 0;have n1:=mM.o.cell 1;have n2:=mM.o.cell 2;have g0:=mM.o.frozen 0;have g1:=mM.o.frozen 1;have g2:=mM.o.frozen 2;have e0:∀a b c:Value,(#[a,b,c]:Array Value)[0]?=some a:=fun _ _ _=>rfl;have e1:∀a b c:Value,(#[a,b,c]:Array Value)[1]?=some b:=fun _ _ _=>rfl;have e2:∀a b c:Value,(#[a,b,c]:Array Value)[2]?=some c:=fun _ _ _=>rfl;rw[e0]at m0 n0;rw[e1]at m1 n1;rw[e2]at m2 n2;clear e0 e1 e2
   go_wp2_with fail
   have mL:=(((((mM.o.far (p:=⟨w.heap.size+1,1,none⟩) qj (.int .i64 (P+q))).far (p:=⟨w.heap.size+1,2,none⟩) qj (.slice A9 (G.strip (G.nf M)).length c9)).cM 0 (.int .i64 n)).cM 1 (.int .i64 (P+q))).cM 2 (.slice A9 (G.strip (G.nf M)).length c9));have hz2:=nK.o.lt;have p3:=qh (iI (iI (iI (iI (iI HL2.o iZ.o (g:=w.heap.size+1) qo qo 1 (.int .i64 (P+q))) iZ.o (g:=w.heap.size+1) qo qo 2 (.slice A9 (G.strip (G.nf M)).length c9)) iZ.o (g:=w.heap.size) qo qo 0 (.int .i64 n)) iZ.o (g:=w.heap.size) qo qo 1 (.int .i64 (P+q))) iZ.o (g:=w.heap.size) qo qo 2 (.slice A9 (G.strip (G.nf M)).length c9));have dN:=qh (((((HW2.o.setCell (p:=⟨w.heap.size+1,1,none⟩) qj (.int .i64 (P+q))).setCell (p:=⟨w.heap.size+1,2,none⟩) qj (.slice A9 (G.strip (G.nf M)).length c9)).setCell (p:=⟨w.heap.size,0,none⟩) qj (.int .i64 n)).setCell (p:=⟨w.heap.size,1,none⟩) qj (.int .i64 (P+q))).setCell (p:=⟨w.heap.size,2,none⟩) qj (.slice A9 (G.strip (G.nf M)).length c9));obtain⟨w9,dJ⟩:∃w9,w9=(((((w2.setCell ⟨w.heap.size+1,1,none⟩ (.int .i64 (P+q))).setCell ⟨w.heap.size+1,2,none⟩ (.slice A9 (G.strip (G.nf M)).length c9)).setCell ⟨w.heap.size,0,none⟩ (.int .i64 n)).setCell ⟨w.heap.size,1,none⟩ (.int .i64 (P+q))).setCell ⟨w.heap.size,2,none⟩ (.slice A9 (G.strip (G.nf M)).length c9)):=⟨_,rfl⟩;rw[←dJ]at mL p3 dN ⊢;have k0:w9.cell? ⟨w.heap.size,0,none⟩=some (.int .i64 n):=mL.cell 0;have k1:w9.cell? ⟨w.heap.size,1,none⟩=some (.int .i64 (P+q)):=mL.cell 1;have k2:w9.cell? ⟨w.heap.size,2,none⟩=some (.slice A9 (G.strip (G.nf M)).length c9):=mL.cell 2;clear dJ mL m0 m1 m2 n0 n1 n2 f1 f2 g0 g1 g2
   (try simp only[Exit.inBlock,Exit.then])
   refine bodyPost_ret (by simp[results,Tryz.results37,go_sem,k0,k1,k2];try rfl) rfl ?_;rw[MO.o];exact⟨_,Cs,es,rfl,p3.o.mono qo,iZ.o.mono qo,dN.o⟩
theorem rR {n:Nat}(W:List Int)(A:OA)(c:Nat)(w:World)(ha:aG w A W)(hn:2≤n∨W=[])(hn2:n≤1000)(hw:G.Word n W)(hl:W.length≤100000):
 Calls Tryz.prog 37 #[.int .i64 n,.slice A W.length c] w (NF w (G.acts n (0,[]) W:Int×List (G.PM n))):=
 (kC W A c w ha hn hn2 hw hl).mono fun _ _ ⟨v,As,cs,he,hl,_,hb⟩=>⟨v,As,cs,he,hl,hb⟩
end Go.Proofs.YtmnbgjnipbpiaaaGreat
