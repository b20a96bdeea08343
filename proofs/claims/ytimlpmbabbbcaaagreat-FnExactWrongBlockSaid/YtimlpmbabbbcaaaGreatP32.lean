/- Walks and plain lemmas. -/
import Derived.Test.YtimlpmbabbbcaaaGreatP31
import Derived.Test.YtimlpmbabbbcaaaGreatP30
import Derived.Test.YtimlpmbabbbcaaaGreatP27
set_option linter.unusedVariables false
set_option linter.unusedSectionVars false
set_option linter.unusedSimpArgs false
set_option maxHeartbeats 4000000
set_option maxRecDepth 20000
namespace Go.Proofs.YtimlpmbabbbcaaaGreat
open Go.RowKit
def JV (z:Nat→Int)(n:Int):Nat→Int
 |0=>n
 |k+1=>bU (z (k*6)) (z (k*6+2)) (JV z n k)
def Cx (L:List Int):Prop:=∃a,L.length=a*6∧∀t,t<a→T.evs L (t*6)=1∧ -1≤T.evs L (t*6+2)∧T.evs L (t*6+2)≤1
theorem Cx.nil:Cx []:=⟨0,rfl,fun t ht=>by omega⟩
theorem Cx.app {L M:List Int}(h:Cx L)(h':Cx M):Cx (L++M):=by
 obtain⟨a,ha,hc⟩:=h;obtain⟨b,hb,hc'⟩:=h';refine⟨a+b,by rw[List.length_append];omega,fun t ht=>?_⟩
 by_cases h:t<a
 ·have h1:=hc t h
  simp only[T.evs,List.getD,List.getElem?_append]at h1 ⊢
  rw[if_pos qo,if_pos qo];exact h1
 ·have h1:=hc' (t-a) qo
  simp only[T.evs,List.getD,List.getElem?_append]at h1 ⊢
  rw[if_neg qo,if_neg qo,show t*6-L.length=(t-a)*6 by omega,show t*6+2-L.length=(t-a)*6+2 by omega];exact h1
theorem Y7 (s:Int)(xs:List Int)(hs: -1≤s∧s≤1):Cx (bL s xs):=by
 induction xs with
 |nil=>exact Cx.nil
 |cons x xs ih=>
  have h1:Cx (gH 1 x s 0 0 0):=⟨1,rfl,fun t ht=>by
   obtain rfl:t=0:=qo;exact⟨rfl,hs⟩⟩
  exact h1.app ih
theorem abL (W:Nat)(r T9:Int)(f k:Nat→Nat)(i:Nat):Cx (T.pU W r T9 f k i):=by
 unfold T.pU
 split
 ·split
  ·exact Y7 _ _ qo
  ·exact Cx.nil
 ·split
  ·exact Y7 _ _ qo
  ·exact Cx.nil
theorem wu (W:Nat)(r T9:Int)(f k:Nat→Nat)(i:Nat):Cx (T.i6 W r T9 f k i):=by
 induction i with
 |zero=>exact Cx.nil
 |succ i ih=>exact ih.app (abL ..)
theorem Zl (W:Nat)(r:Int)(f k:Nat→Nat)(n:Nat):Cx (T.rZ W r f k n):=by
 induction n with
 |zero=>exact Cx.nil
 |succ n ih=>exact ih.app (wu ..)
theorem Zm (W:Nat)(r:Int)(f k:Nat→Nat)(n:Nat):Cx (T.tQ W r f k n):=by
 induction n with
 |zero=>exact Cx.nil
 |succ n ih=>exact ih.app (wu ..)
theorem Lj (W:Nat)(r r':Int)(f k:Nat→Nat):Cx (T.CZ W r r' f k):=by
 unfold T.CZ
 split
 ·exact Zl ..
 ·exact Zm ..
theorem Ml {L:List Int}{a:Nat}(hl:L.length=a*6)(h:Cx L)(n:Int):∀t,t≤a→JV (T.evs L) n t=n:=by
 obtain⟨b,hb,hc⟩:=h;obtain rfl:a=b:=qo;intro t
 induction t with
 |zero=>intro _;rfl
 |succ t ih=>
  intro ht
  simp only[JV,ih qo,(hc t qo).1]
  unfold bU;rw[if_neg (by decide),if_neg (by decide),if_neg (by decide)]
theorem SI (s:aP)(k d fb fa c r:Int):(k=7∧Cx (jC s k d fb fa c r))∨(k≠7∧((jC s k d fb fa c r).length=6∨jC s k d fb fa c r=[])):=by
 unfold jC
 by_cases h7:k=7
 ·rw[if_pos h7]
  exact .inl ⟨h7,Lj ..⟩
 ·rw[if_neg h7]
  refine .inr ⟨h7,?_⟩
  repeat' split
  all_goals first|exact .inl rfl|exact .inr rfl
theorem Tc {s:aP}{k d fb fa c r:Int}{a:Nat}(hl:(jC s k d fb fa c r).length=a*6)(n:Int){t:Nat}(ht:t<a):JV (T.evs (jC s k d fb fa c r)) n t=n:=by
 rcases SI s k d fb fa c r with⟨_,h⟩|⟨_,h|h⟩
 ·exact Ml hl h n t qo
 ·obtain rfl:t=0:=qo
  rfl
 ·rw[h]at hl
  simp at hl
  omega
theorem Yi {s:aP}{D:Nat}(hs:d8 s D){k d fb fa c r:Int}(f0:0≤fa)(f1:fa<s.W){a:Nat}(hl:(jC s k d fb fa c r).length=a*6){t:Nat}(ht:t<a): -4≤T.evs (jC s k d fb fa c r) (t*6+2)∧T.evs (jC s k d fb fa c r) (t*6+2)≤4:=by
 have h4:=cY (b:=fb) hs f0 f1
 rcases SI s k d fb fa c r with⟨_,b,hb,h⟩|⟨h7,h|h⟩
 ·have:=h t qo
  omega
 ·obtain rfl:t=0:=qo
  unfold jC at h ⊢;rw[if_neg h7]at h ⊢
  repeat' split
  all_goals first
   |(show-4≤((aU s fb fa:Nat):Int)∧((aU s fb fa:Nat):Int)≤4;omega)
   |(show(-4:Int)≤0∧(0:Int)≤4;omega)
   |(exfalso;simp at h)
 ·rw[h]at hl
  simp at hl
  omega
theorem LC (k p c b y d n:Int):JV (T.evs (gH k p c b y d)) n 1=bU k c n:=rfl
theorem abX {s:aP}{D:Nat}(hs:d8 s D){k d fb fa tb ta c r:Int}{j:Nat}(hp:gZ s.W k d fb fa tb ta c r j)(hB:bD k d fb fa tb ta c r=true)(hc:bJ s k d fb fa tb ta j=0){a:Nat}(hl:(jC s k d fb fa c r).length=a*6):
 JV (T.evs (jC s k d fb fa c r)) (live s) a=live (eM s k d fb fa tb ta r j):=by
 have hk1:=hp.k1;have hk9:=hp.k9;have f0:=hp.f0;have f1:=hp.f1;have t0:=hp.t0;have t1:=hp.t1;have h4:=cY (b:=fb) hs f0 f1
 by_cases h7:k=7
 ·subst h7
  rw[Ml hl (Lj ..) _ a ql];unfold eM;rw[if_neg qo,if_neg qo,if_neg qo,if_neg qo,if_pos rfl]
  rfl
 unfold bJ at hc;unfold eM;unfold jC at hl ⊢;rw[if_neg h7]at hl ⊢
 by_cases hform:k=1∨k=2∨k=5
 ·obtain⟨j7,hy⟩:=B8 hform hB
  have hle:=xE j7 f0 f1;rw[if_pos hform]at hc ⊢;unfold fQ at hc;unfold p9
  by_cases h1:k=1
  ·rw[if_pos h1]at hl ⊢
   rw[if_pos h1];have hl':live (bB (more (eD s d (aO fb fa s.rk) j)) fb fa 1)+aU s fb fa=live s+1:=sV (more (eD s d (aO fb fa s.rk) j)) fb fa 1 f0 f1;obtain rfl:a=1:=by simp[gH]at hl;omega
   rw[LC];unfold bU;rw[if_pos rfl];omega
  ·rw[if_neg h1]at hl ⊢
   rw[if_neg h1]
   by_cases h2:k=2
   ·rw[if_pos h2]at hl ⊢
    rw[if_pos h2];have hl':live (bB (more (eD s d (aO fb fa s.rk) j)) fb fa (aU s fb fa+1))+aU s fb fa=live s+(aU s fb fa+1):=sV (more (eD s d (aO fb fa s.rk) j)) fb fa (aU s fb fa+1) f0 f1;obtain rfl:a=1:=by simp[gH]at hl;omega
    rw[LC];unfold bU;rw[if_neg qo,if_pos qo];omega
   ·have h5:k=5:=qo
    rw[if_neg h2]at hl ⊢;rw[if_neg h2];rw[if_pos h5]at hl ⊢;have adG:=VV (.inr h5) hB;have hm:live (bO (eD s d (aO fb fa s.rk) j) fb fa tb ta)=live s:=SQ (s:=eD s d (aO fb fa s.rk) j) adG f0 f1 t0 t1;have hl':=sV (more (bO (eD s d (aO fb fa s.rk) j) fb fa tb ta)) fb fa 1 f0 (by show fa<((bO (eD s d (aO fb fa s.rk) j) fb fa tb ta).W:Nat);rw[BA];exact f1);have e1:live (more (bO (eD s d (aO fb fa s.rk) j) fb fa tb ta))=live (bO (eD s d (aO fb fa s.rk) j) fb fa tb ta):=rfl;have e2:aU (more (bO (eD s d (aO fb fa s.rk) j) fb fa tb ta)) fb fa=0:=Im _ 0;rw[e1,e2,hm]at hl';obtain rfl:a=1:=by simp[gH]at hl;omega
    rw[LC];unfold bU;rw[if_neg qo,if_pos qo];omega
 ·rw[if_neg (show¬k=1 by omega),if_neg (show¬k=2 by omega),if_neg (show¬k=5 by omega)]at hl ⊢
  rw[if_neg hform]at hc ⊢
  by_cases h6:k=6
  ·rw[if_neg (show¬k=3 by omega),if_neg (show¬k=4 by omega),if_pos h6]at hc ⊢
   rw[if_pos h6]at hl ⊢;subst h6;have j7:=VW hB;have hle:=xE j7 f0 f1;have hl':live (bB {s with d:=s.d+aU s fb fa} fb fa 0)+aU s fb fa=live s+0:=sV {s with d:=s.d+aU s fb fa} fb fa 0 f0 f1;obtain rfl:a=1:=by simp[gH]at hl;omega
   rw[LC];unfold bU;rw[if_neg qo,if_neg qo,if_pos rfl];omega
  ·rw[if_neg h6]at hl ⊢
   rw[if_neg h6,if_neg h7];obtain rfl:a=0:=by simp at hl;omega
   by_cases h3:k=3
   ·rw[if_pos h3]
    rfl
   ·rw[if_neg h3]
    by_cases h4:k=4
    ·rw[if_pos h4,SQ (VV (.inl h4) hB) f0 f1 t0 t1]
     rfl
    ·rw[if_neg h4]
     rfl
end Go.Proofs.YtimlpmbabbbcaaaGreat
namespace Go.Proofs.YtimlpmbabbbcaaaGreat
open Go.RowKit
theorem U4 (A B:OA)(c c':Nat)(L M:List Int)(w:World)(ha:dN w A L)(hb:dN w B M)(hn:L.length≤1048576)(hm:M.length≤1048576):
 Calls Tryz.prog 201 #[.slice A L.length c,.slice B M.length c'] w fun e w'=>e=.returned (.bool (decide (L=M)))∧∃q,w'=w.drewN q:=by
 have HE:=qh (G8 A B c c' L M w ha hb hn hm);clear ha hb
 go_enter Tryz.func201,Tryz.ntmps201
 go_wp2_with fail
 refine HE.o.mono ?_;rintro e w1 ⟨rfl,q,rfl⟩
 go_wp2_with fail
 go_ret
 exact⟨rfl,q,rfl⟩
open Classical in
theorem Ed {n:Nat}(v u:Value)(F E:List (G.PM n))(bs cs bs' cs':Nat→Nat)(B B':Nat)(w:World)(ha:dI B v F bs cs w)(hb:dI B' u E bs' cs' w)(hn:n≤1000)(hl:F.length≤1000000)(hl':E.length≤1000000):
 Calls Tryz.prog 200 #[v,u,.func (.func 201) #[] #[]] w fun e w'=>e=.returned (.bool (decide (F=E)))∧∃q,w'=w.drewN q:=by
 obtain⟨A,c,rfl⟩:=ha.own.sl;obtain⟨A',c',rfl⟩:=hb.own.sl;have HA:=qh ha;have HB:=qh hb;clear ha hb
 by_cases hle:F.length=E.length
 case neg=>
  have HD:=qh (show decide (F=E)=false from decide_eq_false fun e=>hle (by rw[e]));have hlb:((F.length:Int)==(E.length:Int))=false:=by rw[beq_eq_false_iff_ne];omega
  have hlc:¬(F.length:Int)=(E.length:Int):=qo
  go_enter Tryz.func200,Tryz.ntmps200
  go_wp2_with fail
  go_ret
  exact⟨by rw[HD.o];rfl,0,rfl⟩
 obtain⟨N,hN⟩:=qx (F.length);have M8:E.length=N:=qo;have jS:=qh hN;have lO:=qh M8
 simp only[←hN,M8]at HA HB hl ⊢
 clear hN M8 hle hl'
 go_enter Tryz.func200,Tryz.ntmps200
 go_wp2_with fail
 go_loopw [17] (fun x wr=>∃k q:Nat,k≤N∧x=.int .i64 k∧wr=w.drewN q∧Hq (F.take k=E.take k)) (fun x _=>N-(intOf x).toNat)
 case atStart=>exact⟨0,0,Nat.zero_le _,rfl,rfl,qh qj⟩
 case round=>
  obtain⟨k,q,hk,rfl,rfl,HX⟩:=hrel
  by_cases hlt:k<N
  ·obtain⟨gf,o,cp,he,hgf,_⟩:=HA.o.form (by have:=jS.o;omega)
   injection he with e1 e2 e3;clear e2;subst e1 e3;obtain⟨ge,o',cp',he',hge,_⟩:=HB.o.form (by have:=lO.o;omega);injection he' with e1 e2 e3;clear e2;subst e1 e3;obtain⟨p,hp⟩:∃p,F[k]?=some p:=⟨_,List.getElem?_eq_getElem (by have:=jS.o;omega)⟩;obtain⟨r,hr⟩:∃p,E[k]?=some p:=⟨_,List.getElem?_eq_getElem (by have:=lO.o;omega)⟩;have vv:dI B (.slice (some ⟨gf,o,none⟩) F.length c) F bs cs w:=by rw[←jS.o];exact HA.o
   have hEx:dI B' (.slice (some ⟨ge,o',none⟩) E.length c') E bs' cs' w:=by rw[lO.o];exact HB.o
   have kf:=vv.cell (j:=k) (by have:=jS.o;omega);have ke:=hEx.cell (j:=k) (by have:=lO.o;omega);have hsl:=U4 (some ⟨bs k,0,none⟩) (some ⟨bs' k,0,none⟩) (cs k) (cs' k) (G.pl p) (G.pl r) (w.drewN q) (Rd.drewN (j5 (HA.o.BV k p hp)) q) (Rd.drewN (j5 (HB.o.BV k r hr)) q) (by rw[G.aB];omega) (by rw[G.aB];omega);rw[G.aB,G.aB]at hsl;have HSL:=qh hsl;have HT1:=qh (show F.take (k+1)=F.take k++[p]by rw[List.take_add_one,hp];rfl);have HT2:=qh (show E.take (k+1)=E.take k++[r]by rw[List.take_add_one,hr];rfl);have HPF:=qh hp;have HPE:=qh hr;have b1:(0:Int)≤(k:Int):=qo;have b2:(k:Int)<(N:Int):=qo;clear vv hEx hsl hp hr
   go_wp2_with fail
   refine HSL.o.mono ?_;rintro e w4 ⟨rfl,q4,rfl⟩
   by_cases hpr:p=r
   ·have h1:decide (G.pl p=G.pl r)=true:=decide_eq_true (by rw[hpr])
    rw[h1]
    go_wp2_with fail
    go_roundw
    case rel=>exact⟨k+1,q+q4,by omega,qg,rfl,qh (by rw[HT1.o,HT2.o,HX.o,hpr])⟩
    case measure=>exact qs
   ·have h1:decide (G.pl p=G.pl r)=false:=decide_eq_false fun e=>hpr (G.OM e)
    rw[h1];have HD:=qh (show decide (F=E)=false from decide_eq_false fun e=>by
     have h2:=HPF.o;rw[e,HPE.o]at h2;injection h2 with h2;exact hpr h2.symm)
    go_wp2_with fail
    go_ret
    exact⟨by rw[HD.o];rfl,q+q4,rfl⟩
  ·obtain rfl:N=k:=qo
   have HD:=qh (show decide (F=E)=true from decide_eq_true (by
    have h:=HX.o;rwa[List.take_of_length_le (by rw[←jS.o];omega),List.take_of_length_le (by rw[lO.o];omega)]at h))
   go_wp2_with fail
   go_ret
   exact⟨by rw[HD.o];rfl,q,rfl⟩
open Classical in
theorem R0 {n:Nat}(P P':Int)(v u:Value)(F E:List (G.PM n))(bs cs bs' cs':Nat→Nat)(B B':Nat)(w:World)(ha:dI B v F bs cs w)(hb:dI B' u E bs' cs' w)(hn:n≤1000)(hl:F.length≤1000000)(hl':E.length≤1000000):
 Calls Tryz.prog 165 #[.agg #[.int .i64 n,.int .i64 P,v],.agg #[.int .i64 n,.int .i64 P',u]] w fun e w'=>e=.returned (.bool (decide ((P,F)=(P',E))))∧Below w.heap.size w w':=by
 have HW:=qh (((Below.refl w.heap.size w).alloc ql (.cells #[.int .i64 n,.int .i64 P,v] 184)).alloc qj (.cells #[.int .i64 n,.int .i64 P',u] 184));have HE:=qh (Ed v u F E bs cs bs' cs' B B' _ (ha.below HW.o) (hb.below HW.o) hn hl hl');obtain⟨A,c,rfl⟩:=ha.own.sl;obtain⟨A',c',rfl⟩:=hb.own.sl;clear ha hb
 by_cases hp:P=P'
 ·have HD:=qh (show decide ((P,F)=(P',E))=decide (F=E)from decide_eq_decide.2 ⟨fun h=>by injection h,fun h=>by rw[h,hp]⟩)
  subst hp;have hp2:(P==P)=true:=by simp
  go_enter Tryz.func165,Tryz.ntmps165
  go_wp2_with fail
  refine HE.o.mono ?_;rintro e w4 ⟨rfl,q4,rfl⟩
  go_wp2_with fail
  go_ret
  exact⟨by rw[HD.o];rfl,Below.drewN' HW.o q4⟩
 ·have HD:=qh (show decide ((P,F)=(P',E))=false from decide_eq_false fun h=>by injection h with h _;exact hp h)
  have hp2:(P==P')=false:=by simp[hp]
  go_enter Tryz.func165,Tryz.ntmps165
  go_wp2_with fail
  go_ret
  exact⟨by rw[HD.o];rfl,HW.o⟩
theorem PY {n:Nat}{W:List Int}(hl:W.length≤4500):(G.acts n ((0,[]):Int×List (G.PM n)) W).2.length≤1000000:=by
 have:=YK W ((0,[]):Int×List (G.PM n)) 0 qj qj;omega
theorem wT {n:Nat}(V W:List Int)(A B:OA)(c c':Nat)(w:World)(ha:dN w A V)(hb:dN w B W)(hn:n≤1000)(hv:G.Word n V)(hw:G.Word n W)(hlv:V.length≤4500)(hlw:W.length≤4500):
 Calls Tryz.prog 119 #[.int .i64 n,.slice A V.length c,.slice B W.length c'] w fun e w'=>e=.returned (.bool (nK n V W))∧Below w.heap.size w w':=by
 have HB:=qh hb;have TJ:=qh (show nK n V W=nK n V W from rfl);have H1:=qh (J3 V A c w ha (MP hv) hn hv hlv);have cT:=qh (fun w' h=>J3 W B c' w' h (MP hw) hn hw hlw);have hl1:=PY (n:=n) hlv;have hl2:=PY (n:=n) hlw;unfold nK at TJ;obtain⟨s,hs⟩:=qx (G.acts n ((0,[]):Int×List (G.PM n)) V);obtain⟨u,hu⟩:=qx (G.acts n ((0,[]):Int×List (G.PM n)) W);have HD:=qh (show nK n V W=@decide (s=u) (Classical.propDecidable _)from by unfold nK;rw[hs,hu];exact decide_eq_decide.2 Iff.rfl);rw[←hs]at H1 hl1;rw[←hu]at cT hl2;obtain⟨P,F⟩:=s;obtain⟨P',E⟩:=u;clear hs hu ha hb TJ
 go_enter Tryz.func119,Tryz.ntmps119
 go_wp2_with fail
 refine H1.o.mono ?_;rintro e w1 ⟨v1,pA,cs1,rfl,hf1,hb1⟩;have iC:=qh hf1;have HB1:=qh hb1;clear hf1 hb1
 go_wp2_with fail
 refine(cT.o _ (Rd.below HB.o HB1.o)).mono ?_;rintro e w2 ⟨v2,bs2,cs2,rfl,hf2,hb2⟩;have dB:=qh hf2;have agN:=qh (iC.o.below hb2);have HB2:=HB1.st hb2;clear hf2 hb2
 go_wp2_with fail
 refine(R0 P P' v1 v2 F E pA cs1 bs2 cs2 _ _ w2 agN.o dB.o hn hl1 hl2).mono ?_;rintro e w3 ⟨rfl,hb3⟩;have HB3:=HB2.st hb3;clear hb3
 go_wp2_with fail
 go_ret
 exact⟨by rw[HD.o];show Ending.returned (.bool _)=_;exact congrArg (fun b=>Ending.returned (.bool b)) (decide_eq_decide.2 Iff.rfl),HB3.o⟩
end Go.Proofs.YtimlpmbabbbcaaaGreat
namespace Go.Proofs.YtimlpmbabbbcaaaGreat
open Go.RowKit
theorem Yr (m:Nat)(hm:m≤1000000):∃cs:Array Value,cs.size=m∧∀w:World,(Instr.makeSlice 61 (.int .i64 0) (.int .i64 (m:Int))).run Tryz.prog w=.ok (.slice (some ⟨w.heap.size,0,none⟩) 0 m) (w.alloc (.cells cs 2)):=by
 obtain⟨i0,hi,iz,is,ib⟩:=info_parts info64;refine⟨madeCells (Value.int .i64 0).cells m,size_madeCells _ _,fun w=>?_⟩;have h:=run_makeSlice (P:=Tryz.prog) w 61 2 i0 (.int .i64 0) Tryz.underlying61 hi iz .i64 .i64 0 m qo qo (by rw[is];simp;omega) (by rw[ib];omega) qo;rw[is]at h
 simpa using h
theorem LQ (L:List Int)(A:OA)(c:Nat)(w:World)(ha:dN w A L)(hn:L.length≤100000)(hs:GH L):Calls Tryz.prog 118 #[.slice A L.length c] w (mC w (G.red L)):=by
 obtain⟨i0,hi,iz,is,ib⟩:=info_parts info64;obtain⟨cs,hcs,hmk⟩:=Yr L.length qo;have HO:=qh (World.ownsRow_made (e:=2) (size:=1) w cs L.length ql qm qo);have HB:=qh ((Below.refl w.heap.size w).alloc ql (.cells cs 2));have HA:=qh ha;have HS:=qh hs;have cB:=qh (show∀k,k<L.length→G.red (L.take (k+1))=G.kM (G.red (L.take k)) (L.getD k 0)from fun k hk=>by
  show List.foldl G.kM [] (L.take (k+1))=G.kM (List.foldl G.kM [] (L.take k)) _;rw[List.take_succ_eq_append_getElem hk,List.foldl_append]
  simp only[List.foldl_cons,List.foldl_nil,List.getD,List.getElem?_eq_getElem hk,Option.getD_some])
 have KE:=qh (show∀k,(G.red (L.take k)).length≤k from fun k=>by
  have:=G.tR (L.take k);rw[List.length_take]at this;omega)
 have zh:=qh (show∀k,GH (G.red (L.take k))from fun k x hx=>hs x (List.mem_of_mem_take (G.R3 hx)));clear ha hs
 go_enter Tryz.func118,Tryz.ntmps118
 go_wp2_with fail
 clear hmk
 go_loopw [3,11] (fun v x wr=>∃k:Nat,k≤L.length∧x=.int .i64 k∧Hq (wr.ownsRow w.heap.size 2 1 v (G.red (L.take k)).length (ints (G.red (L.take k))))∧Hq (Below w.heap.size w wr)) (fun _ x _=>L.length-(intOf x).toNat)
 case atStart=>exact⟨0,Nat.zero_le _,rfl,HO,HB⟩
 case round=>
  obtain⟨k,hk,rfl,aI,HB2⟩:=hrel
  by_cases hlt:k<L.length
  ·obtain⟨ga,o,rfl,hg,hr⟩:=HA.o qo
   have hc:=aD HB2.o hg (hr k hlt);have hz:=HS.o.get k;have HX:=qh (cB.o k hlt);have hle:=KE.o k;have Nh:=qh (zh.o k);obtain⟨y,hy⟩:=qx (L.getD k 0);obtain⟨R,hR⟩:=qx (G.red (L.take k))
   simp only[←hy,←hR]at hc hz HX aI hle Nh
   have b1:(0:Int)≤(k:Int):=qo;have b2:(k:Int)<(L.length:Int):=qo;clear hr hy hR
   by_cases h0:R.length=0
   ·obtain rfl:R=[]:=List.length_eq_zero_iff.1 h0
    have dP:=qh (show G.red (L.take (k+1))=[y]by rw[HX.o];rfl);obtain⟨A3,c3,rfl,_⟩:=aE aI.o;rw[List.length_nil]at aI ⊢
    go_wp2_with (at_builtin;go_must (refine bW wr rfl (.tmp 34) (.tmp 36) _ rfl w.heap.size 2 i0 _ 1 8 Tryz.underlying61 hi iz is ib rfl qo (.slice A3 0 c3) _ _ rfl aI.o _ 1 1 _ rfl rfl (by simp[Value.oneCell']) qm qo HB2.o.size ?_);intro v' w' hown' hb';have cI:=qh hown';have HB3:=qh (HB2.o.trans hb');clear hown' hb')
    go_roundw
    case rel=>exact⟨k+1,by omega,qg,qh (by rw[dP.o];exact cI.o),HB3⟩
    case measure=>exact qs
   obtain⟨g1,c1,rfl⟩:∃g1 c1,u3=.slice (some ⟨g1,0,none⟩) R.length c1:=by
    rcases aI.o.2 with⟨_,h⟩|⟨g1,cap,_,e,_⟩
    ·omega
    ·exact⟨g1,cap,e⟩
   obtain⟨r,hr⟩:∃r,R.length=r+1:=⟨R.length-1,by omega⟩;have hl:=aI.o.cellAt r qo;have hlz:=Nh.o.get r;rw[show(ints R)[r]?=some (.int .i64 (R.getD r 0))by simp[ints,List.getD,show r<R.length by omega]]at hl;have zL:=qh (show R.getLast?.getD 0=R.getD r 0 by rw[List.getLast?_eq_getElem?,hr];rfl);obtain⟨z,hzz⟩:=qx (R.getD r 0);rw[←hzz]at hl hlz zL;have lO:=qh (show R≠[]from fun e=>h0 (by rw[e];rfl));have Nj:=qh hr;have b3:(0:Int)≤(r:Int):=qo;have b4:(r:Int)<((r+1:Nat):Int):=qo;have e1:((r+1:Nat):Int)-1=(r:Int):=qo;have e2:(0:Int)<((r+1:Nat):Int):=qo;have hcap:r≤c1:=by
    rcases aI.o.2 with⟨h,_⟩|⟨_,_,_,e,_,_,h,_⟩
    ·cases h
    ·injection e with _ _ e
     omega
   have hd0:decide ((0:Int)<((r+1:Nat):Int))=true:=decide_eq_true e2;rw[hr]at aI hle ⊢;clear hzz hr h0
   by_cases hzy:z= -y
   ·have dP:=qh (show G.red (L.take (k+1))=R.dropLast by
     rw[HX.o];unfold G.kM;rw[if_pos ⟨lO.o,zL.o.trans hzy⟩])
    have d9:=qh (VQ aI.o (Nat.le_succ r));have hzb:(z== -y)=true:=by simp[hzy]
    go_wp2_with fail
    go_roundw
    case rel=>exact⟨k+1,by omega,qg,qh (by
     rw[dP.o,List.length_dropLast,←GW,Nj.o,Nat.add_sub_cancel];exact d9.o),HB2⟩
    case measure=>exact qs
   ·have dP:=qh (show G.red (L.take (k+1))=R++[y]by
     rw[HX.o];unfold G.kM;rw[if_neg fun h=>hzy (zL.o.symm.trans h.2)])
    have hzb:(z== -y)=false:=by simpa using hzy
    go_wp2_with (at_builtin;go_must (refine bW wr rfl (.tmp 34) (.tmp 36) _ rfl w.heap.size 2 i0 _ 1 8 Tryz.underlying61 hi iz is ib rfl qo (.slice (some ⟨g1,0,none⟩) (r+1) c1) _ _ rfl aI.o _ 1 1 _ rfl rfl (by simp[Value.oneCell']) qm qo HB2.o.size ?_);intro v' w' hown' hb';have cI:=qh hown';have HB3:=qh (HB2.o.trans hb');clear hown' hb')
    go_roundw
    case rel=>exact⟨k+1,by omega,qg,qh (by rw[dP.o,aL,List.length_append,Nj.o];exact cI.o),HB3⟩
    case measure=>exact qs
  ·obtain rfl:L.length=k:=qo
   go_wp2
   go_ret
   refine⟨_,rfl,?_,HB2.o⟩;have h:=aI.o;rwa[List.take_length]at h
theorem TV {P:Program}(w:World){ops:Array Oper}{rest:List Oper}{o:Oper}{a:Act}{Q:Exit→Act→World→Prop}(hgd:o.guard=none)(s x:Operand)(t tn:TypeId)
 (ho:o.op=.call {callee:=.builtin .append,args:=#[s,x],argTypes:=#[t,tn]}) (e:TypeId) (i:TypeInfo) (z:Value) (size bytes:Nat) (ht:P.underlying t=some (.slice e)) (htn:P.underlying tn=some (.int .i64)) (hi:P.info? e=some i) (hz:i.zero=some z)
 (hsize:i.size=size) (hby:i.bytes=bytes) (hzs:z.cells.size=size) (hsz:0<size) (n:Nat) (h0:0<n) (h63:n≤maxLen) (hb:n*bytes≤281474976710656)
 (hs:a.eval s=.slice none 0 0) (hx:a.eval x=.int .i64 n)
 (h:∀c w',(w'.ownsRow w.heap.size e size (.slice (some ⟨w.heap.size,0,none⟩) 0 c) 0 [])→n≤c→Below w.heap.size w w'→w.heap.size<w'.heap.size→wpList P ops Q rest (a.put o.dst (.slice (some ⟨w.heap.size,0,none⟩) n c)) w'):
 wpList P ops Q (o::rest) a w:=by
 subst hsize;subst hby;have hr:=Lib.run_append_nil_zeros (P:=P) w t tn o.type e i z .i64 .i64 ht htn hi hz n h0 hsz (by unfold maxLen at h63;omega) hb;refine wpList_plain hgd fun K hK=>?_;unfold Oper.wp execOp
 simp only[ho,resolve,invoke,builtin,Sem.run_bind,Sem.run_pure,Result.andThen_ok,List.map_toArray,List.map_cons,List.map_nil,hs,hx,hr]
 have hge:=grownCap_ge w n 0 e;have hle:=grownCap_le_maxLen w n 0 e h63;refine hK _ _ (h _ _ (World.ownsRow_made w.drew _ _ ql hle ?_) hge ?_ ?_)
 ·simp only[Array.size_append,size_zeroCells,hzs,←Nat.add_mul]
  congr 1
  omega
 ·exact(Below.refl _ _).drew.alloc ql _
 ·simp
def El (w:World)(L:List Int)(e:Ending)(w':World):Prop:=∃v,e=.returned v∧w'.ownsRow w.heap.size 2 1 v L.length (ints L)∧Below w.heap.size w w'
theorem Kn (n:Nat)(w:World)(hn:n≤4000):Calls Tryz.prog 163 #[.slice none 0 0,.int .i64 n] w (El w []):=by
 obtain⟨i0,hi,iz,is,ib⟩:=info_parts info64
 by_cases h0:0<n
 ·go_enter Tryz.func163,Tryz.ntmps163
  go_wp2_with (at_builtin;go_must (refine TV _ rfl (.tmp 20) (.tmp 21) _ _ rfl 2 i0 _ 1 8 Tryz.underlying61 Tryz.underlying3 hi iz is ib rfl qo n h0 qm qo rfl rfl ?_);intro c w' hown hc hb hlt)
  go_ret
  exact⟨_,rfl,hown,hb⟩
 ·obtain rfl:n=0:=qo
  go_enter Tryz.func163,Tryz.ntmps163
  go_wp2_with fail
  go_ret
  exact⟨_,rfl,World.ownsRow_nil _ _ _ _,Below.refl _ _⟩
theorem PT (A:OA)(c:Nat)(L:List Int)(w:World)(hr:Rd w A L.length (fun j=>.int .i64 (L.getD j 0)))(hA:A=none→c=0)(hn:L.length≤1048576):Calls Tryz.prog 154 #[.slice A L.length c] w (El w L):=by
 obtain⟨i0,hi,iz,is,ib⟩:=info_parts info64;have hb0:Below w.heap.size w (w.alloc (.cells #[] 2)):=qb;have HR:=qh (hr.below hb0);have HO:=qh (World.ownsRow_made (e:=2) (size:=1) w #[] 0 ql qm rfl);have HB:=qh hb0;have Nn:=qh hr;clear hr hb0
 cases A with
 |none=>
  have hn0:L=[]:=by
   rcases L with _|⟨x,L⟩
   ·rfl
   ·obtain⟨_,_,e,_⟩:=Nn.o qj
    cases e
  subst hn0;obtain rfl:=hA rfl;have hq:∀w,(binOp .eql 61 (.slice none 0 0) (.slice none 0 0)).run Tryz.prog w=.ok (.bool true) w:=fun w=>Lib.run_eql_slice_nil w _ _ none 0 0 0 0 Tryz.underlying61
  go_enter Tryz.func154,Tryz.ntmps154
  go_wp2_with fail
  go_ret
  exact⟨_,rfl,World.ownsRow_nil _ _ _ _,Below.refl _ _⟩
 |some p=>
  obtain⟨n,hN⟩:=qx (L.length);rw[←hN]at hn HR ⊢;have HL:=qh hN;clear hN hA Nn;have hq:∀w,(binOp .eql 61 (.slice (some p) n c) (.slice none 0 0)).run Tryz.prog w=.ok (.bool false) w:=fun w=>Lib.run_eql_slice_nil w _ _ (some p) n c 0 0 Tryz.underlying61
  go_enter Tryz.func154,Tryz.ntmps154
  go_wp2_with (at_builtin;go_must (refine cO (w.alloc (.cells #[] 2)) rfl (.tmp 5) (.tmp 6) _ rfl w.heap.size 2 i0 _ 1 8 Tryz.underlying61 hi iz is ib rfl qo _ 0 [] rfl HO.o (some p) n c (fun j=>.int .i64 (L.getD j 0)) rfl (by rw[Nat.mul_one];exact HR.o) (fun j=>rfl) qm qo qj ?_);intro v' w' hown' hfr;have HOWN':=qh hown';have jZ:=qh hfr;clear hown' hfr)
  go_ret
  have ho:=HOWN'.o;rw[Nat.zero_add,List.nil_append,Nat.mul_one,eV L n HL.o.symm]at ho;exact⟨_,rfl,by rw[←HL.o];exact ho,HB.o.trans (jZ.o.own HO.o qj)⟩
theorem sG (C:Nat→List Int){i q:Nat}(h:i≤q):(eX C i).length≤(eX C q).length:=by
 induction q with
 |zero=>obtain rfl:i=0:=qo;exact Nat.le_refl _
 |succ q ih=>
  by_cases hi:i=q+1
  ·rw[hi];exact Nat.le_refl _
  ·have:=ih qo
   simp only[eX,List.length_append]
   omega
theorem E6 (g q cp:Nat)(C:Nat→List Int)(w:World)(hU:∀i,i<q→∃A c,w.cell? ⟨g,i,none⟩=some (.slice A (C i).length c)∧Rd w A (C i).length (fun j=>.int .i64 ((C i).getD j 0)))(hg:g<w.heap.size)(hN:(eX C q).length≤4000)(hq:q≤1000):
 Calls Tryz.prog 116 #[.slice (some ⟨g,0,none⟩) q cp] w (El w (eX C q)):=by
 obtain⟨i0,hi,iz,is,ib⟩:=info_parts info64;have HU:=qh hU;clear hU
 go_enter Tryz.func116,Tryz.ntmps116
 go_wp2_with fail
 go_loop [3,11] (fun s i=>∃k:Nat,k≤q∧i=.int .i64 k∧s=.int .i64 ((eX C k).length:Nat)) (fun _ i=>q-(intOf i).toNat)
 case atStart=>exact⟨0,by omega,rfl,rfl⟩
 case round=>
  obtain⟨k,hk,rfl,rfl⟩:=hrel;have hm:=sG C hk
  by_cases hlt:k<q
  ·obtain⟨A,c,hc,_⟩:=HU.o k hlt
   have hm2:=sG C (show k+1≤q from hlt);have hl:(eX C (k+1)).length=(eX C k).length+(C k).length:=by simp[eX]
   have HL:=qh hl;rw[hl]at hm2;obtain⟨X,hX⟩:∃X,X=(eX C k).length:=⟨_,rfl⟩;obtain⟨Y,hY⟩:∃Y,Y=(C k).length:=⟨_,rfl⟩;rw[←hX,←hY]at HL hm2;rw[←hX]at hm ⊢;rw[←hY]at hc;have b1:(0:Int)≤(k:Int):=qo;have b2:(k:Int)<(q:Int):=qo;clear hl hX hY
   go_wp2_with fail
   go_round
   case rel=>exact⟨k+1,by omega,qg,jM (by rw[HL.o];omega)⟩
   case measure=>exact qs
  ·obtain rfl:q=k:=qo
   go_wp2_with fail
   refine(Kn (eX C q).length _ hN).mono ?_;rintro e w1 ⟨v1,rfl,ho1,hb1⟩;have aT:=qh ho1;have HB1:=qh hb1;clear ho1 hb1
   go_wp2_with fail
   go_loopw [6,27] (fun v i wr=>∃k:Nat,k≤q∧i=.int .i64 k∧Hq (wr.ownsRow w.heap.size 2 1 v (eX C k).length (ints (eX C k)))∧Hq (Below w.heap.size w wr)) (fun _ i _=>q-(intOf i).toNat)
   case atStart=>exact⟨0,by omega,rfl,aT,HB1⟩
   case round=>
    obtain⟨k,hk,rfl,aI,HB2⟩:=hrel
    by_cases hlt:k<q
    ·obtain⟨A,c,hc,hrd⟩:=HU.o k hlt
     have k0:=aM HB2.o hg hc;have hJ:=qh (hrd.below HB2.o);have hm2:=sG C (show k+1≤q from hlt);have hl:(eX C (k+1)).length=(eX C k).length+(C k).length:=by simp[eX]
     have HL:=qh hl;have HC:=qh (show eX C (k+1)=eX C k++C k from rfl);rw[hl]at hm2;have b1:(0:Int)≤(k:Int):=qo;have b2:(k:Int)<(q:Int):=qo;clear hl hc hrd
     go_wp2_with (at_builtin;go_must (refine cO wr rfl (.tmp 31) (.tmp 32) _ rfl w.heap.size 2 i0 _ 1 8 Tryz.underlying61 hi iz is ib rfl qo u6 _ _ rfl aI.o A (C k).length c (fun j=>.int .i64 ((C k).getD j 0)) rfl (by rw[Nat.mul_one];exact hJ.o) (fun j=>rfl) qm qo HB2.o.size ?_);intro v' w' hown' hfr;have cI:=qh hown';have HB3:=qh (HB2.o.trans (hfr.own aI.o HB2.o.size));clear hown' hfr)
     go_roundw
     case rel=>exact⟨k+1,by omega,qg,qh (by
      have h:=cI.o;rw[Nat.mul_one,eV _ _ rfl,←aL,←HC.o,←HL.o]at h;exact h),HB3⟩
     case measure=>exact qs
    ·obtain rfl:q=k:=qo
     go_wp2
     go_ret
     exact⟨_,rfl,aI.o,HB2.o⟩
def r7 (d c:Int)(A:OA)(m qq:Nat)(ev cl:Value):Array Value:=#[.int .i64 d,.int .i64 c,.slice A m qq,cl,ev]
section
variable [Inhabited bQ]{B g:Nat}{tg:Nat→Nat}{ev cl:Value}{n q:Nat}{E:List Int}{U:Nat→Value}{C:Nat→List Int}{w:World}{d c:Int}{A:Option Addr}{m qq:Nat}
def agd (T:TypeId)(mk:Value→Value→Array Value)(B g:Nat)(cl:Value)(q:Nat)(E:List Int)(U:Nat→Value)(C:Nat→List Int)(w:World)(e:Ending)(w':World):Prop:=e=.returned (.tuple #[])∧(∃tg ev n,aZ T mk B g tg ev cl n q E U C w')∧Below B w w'
theorem nR (k p x b:Int)(H:aZ 166 (r7 d c A m qq) B g tg ev cl n q E U C w)(hB:B≤w.heap.size)(hn:n≤1048576):
 Calls Tryz.prog 162 #[.pointer (some ⟨g,0,none⟩),.int .i64 k,.int .i64 p,.int .i64 x,.int .i64 b] w (agd 166 (r7 d c A m qq) B g cl q (E++gH k p x b c d) U C w):=by
 obtain⟨i0,hi,iz,is,ib⟩:=info_parts dQ;obtain⟨Ae,ce,rfl⟩:=aE H.e;have m0:w.cell? ⟨g,4,none⟩=some (.slice Ae n ce):=H.b.cell 4;have f0:w.frozen? ⟨g,4,none⟩=false:=H.b.frozen 4;have r0:w.cell? ⟨g,0,none⟩=some (.int .i64 d):=H.b.cell 0;have r1:w.cell? ⟨g,1,none⟩=some (.int .i64 c):=H.b.cell 1;have HH:=qh H;clear H
 go_enter Tryz.func162,Tryz.ntmps162
 go_wp2_with fail
 refine aY (S:=fun w'=>w'.cell? ⟨g,4,none⟩=some (.slice Ae n ce)∧w'.cell? ⟨g,0,none⟩=some (.int .i64 d)∧w'.cell? ⟨g,1,none⟩=some (.int .i64 c)) _ qj qk qk ⟨m0,r0,r1⟩ (fun hHeld=>?_)
 simp only[List.dropLast,List.getLast_cons_cons,List.getLast_singleton,List.length_cons,List.length_nil]
 refine qt 0 hHeld ?_;refine qt 1 hHeld ?_;refine qt 2 hHeld ?_;refine qt 3 hHeld ?_;refine qt 4 hHeld ?_;refine qt 5 hHeld ?_;refine qt 6 hHeld ?_;refine qt 7 hHeld ?_;refine qt 8 hHeld ?_;refine qt 9 hHeld ?_;refine qt 10 hHeld ?_;refine qt 11 hHeld ?_;refine qt 12 hHeld ?_;refine qt 13 hHeld ?_;refine qt 14 hHeld ?_;refine qt 15 hHeld ?_;refine qt 16 hHeld ?_;refine qt 17 hHeld ?_;refine qt 18 hHeld ?_;refine qt 19 hHeld ?_
 simp only[List.getElem_toArray,List.getElem_cons_succ,List.getElem_cons_zero,Act.put,List.setIfInBounds_toArray,List.set_cons_zero,List.set_cons_succ]
 refine wpAnyH_ready (rs:=[20]) qk qj ?_;refine AllReadyH.cons rfl (fun K hK=>?_) AllReadyH.nil
 simp only[List.getElem_toArray,List.getElem_cons_succ,List.getElem_cons_zero]
 go_simp
 refine hK.out _ _ (by go_keep) (fun dK=>?_);clear hK K hHeld;refine wpAnyH_ready (rs:=[21]) qk qj ?_;refine AllReadyH.cons rfl (fun K hK=>?_) AllReadyH.nil
 simp only[List.getElem_toArray,List.getElem_cons_succ,List.getElem_cons_zero]
 refine kR w.drew (by rfl) (.tmp 14) (.tmp 30) _ (by rfl) B 116 i0 _ 6 48 Tryz.underlying42 hi iz is ib rfl qo (.slice Ae n ce) n (ints E) (by rfl) HH.o.e _ 1 1 [.int .i64 k,.int .i64 p,.int .i64 x,.int .i64 b,.int .i64 c,.int .i64 d] (by rfl) rfl (by simp[Value.oneCell']) qm qo hB ?_;intro v2 w2 hown2 hfr2 fI;obtain⟨A2,c2,rfl⟩:=aE hown2;have gG:∀b,(Value.slice Ae n ce).ownBlock=some b→tg b=2:=HH.o.te;have hgn:¬(Value.slice Ae n ce).ownBlock=some g:=fun e=>by have:=gG _ e;have:=HH.o.tb;omega
 have dM:=World.block_lt_of_cell? w _ m0;have BG:=(hfr2.cells dM hgn 4).trans m0;have WR:=(hfr2.cells dM hgn 0).trans r0;have WQ:=(hfr2.cells dM hgn 1).trans r1;have Jf:w2.frozen? ⟨g,4,none⟩=false:=(World.frozen?_of_block (w:=w.drew) (a:=⟨g,4,none⟩) (hfr2.block g dM hgn)).trans f0;refine hK.out _ _ ⟨BG,WR,WQ⟩ (fun bF=>?_);clear hK K dK;have hfree:qZ tg (.slice A2 (n+1) c2) 2:=fun b hb=>by
  rcases fI with h|h
  ·exact .inr (gG b (h.symm.trans hb))
  ·refine .inl (Decidable.byContradiction fun hne=>?_)
   have h1:=HH.o.lt b hne;rw[hb]at h;injection h with h;have h2:w.drew.heap.size=w.heap.size:=rfl;omega
 have hown3:w2.ownsRow B 116 6 (.slice A2 (n+1) c2) (n+1) (ints (E++gH k p x b c d)):=by rw[aL];exact hown2
 have HM:=qh (HH.o.R4 (w':=w2) (fun b h0 h2=>hfr2.block b (HH.o.lt b h0) fun e=>h2 (gG b e)) hfr2.size hown3 hfree (o:=4) rfl);have iD:=qh (Below.setCell (p:=⟨g,4,none⟩) (Below.trans ((Below.refl B w).drew) (hfr2.own (w:=w.drew) HH.o.e hB)) HH.o.lo (.slice A2 (n+1) c2));clear gG hgn dM m0 r0 r1 f0 hfree hfr2 hown2 fI hown3;refine qt 22 bF ?_;refine qt 23 bF ?_
 simp only[List.getElem_toArray,List.getElem_cons_succ,List.getElem_cons_zero,Act.put,List.setIfInBounds_toArray,List.set_cons_zero,List.set_cons_succ]
 refine wpAnyH_done qk ?_ _;refine bZ.of ?_
 go_simp
 clear bF BG WR WQ Jf
 go_wp2_with fail
 go_end0
 exact⟨rfl,⟨_,_,_,HM.o⟩,iD.o⟩
theorem E0 (k p x b:Int)(H:aZ 166 (r7 d c A m qq) B g tg ev cl n q E U C w)(hB:B≤w.heap.size)(hn:n≤1048576):
 Calls Tryz.prog 162 #[.pointer (some ⟨g,0,none⟩),.int .i64 k,.int .i64 p,.int .i64 x,.int .i64 b] w (zG 166 (r7 d c A m qq) B g q (E++gH k p x b c d) C w):=
 (nR k p x b H hB hn).mono fun _ _ ⟨h1,⟨_,_,_,h2⟩,h3⟩=>⟨h1,⟨_,_,_,_,_,h2⟩,h3⟩
end
end Go.Proofs.YtimlpmbabbbcaaaGreat
namespace Go.Proofs.YtimlpmbabbbcaaaGreat
open Go.RowKit
@[reducible] def eN (K0:Inhabited bQ) (B:Nat) (v:Value) (n:Nat) (L:List Int):Inhabited bQ:=
 ⟨⟨fun w=>K0.default.P w∧w.ownsRow B 2 1 v n (ints L)∧∀b,K0.default.F b→¬v.ownBlock=some b,fun b=>K0.default.F b∨v.ownBlock=some b,fun _ _ h hF=>⟨bQ.loc _ _ _ h.1 fun b hb=>hF b (.inl hb),dZ h.2.1 fun b hb=>hF b (.inr hb),h.2.2⟩⟩⟩
section
variable {T:TypeId}{mk:Value→Value→Array Value}{B g q:Nat}{E:List Int}{C:Nat→List Int}{w w':World}{v:Value}{n:Nat}{L L':List Int}
theorem aZ.turn (K K':Inhabited bQ){tg eZ:Nat→Nat}{ev cl:Value}{nE:Nat}{U:Nat→Value}(h:@aZ K T mk B g tg ev cl nE q E U C w)(hz:w.heap.size≤w'.heap.size)(hk:∀b,tg b≠0→¬K.default.F b→w'.heap[b]?=w.heap[b]?)(ht:∀b,tg b≠0→¬K.default.F b→eZ b=tg b)(hlt:∀b,eZ b≠0→b<w'.heap.size)(hP:K'.default.P w')(hF:∀b,K'.default.F b→eZ b=1∧b≠g):@aZ K' T mk B g eZ ev cl nE q E U C w':=by
 have JO:=@aZ.kf K _ _ _ _ _ _ _ _ _ _ _ _ _ h;have htb:=@aZ.tb K _ _ _ _ _ _ _ _ _ _ _ _ _ h;have hte:=@aZ.te K _ _ _ _ _ _ _ _ _ _ _ _ _ h;have htc:=@aZ.tc K _ _ _ _ _ _ _ _ _ _ _ _ _ h;have hu:=@aZ.u K _ _ _ _ _ _ _ _ _ _ _ _ _ h;have nF:∀b,tg b≠1→¬K.default.F b:=fun b h1 h2=>h1 (JO b h2).1;have gF:¬K.default.F g:=fun h2=>(JO g h2).2 rfl;refine @aZ.mk K' _ _ _ _ _ _ _ _ _ _ _ _ _ ((hk g qo gF).trans (@aZ.b K _ _ _ _ _ _ _ _ _ _ _ _ _ h)) (dZ (@aZ.e K _ _ _ _ _ _ _ _ _ _ _ _ _ h) fun b hb=>hk b (by rw[hte b hb];omega) (nF b (by rw[hte b hb];omega))) (dZ (@aZ.c K _ _ _ _ _ _ _ _ _ _ _ _ _ h) fun b hb=>hk b (by rw[htc b hb];omega) (nF b (by rw[htc b hb];omega))) (fun i hi=>?_) ((ht g qo gF).trans htb) (fun b hb=>(ht b (by rw[hte b hb];omega) (nF b (by rw[hte b hb];omega))).trans (hte b hb)) (fun b hb=>(ht b (by rw[htc b hb];omega) (nF b (by rw[htc b hb];omega))).trans (htc b hb)) hlt (@aZ.lo K _ _ _ _ _ _ _ _ _ _ _ _ _ h) hP hF
 rcases hu i hi with h1|⟨h1,h2⟩
 ·exact .inl h1
 ·exact .inr ⟨dZ h1 fun b hb=>hk b (by rw[h2 b hb];omega) (nF b (by rw[h2 b hb];omega)),fun b hb=>(ht b (by rw[h2 b hb];omega) (nF b (by rw[h2 b hb];omega))).trans (h2 b hb)⟩
open Classical in
theorem dO.Yx (K0:Inhabited bQ)(h:@dO K0 T mk B g q E C w)(hb:Below w.heap.size w w')(ho:w'.ownsRow w.heap.size 2 1 v n (ints L))(hB:B≤w.heap.size):@dO (eN K0 B v n L) T mk B g q E C w':=by
 obtain⟨tg,ev,cl,nE,U,H⟩:=h;have hlt:=@aZ.lt K0 _ _ _ _ _ _ _ _ _ _ _ _ _ H;have JO:=@aZ.kf K0 _ _ _ _ _ _ _ _ _ _ _ _ _ H;have hP:=@aZ.k K0 _ _ _ _ _ _ _ _ _ _ _ _ _ H;have htb:=@aZ.tb K0 _ _ _ _ _ _ _ _ _ _ _ _ _ H;have hF:∀b,K0.default.F b→b<w.heap.size:=fun b hb=>hlt b (by rw[(JO b hb).1];omega);have hv:∀b,v.ownBlock=some b→w.heap.size≤b∧b<w'.heap.size:=fun b hb=>ho.lt b hb;have hg:g<w.heap.size:=hlt g qo;have hold:∀b,b<w.heap.size→(if v.ownBlock=some b then 1 else tg b)=tg b:=fun b hb=>if_neg fun e=>by have:=(hv b e).1;omega
 have hs:=hb.size;have hnew:@aZ (eN K0 B v n L) T mk B g (fun b=>if v.ownBlock=some b then 1 else tg b) ev cl nE q E U C w':=by
  have hte:=@aZ.te K0 _ _ _ _ _ _ _ _ _ _ _ _ _ H;have htc:=@aZ.tc K0 _ _ _ _ _ _ _ _ _ _ _ _ _ H;have hu:=@aZ.u K0 _ _ _ _ _ _ _ _ _ _ _ _ _ H;refine @aZ.mk (eN K0 B v n L) _ _ _ _ _ _ _ _ _ _ _ _ _ ((hb.block g hg).trans (@aZ.b K0 _ _ _ _ _ _ _ _ _ _ _ _ _ H)) (dZ (@aZ.e K0 _ _ _ _ _ _ _ _ _ _ _ _ _ H) fun b hx=>hb.block b (hlt b (by rw[hte b hx];omega))) (dZ (@aZ.c K0 _ _ _ _ _ _ _ _ _ _ _ _ _ H) fun b hx=>hb.block b (hlt b (by rw[htc b hx];omega))) (fun i hi=>?_) ((hold g hg).trans htb) (fun b hx=>(hold b (hlt b (by rw[hte b hx];omega))).trans (hte b hx)) (fun b hx=>(hold b (hlt b (by rw[htc b hx];omega))).trans (htc b hx)) (fun b hx=>?_) (@aZ.lo K0 _ _ _ _ _ _ _ _ _ _ _ _ _ H) ⟨bQ.loc _ _ _ hP fun b hx=>hb.block b (hF b hx),eU ho hB,fun b hx e=>by have:=hF b hx;have:=(hv b e).1;omega⟩ (fun b hx=>?_)
  ·rcases hu i hi with h1|⟨h1,h2⟩
   ·exact .inl h1
   ·exact .inr ⟨dZ h1 fun b hx=>hb.block b (hlt b (by rw[h2 b hx];omega)),fun b hx=>(hold b (hlt b (by rw[h2 b hx];omega))).trans (h2 b hx)⟩
  ·by_cases e:v.ownBlock=some b
   ·exact(hv b e).2
   ·rw[if_neg e]at hx
    have:=hlt b hx;omega
  ·rcases hx with hx|hx
   ·have:=JO b hx
    exact⟨(hold b (hF b hx)).trans this.1,this.2⟩
   ·exact⟨if_pos hx,fun e=>by have:=(hv b hx).1;omega⟩
 exact⟨_,_,_,_,_,hnew⟩
theorem dO.aas (K0:Inhabited bQ)(h:@dO (eN K0 B v n L) T mk B g q E C w)(hz:w.heap.size≤w'.heap.size)(hk:∀b,b<w.heap.size→¬v.ownBlock=some b→w'.heap[b]?=w.heap[b]?)(ho:w'.ownsRow B 2 1 v n (ints L')):@dO (eN K0 B v n L') T mk B g q E C w':=by
 obtain⟨tg,ev,cl,nE,U,H⟩:=h;have hlt:=@aZ.lt (eN K0 B v n L) _ _ _ _ _ _ _ _ _ _ _ _ _ H;have JO:=@aZ.kf (eN K0 B v n L) _ _ _ _ _ _ _ _ _ _ _ _ _ H;have hP:=@aZ.k (eN K0 B v n L) _ _ _ _ _ _ _ _ _ _ _ _ _ H;refine⟨tg,ev,cl,nE,U,aZ.turn (eN K0 B v n L) (eN K0 B v n L') H hz (fun b hb hF=>hk b (hlt b hb) fun e=>hF (.inr e)) (fun _ _ _=>rfl) (fun b hb=>Nat.lt_of_lt_of_le (hlt b hb) hz) ⟨bQ.loc _ _ _ hP.1 fun b hb=>hk b (hlt b (by rw[(JO b (.inl hb)).1];omega)) (hP.2.2 b hb),ho,hP.2.2⟩ JO⟩
open Classical in
theorem dO.nu (K0:Inhabited bQ)(h:@dO (eN K0 B v n L) T mk B g q E C w):∃tg ev cl nE U,@aZ K0 T mk B g tg ev cl nE q E U C w∧(∀b,v.ownBlock=some b→tg b=0)∧w.ownsRow B 2 1 v n (ints L):=by
 obtain⟨tg,ev,cl,nE,U,H⟩:=h;have hlt:=@aZ.lt (eN K0 B v n L) _ _ _ _ _ _ _ _ _ _ _ _ _ H;have JO:=@aZ.kf (eN K0 B v n L) _ _ _ _ _ _ _ _ _ _ _ _ _ H;have hP:=@aZ.k (eN K0 B v n L) _ _ _ _ _ _ _ _ _ _ _ _ _ H;refine⟨fun b=>if v.ownBlock=some b then 0 else tg b,ev,cl,nE,U,aZ.turn (eN K0 B v n L) K0 H ql (fun _ _ _=>rfl) (fun b _ hF=>if_neg fun e=>hF (.inr e)) (fun b hb=>hlt b fun e=>hb ?_) hP.1 (fun b hb=>⟨(if_neg (hP.2.2 b hb)).trans (JO b (.inl hb)).1,(JO b (.inl hb)).2⟩),fun b hb=>if_pos hb,hP.2.1⟩;show(if v.ownBlock=some b then 0 else tg b)=0
 split
 ·rfl
 ·exact e
end
theorem aag (L:List Int):aQ L=bK (fun j=>L.getD j 0) 0 L.length:=by
 have:∀n,n≤L.length→aQ (L.take n)=bK (fun j=>L.getD j 0) 0 n:=by
  intro n hn
  induction n with
  |zero=>simp[aQ,bK]
  |succ n ih=>
   rw[S5 L (show n<L.length by omega),ih qo]
   simp[bK]
 have h:=this L.length ql;rwa[List.take_length]at h
theorem l9 (A:OA)(n c:Nat)(L:List Int)(w:World)(hl:L.length=n)(ha:Rd w A n (fun j=>.int .i64 (L.getD j 0)))(hL:mR L):
 Calls Tryz.prog 115 #[.slice A n c] w fun e w'=>e=.returned (.int .i64 (aQ L))∧w=w':=by
 have h:=CT A n c (fun j=>L.getD j 0) w ha (by have:=hL.1;omega) (fun j hj=>by have:=hL.get j;omega);rw[aag,hl];exact h
theorem GT {P:Program}{w:World}{o:Oper}{a:Act}{K:Act→World→Prop}{Q:Exit→Act→World→Prop}(d s:Operand)(dT sT:TypeId)
 (ho:o.op=.call {callee:=.builtin .copy,args:=#[d,s],argTypes:=#[dT,sT]}) (elem:TypeId) (hu:P.underlying dT=some (.slice elem)) (hsz:(P.info? elem).map (·.size)=some 1)
 (B gd n cd:Nat) (xs:List Value) (hd:a.eval d=.slice (some ⟨gd,0,none⟩) n cd) (hown:w.ownsRow B elem 1 (.slice (some ⟨gd,0,none⟩) n cd) n xs)
 (gs os cs:Nat) (ys:List Value) (hs:a.eval s=.slice (some ⟨gs,os,none⟩) n cs) (hy:ys.length=n) (hsrc:∀j v,ys[j]?=some v→w.cell? ⟨gs,os+j,none⟩=some v) (h1:∀v∈ys,v.oneCell'=true)
 (h:∀w',w'.ownsRow B elem 1 (.slice (some ⟨gd,0,none⟩) n cd) n ys→Fr w w' (fun b=>b=gd)→w'.heap.size=w.heap.size→K (a.put o.dst (goInt n)) w'):Oper.wp P o a w K Q:=by
 rcases hown.2 with⟨e,_⟩|⟨g,cap,cur,e,hB,hg,hn,hm,hcs,htk⟩
 ·cases e
 injection e with e _ e3;injection e with e;injection e with e;subst e e3;have hcur:cur.size=cd:=by rw[hcs,Nat.mul_one]
 have hrun:=run_copy_row (P:=P) w dT sT o.type elem gd 0 n cd ⟨gs,os,none⟩ n cs cur elem ys hu hsz hg (by rw[hy];simp) (fun j v hv=>by rw[Addr.add_lit];exact hsrc j v hv) qo h1;unfold Oper.wp
 simp only[execOp,ho,resolve,invoke,builtin,Sem.run_bind,Sem.run_pure,Result.andThen_ok,List.map_toArray,List.map_cons,List.map_nil,hd,hs,hrun]
 rw[hy];refine h _ ⟨by simpa using hy,.inr ⟨gd,cd,_,rfl,hB,setRow_heap w gd cur _ elem (0,0) hg,hn,hm,?_,?_⟩⟩ ⟨rfl,rfl,rfl,by simp[World.setRow],fun b hb hne=>setRow_other w gd b _ hne⟩ (by simp[World.setRow])
 ·simp
  omega
 ·simp[←hy]
end Go.Proofs.YtimlpmbabbbcaaaGreat
namespace Go.Proofs.YtimlpmbabbbcaaaGreat
open Go.RowKit
def ak [Inhabited bQ](T:TypeId)(mk:Value→Value→Array Value)(B g q:Nat)(E:List Int)(C:Nat→List Int)(gi n ci:Nat)(L:List Int)(w:World)(e:Ending)(w':World):Prop:=
 e=.returned (.tuple #[])∧∃w2,dO T mk B g q E C w2∧Below B w w2∧Fr w2 w' (fun b=>b=gi)∧w2.heap.size≤w'.heap.size∧w'.ownsRow B 2 1 (.slice (some ⟨gi,0,none⟩) n ci) n (ints L)
section
variable [Inhabited bQ]{B g q:Nat}{E:List Int}{C:Nat→List Int}{w:World}{d c:Int}{A:Option Addr}{m qq:Nat}
theorem zP32x4 {p:Prop}(h:p:=by
 rcases l0 with h|h
 ·exact .inr (gG b (h.symm.trans hb))
 ·refine .inl (Decidable.byContradiction fun hne=>?_)
  have h1:=rS.o.lt b hne;rw[hb]at h;injection h with h;omega):p:=h
theorem zP32x5 {p:Prop}(h:p:=by
 intro w9 ho9 XB hz9
 go_wp2_with fail
 go_end0
 exact⟨rfl,w8,⟨_,_,_,_,_,by rw[HER.o];exact Oa.o⟩,dV.o,XB,Nat.le_of_eq hz9.symm,by rw[F8.o];exact ho9⟩):p:=h
theorem zP32x6 {p:Prop}(h:p:=by
 have hl:R.length=b*a*6:=by have:=bS.o.1;simpa [ints]using this
 have h9:=hown5;rw[eV R _ hl,←aL]at h9;exact h9):p:=h
theorem zP32x9 {p:Prop}(h:p:=by
 rcases hown.2 with⟨e,_⟩|⟨_,cap,_,e,_,_,hn,_⟩
 ·cases e
 ·injection e with _ _ e3
  omega):p:=h
theorem wM (gi ci:Nat)(k s P0:Int)(L:List Int)(H:dO 166 (r7 d c A m qq) B g q E C w)(hI:∀w',(default:bQ).P w'→w'.ownsRow B 2 1 (.slice (some ⟨gi,0,none⟩) 2 ci) 2 (ints L))(hB:B≤w.heap.size)(hE:E.length≤500000)(hp:0≤P0∧P0≤1000000000)(hL:L.length=2)(y8:mR L)(hs:aQ L≤100)(hs1:∀x∈L,1≤x)(hk:(k=8∧s=1)∨(k=9∧s= -1)∨(k=5∧s= -1)):
 Calls Tryz.prog 159 #[.pointer (some ⟨g,0,none⟩),.int .i64 k,.int .i64 P0,.slice (some ⟨gi,0,none⟩) 2 ci] w (ak 166 (r7 d c A m qq) B g q (E++lB P0 k L) C gi 2 ci (jD k L) w):=by
 obtain⟨i0,hi0,iz,is,ib⟩:=info_parts dQ;have Qq:s=1∨s= -1:=by rcases hk with⟨rfl,rfl⟩|⟨rfl,rfl⟩|⟨rfl,rfl⟩<;>simp
 have hsg:jI k=s:=by rcases hk with⟨rfl,rfl⟩|⟨rfl,rfl⟩|⟨rfl,rfl⟩<;>rfl
 have hL2:L.length/2=1:=qo;have hsn:s≠0:=by rcases Qq with h|h<;>rw[h]<;>decide
 obtain⟨a,ha⟩:∃a,a=(aQ (L.take 1)).toNat:=⟨_,rfl⟩;obtain⟨b,hb⟩:∃b,b=(aQ (L.drop 1)).toNat:=⟨_,rfl⟩;have HE:=qh (show lB P0 k L=bL s (bY P0 a b)by rw[lB,if_neg (by rw[hsg];exact hsn),hL2,hsg,ha,hb]);have qN:=qh (show jD k L=L.drop 1++L.take 1 by rw[jD,if_neg (by rw[hsg];exact hsn),hL2]);have hlen1:(L.take 1).length=1:=by rw[List.length_take];omega
 have G0:(L.drop 1).length=1:=by rw[List.length_drop];omega
 have kP:=qh (And.intro G0 hlen1);have hsum:aQ L=aQ (L.take 1)+aQ (L.drop 1):=by rw[←mU,List.take_append_drop]
 have EN:=(y8.take 1).sum;have htb:=(y8.drop 1).sum;have ha2:aQ (L.take 1)=(a:Int):=qo;have hb2:aQ (L.drop 1)=(b:Int):=qo;have hpos:1≤a∧1≤b:=by
  have h1:∀l:List Int,(∀x∈l,1≤x)→0<l.length→1≤aQ l:=by
   intro l
   induction l with
   |nil=>intro _ h;simp at h
   |cons x l ih=>
    intro hx _;have h2:=hx x List.mem_cons_self
    simp only[aQ]
    by_cases h0:0<l.length
    ·have:=ih (fun y hy=>hx y (List.mem_cons_of_mem _ hy)) h0
     omega
    ·obtain rfl:l=[]:=List.eq_nil_of_length_eq_zero qo
     simp[aQ];omega
  have h3:=h1 (L.take 1) (fun x hx=>hs1 x (List.mem_of_mem_take hx)) qo;have h4:=h1 (L.drop 1) (fun x hx=>hs1 x (List.mem_of_mem_drop hx)) qo;omega
 have hab:a≤100∧b≤100:=qo;have O9:0<b*a:=Nat.mul_pos qo qo;have Ng:b*a≤10000:=Nat.le_trans (Nat.mul_le_mul hab.2 hab.1) qo;have Nz:=qh hI;have fK:=qh (show∀b,(Value.slice (some ⟨gi,0,none⟩) 2 ci).ownBlock=some b→b=gi from fun b e=>by injection e with e;exact e.symm);obtain⟨tg,ev,cl,n,U,H⟩:=H;have hown:=hI w H.k;have hci:2≤ci:=by
  exact zP32x9
 have hgi:=hown.lt gi rfl;obtain⟨Ae,ce,rfl⟩:=aE H.e;have hn:=H.len;have hn2:n≤1048576:=qo;have m0:w.cell? ⟨g,4,none⟩=some (.slice Ae n ce):=H.b.cell 4;have f0:w.frozen? ⟨g,4,none⟩=false:=H.b.frozen 4;have hcl:∀j,j<2→w.cell? ⟨gi,j,none⟩=some (.int .i64 (L.getD j 0)):=fun j hj=>by
  rw[hown.cellAt j qo]
  simp[ints,List.getD,show j<L.length by omega]
 have hq1:∀z,Calls Tryz.prog 115 #[.slice (some ⟨gi,0,none⟩) 1 ci] (w.drewN z) fun e w'=>e=.returned (.int .i64 a)∧w'=w.drewN z:=fun z=>(l9 (some ⟨gi,0,none⟩) 1 ci (L.take 1) (w.drewN z) hlen1 (fun _=>⟨gi,0,rfl,hgi.2,fun j hj=>by
  have:=hcl j qo;rw[Nat.zero_add]
  simp only[List.getD,List.getElem?_take,if_pos hj]
  exact this⟩) (y8.take 1)).mono fun _ _ h=>⟨by rw[h.1,ha2],h.2.symm⟩
 have hq2:∀z,Calls Tryz.prog 115 #[.slice (some ⟨gi,1,none⟩) 1 (ci-1)] (w.drewN z) fun e w'=>e=.returned (.int .i64 b)∧w'=w.drewN z:=fun z=>(l9 (some ⟨gi,1,none⟩) 1 (ci-1) (L.drop 1) (w.drewN z) G0 (fun _=>⟨gi,1,rfl,hgi.2,fun j hj=>by
  have:=hcl (1+j) qo
  simp only[List.getD,List.getElem?_drop]
  exact this⟩) (y8.drop 1)).mono fun _ _ h=>⟨by rw[h.1,hb2],h.2.symm⟩
 have CA:=qh hq1;have pN:=qh hq2;have HHS:=qh H;have hne:¬ci=1:=qo;have Rc:(1:Int)≤(ci:Int):=qo;clear hq1 hq2 H ha hb hsum EN htb ha2 hb2 hcl hown y8 hs hs1 hsn hsg hL2 hlen1 G0 hI hpos hn
 rcases hk with⟨rfl,rfl⟩|⟨rfl,rfl⟩|⟨rfl,rfl⟩
 all_goals
  go_enter Tryz.func159,Tryz.ntmps159
  go_wp2_with fail
  go_quiet (first|(go_at_call_of 115 (Value.slice (some ⟨gi,0,none⟩) 1 ci);exact Calls.quiet_of_same (CA.o _))|(go_at_call 115;exact Calls.quiet_of_same (pN.o _)))
  go_wp2_with fail
  have F6:=qh (HHS.o.drewN nq);obtain⟨w3,hw3⟩:=qx (w.drewN nq);have n0:w3.cell? ⟨g,4,none⟩=some (.slice Ae n ce):=by rw[hw3];exact m0
  have nf:w3.frozen? ⟨g,4,none⟩=false:=by rw[hw3];exact f0
  have HB3:Hq (Below B w w3):=qh (by rw[hw3];exact Below.drewN' (Below.refl B w) nq);have hz3:w3.heap.size=w.heap.size:=by rw[hw3];rfl
  rw[←hw3]at F6 ⊢;clear hw3 m0 f0;refine aY (S:=fun w'=>w'.cell? ⟨g,4,none⟩=some (.slice Ae n ce)) _ qj qk qk n0 (fun hHeld=>?_)
  simp only[List.dropLast,List.getLast_cons_cons,List.getLast_singleton,List.length_cons,List.length_nil]
  refine qt 0 hHeld ?_;refine qt 1 hHeld ?_;refine qt 2 hHeld ?_;refine qt 3 hHeld ?_;refine qt 4 hHeld ?_;refine qt 5 hHeld ?_;refine qt 6 hHeld ?_;refine qt 7 hHeld ?_;refine qt 8 hHeld ?_
  simp only[List.getElem_toArray,List.getElem_cons_succ,List.getElem_cons_zero,Act.put,List.setIfInBounds_toArray,List.set_cons_zero,List.set_cons_succ]
  refine wpAnyH_ready (rs:=[9]) qk qj ?_;refine AllReadyH.cons rfl (fun K hK=>?_) AllReadyH.nil
  simp only[List.getElem_toArray,List.getElem_cons_succ,List.getElem_cons_zero]
  go_simp
  refine(rV P0 a b _ w3.drew hp hab.1 hab.2).mono ?_;rintro e w4 ⟨v4,rfl,d6,hb4⟩;generalize hR:bL _ (bY P0 a b)=R at d6;have HER:=qh (HE.o.trans hR);clear hR;have rS:=qh (F6.o.drew.below hb4);have k0:w4.cell? ⟨g,4,none⟩=some (.slice Ae n ce):=rS.o.b.cell 4;have kf:w4.frozen? ⟨g,4,none⟩=false:=rS.o.b.frozen 4;have aW:=qh (HB3.o.trans (((Below.refl w3.heap.size w3).drew.trans hb4).mono qo));obtain⟨g4,c4,rfl⟩:∃g4 c4,v4=.slice (some ⟨g4,0,none⟩) (b*a) c4:=by
   rcases d6.2 with⟨_,h0⟩|⟨g4,cap,_,e,_⟩
   ·omega
   ·exact⟨g4,cap,e⟩
  have bS:=qh d6;have HR4:Hq (d7 w4 g4 0 (b*a*6) (fun j=>.int .i64 (R.getD j 0))):=qh (fun j hj=>by
   obtain⟨_,_,e,_,hr⟩:=P6 bS.o qo;injection e with e;injection e with e e2;subst e e2;exact hr j hj)
  refine hK.out _ _ k0 (fun bT=>?_);clear hK K hHeld d6 hb4;refine wpAnyH_ready (rs:=[10]) qk qj ?_;refine AllReadyH.cons rfl (fun K hK=>?_) AllReadyH.nil
  simp only[List.getElem_toArray,List.getElem_cons_succ,List.getElem_cons_zero]
  refine OF w4 (by rfl) (.tmp 33) (.tmp 38) _ (by rfl) B 116 i0 _ 6 48 Tryz.underlying42 hi0 iz is ib rfl qo (.slice Ae n ce) n (ints E) (by rfl) rS.o.e g4 0 (b*a) c4 (fun j=>.int .i64 (R.getD j 0)) (by rfl) HR4.o (fun j=>rfl) qm qo (Nat.le_trans hB aW.o.size) ?_;intro v5 w5 hown5 j9 l0;obtain⟨A5,c5,rfl⟩:=aE hown5;have gG:∀b,(Value.slice Ae n ce).ownBlock=some b→tg b=2:=rS.o.te;have hgn:¬(Value.slice Ae n ce).ownBlock=some g:=fun e=>by have:=gG _ e;have:=rS.o.tb;omega
  have dM:=World.block_lt_of_cell? w4 _ k0;have k5:=(j9.cells dM hgn 4).trans k0;have k5f:w5.frozen? ⟨g,4,none⟩=false:=(World.frozen?_of_block (w:=w4) (a:=⟨g,4,none⟩) (j9.block g dM hgn)).trans kf;refine hK.out _ _ k5 (fun bF=>?_);clear hK K bT;have hfree:qZ tg (.slice A5 (n+b*a) c5) 2:=fun b hb=>by
   exact zP32x4
  have hown6:w5.ownsRow B 116 6 (.slice A5 (n+b*a) c5) (n+b*a) (ints (E++R)):=by
   exact zP32x6
  have HM:=qh (rS.o.R4 (w':=w5) (fun b h0 h2=>j9.block b (rS.o.lt b h0) fun e=>h2 (gG b e)) j9.size hown6 hfree (o:=4) rfl);have iD:=qh (Below.setCell (p:=⟨g,4,none⟩) (aW.o.trans (j9.own rS.o.e (Nat.le_trans hB aW.o.size))) rS.o.lo (.slice A5 (n+b*a) c5));clear gG hgn dM k0 kf hfree j9 hown5 l0 hown6 n0 nf;refine qt 11 bF ?_;refine qt 12 bF ?_
  simp only[List.getElem_toArray,List.getElem_cons_succ,List.getElem_cons_zero,Act.put,List.setIfInBounds_toArray,List.set_cons_zero,List.set_cons_succ]
  refine wpAnyH_done qk ?_ _;refine bZ.of ?_
  go_simp
  clear bF k5 k5f
  go_wp2_with fail
  obtain⟨w6,vX⟩:=qx (w5.setCell ⟨g,4,none⟩ (.slice A5 (n+b*a) c5));rw[←vX]at HM iD ⊢;clear vX;have hown6:=Nz.o w6 HM.o.k;have CG:=qh hown6;have afD:=hown6.lt gi rfl;obtain⟨j0,hj0,jz,js,jb⟩:=info_parts info64;have bM:Below w6.heap.size w6 (w6.drew.alloc (.cells #[.slice (some ⟨gi,1,none⟩) 1 (ci-1),.slice (some ⟨gi,0,none⟩) 1 ci] 61)):=(Below.refl w6.heap.size w6).drew.alloc ql _;have MI:=qh (HM.o.below bM);have hX:=kN w6.drew #[.slice (some ⟨gi,1,none⟩) 1 (ci-1),.slice (some ⟨gi,0,none⟩) 1 ci] 61;have pC:=qh (own_below hown6 bM);have E5:∀j,j<2→(w6.drew.alloc (.cells #[.slice (some ⟨gi,1,none⟩) 1 (ci-1),.slice (some ⟨gi,0,none⟩) 1 ci] 61)).cell? ⟨gi,j,none⟩=some (.int .i64 (L.getD j 0)):=fun j hj=>by
   rw[pC.o.cellAt j qo]
   simp[ints,List.getD,show j<L.length by omega]
  have j8:=qh (E6 w6.drew.heap.size 2 2 (fun i=>if i=0 then L.drop 1 else L.take 1) (w6.drew.alloc (.cells #[.slice (some ⟨gi,1,none⟩) 1 (ci-1),.slice (some ⟨gi,0,none⟩) 1 ci] 61)) (fun i hi=>by
   rcases(show i=0∨i=1 by omega)with rfl|rfl
   ·refine⟨some ⟨gi,1,none⟩,ci-1,?_,fun _=>⟨gi,1,rfl,by have:=bM.size;omega,fun j hj=>?_⟩⟩
    ·have h9:=kP.o.1
     show _=some (Value.slice _ (L.drop 1).length _);rw[h9];exact hX 0
    ·have hj2:j<1:=by have h9:=kP.o.1;have h8:j<(L.drop 1).length:=hj;omega
     have h7:=E5 (1+j) qo;show _=some (Value.int .i64 ((L.drop 1).getD j 0))
     simp only[List.getD,List.getElem?_drop]
     exact h7
   ·refine⟨some ⟨gi,0,none⟩,ci,?_,fun _=>⟨gi,0,rfl,by have:=bM.size;omega,fun j hj=>?_⟩⟩
    ·have h9:=kP.o.2
     show _=some (Value.slice _ (L.take 1).length _);rw[h9];exact hX 1
    ·have hj2:j<1:=by have h9:=kP.o.2;have h8:j<(L.take 1).length:=hj;omega
     have h7:=E5 j qo;show _=some (Value.int .i64 ((L.take 1).getD j 0));rw[Nat.zero_add]
     simp only[List.getD,List.getElem?_take,if_pos hj2]
     exact h7) qj (by have h9:=kP.o;simp only[eX,List.nil_append,List.length_append];simp only[if_pos,if_neg (show¬(1:Nat)=0 by omega)];omega) qo)
  have KI:=qh (show eX (fun i=>if i=0 then L.drop 1 else L.take 1) 2=L.drop 1++L.take 1 by simp[eX]);have aR:=qh (iD.o.trans (bM.mono (Nat.le_trans hB iD.o.size)));clear bM hX E5 hown6;refine aY (S:=fun _=>True) _ qj qk qk trivial (fun hHeld=>?_)
  simp only[List.dropLast,List.getLast_cons_cons,List.getLast_singleton,List.length_cons,List.length_nil]
  refine qt 0 hHeld ?_;refine qt 1 hHeld ?_;refine qt 2 hHeld ?_;refine qt 3 hHeld ?_;refine qt 4 hHeld ?_;refine qt 5 hHeld ?_;refine qt 6 hHeld ?_
  simp only[List.getElem_toArray,List.getElem_cons_succ,List.getElem_cons_zero,Act.put,List.setIfInBounds_toArray,List.set_cons_zero,List.set_cons_succ]
  refine wpAnyH_ready (rs:=[7]) qk qj ?_;refine AllReadyH.cons rfl (fun K hK=>?_) AllReadyH.nil
  simp only[List.getElem_toArray,List.getElem_cons_succ,List.getElem_cons_zero]
  go_simp
  refine hK.out _ _ trivial (fun bT=>?_);clear hK K hHeld;refine wpAnyH_ready (rs:=[8]) qk qj ?_;refine AllReadyH.cons rfl (fun K hK=>?_) AllReadyH.nil
  simp only[List.getElem_toArray,List.getElem_cons_succ,List.getElem_cons_zero]
  go_simp
  refine j8.o.mono ?_;rintro e w8 ⟨v8,rfl,gC,gY⟩;refine hK.out _ _ trivial (fun dK=>?_);clear hK K bT;rw[KI.o]at gC;have F8:=qN;have X6:(L.drop 1++L.take 1).length=2:=by rw[List.length_append];have:=kP.o;omega
  generalize L.drop 1++L.take 1=X8 at gC X6 F8;rw[X6]at gC;obtain⟨g8,c8,rfl⟩:∃g8 c8,v8=.slice (some ⟨g8,0,none⟩) 2 c8:=by
   rcases gC.2 with⟨_,h0⟩|⟨g8,cap,_,e,_⟩
   ·omega
   ·exact⟨g8,cap,e⟩
  have Oa:=qh (MI.o.below gY);have dV:=qh (aR.o.trans (gY.mono (Nat.le_trans hB aR.o.size)));have rP:=qh (Nz.o w8 Oa.o.k);have YZ:=qh gC;clear gC gY;refine wpAnyH_done qk ?_ _;refine bZ.of ?_;refine GT (.tmp 42) (.tmp 50) _ _ (by rfl) 2 Tryz.underlying61 (by rw[hj0];simp[js]) B gi 2 ci (ints L) (by rfl) rP.o g8 0 c8 (ints X8) (by rfl) (by simp[ints,X6]) (fun j v hj=>?_) (fun v hv=>?_) ?_
  ·rw[Nat.zero_add,YZ.o.cellAt j (by have h1:=(List.getElem?_eq_some_iff.1 hj).1;simp[ints]at h1;omega)]
   exact hj
  ·exact WT _ v hv
  exact zP32x5
end
section
variable [Inhabited bQ]{B g q:Nat}{E:List Int}{C:Nat→List Int}{w:World}{d c:Int}{A:Option Addr}{m qq:Nat}
theorem EK (gi ci:Nat)(k s P0:Int)(L:List Int)(H:dO 166 (r7 d c A m qq) B g q E C w)(hI:∀w',(default:bQ).P w'→w'.ownsRow B 2 1 (.slice (some ⟨gi,0,none⟩) 4 ci) 4 (ints L))(hB:B≤w.heap.size)(hE:E.length≤500000)(hp:0≤P0∧P0≤1000000000)(hL:L.length=4)(y8:mR L)(hs:aQ L≤100)(hs1:∀x∈L,1≤x)(hk:(k=10∧s=1)∨(k=11∧s= -1)):
 Calls Tryz.prog 159 #[.pointer (some ⟨g,0,none⟩),.int .i64 k,.int .i64 P0,.slice (some ⟨gi,0,none⟩) 4 ci] w (ak 166 (r7 d c A m qq) B g q (E++lB P0 k L) C gi 4 ci (jD k L) w):=by
 obtain⟨i0,hi0,iz,is,ib⟩:=info_parts dQ;have Qq:s=1∨s= -1:=by rcases hk with⟨rfl,rfl⟩|⟨rfl,rfl⟩<;>simp
 have hsg:jI k=s:=by rcases hk with⟨rfl,rfl⟩|⟨rfl,rfl⟩<;>rfl
 have hL2:L.length/2=2:=qo;have hsn:s≠0:=by rcases Qq with h|h<;>rw[h]<;>decide
 obtain⟨a,ha⟩:∃a,a=(aQ (L.take 2)).toNat:=⟨_,rfl⟩;obtain⟨b,hb⟩:∃b,b=(aQ (L.drop 2)).toNat:=⟨_,rfl⟩;have HE:=qh (show lB P0 k L=bL s (bY P0 a b)by rw[lB,if_neg (by rw[hsg];exact hsn),hL2,hsg,ha,hb]);have qN:=qh (show jD k L=L.drop 2++L.take 2 by rw[jD,if_neg (by rw[hsg];exact hsn),hL2]);have hlen1:(L.take 2).length=2:=by rw[List.length_take];omega
 have G0:(L.drop 2).length=2:=by rw[List.length_drop];omega
 have kP:=qh (And.intro G0 hlen1);have hsum:aQ L=aQ (L.take 2)+aQ (L.drop 2):=by rw[←mU,List.take_append_drop]
 have EN:=(y8.take 2).sum;have htb:=(y8.drop 2).sum;have ha2:aQ (L.take 2)=(a:Int):=qo;have hb2:aQ (L.drop 2)=(b:Int):=qo;have hpos:1≤a∧1≤b:=by
  have h1:∀l:List Int,(∀x∈l,1≤x)→0<l.length→1≤aQ l:=by
   intro l
   induction l with
   |nil=>intro _ h;simp at h
   |cons x l ih=>
    intro hx _;have h2:=hx x List.mem_cons_self
    simp only[aQ]
    by_cases h0:0<l.length
    ·have:=ih (fun y hy=>hx y (List.mem_cons_of_mem _ hy)) h0
     omega
    ·obtain rfl:l=[]:=List.eq_nil_of_length_eq_zero qo
     simp[aQ];omega
  have h3:=h1 (L.take 2) (fun x hx=>hs1 x (List.mem_of_mem_take hx)) qo;have h4:=h1 (L.drop 2) (fun x hx=>hs1 x (List.mem_of_mem_drop hx)) qo;omega
 have hab:a≤100∧b≤100:=qo;have O9:0<b*a:=Nat.mul_pos qo qo;have Ng:b*a≤10000:=Nat.le_trans (Nat.mul_le_mul hab.2 hab.1) qo;have Nz:=qh hI;have fK:=qh (show∀b,(Value.slice (some ⟨gi,0,none⟩) 4 ci).ownBlock=some b→b=gi from fun b e=>by injection e with e;exact e.symm);obtain⟨tg,ev,cl,n,U,H⟩:=H;have hown:=hI w H.k;have hci:4≤ci:=by
  exact zP32x9
 have hgi:=hown.lt gi rfl;obtain⟨Ae,ce,rfl⟩:=aE H.e;have hn:=H.len;have hn2:n≤1048576:=qo;have m0:w.cell? ⟨g,4,none⟩=some (.slice Ae n ce):=H.b.cell 4;have f0:w.frozen? ⟨g,4,none⟩=false:=H.b.frozen 4;have hcl:∀j,j<4→w.cell? ⟨gi,j,none⟩=some (.int .i64 (L.getD j 0)):=fun j hj=>by
  rw[hown.cellAt j qo]
  simp[ints,List.getD,show j<L.length by omega]
 have hq1:∀z,Calls Tryz.prog 115 #[.slice (some ⟨gi,0,none⟩) 2 ci] (w.drewN z) fun e w'=>e=.returned (.int .i64 a)∧w'=w.drewN z:=fun z=>(l9 (some ⟨gi,0,none⟩) 2 ci (L.take 2) (w.drewN z) hlen1 (fun _=>⟨gi,0,rfl,hgi.2,fun j hj=>by
  have:=hcl j qo;rw[Nat.zero_add]
  simp only[List.getD,List.getElem?_take,if_pos hj]
  exact this⟩) (y8.take 2)).mono fun _ _ h=>⟨by rw[h.1,ha2],h.2.symm⟩
 have hq2:∀z,Calls Tryz.prog 115 #[.slice (some ⟨gi,2,none⟩) 2 (ci-2)] (w.drewN z) fun e w'=>e=.returned (.int .i64 b)∧w'=w.drewN z:=fun z=>(l9 (some ⟨gi,2,none⟩) 2 (ci-2) (L.drop 2) (w.drewN z) G0 (fun _=>⟨gi,2,rfl,hgi.2,fun j hj=>by
  have:=hcl (2+j) qo
  simp only[List.getD,List.getElem?_drop]
  exact this⟩) (y8.drop 2)).mono fun _ _ h=>⟨by rw[h.1,hb2],h.2.symm⟩
 have CA:=qh hq1;have pN:=qh hq2;have HHS:=qh H;have hne:¬ci=2:=qo;have Rc:(2:Int)≤(ci:Int):=qo;clear hq1 hq2 H ha hb hsum EN htb ha2 hb2 hcl hown y8 hs hs1 hsn hsg hL2 hlen1 G0 hI hpos hn
 rcases hk with⟨rfl,rfl⟩|⟨rfl,rfl⟩
 all_goals
  go_enter Tryz.func159,Tryz.ntmps159
  go_wp2_with fail
  go_quiet (first|(go_at_call_of 115 (Value.slice (some ⟨gi,0,none⟩) 2 ci);exact Calls.quiet_of_same (CA.o _))|(go_at_call 115;exact Calls.quiet_of_same (pN.o _)))
  go_wp2_with fail
  have F6:=qh (HHS.o.drewN nq);obtain⟨w3,hw3⟩:=qx (w.drewN nq);have n0:w3.cell? ⟨g,4,none⟩=some (.slice Ae n ce):=by rw[hw3];exact m0
  have nf:w3.frozen? ⟨g,4,none⟩=false:=by rw[hw3];exact f0
  have HB3:Hq (Below B w w3):=qh (by rw[hw3];exact Below.drewN' (Below.refl B w) nq);have hz3:w3.heap.size=w.heap.size:=by rw[hw3];rfl
  rw[←hw3]at F6 ⊢;clear hw3 m0 f0;refine aY (S:=fun w'=>w'.cell? ⟨g,4,none⟩=some (.slice Ae n ce)) _ qj qk qk n0 (fun hHeld=>?_)
  simp only[List.dropLast,List.getLast_cons_cons,List.getLast_singleton,List.length_cons,List.length_nil]
  refine qt 0 hHeld ?_;refine qt 1 hHeld ?_;refine qt 2 hHeld ?_;refine qt 3 hHeld ?_;refine qt 4 hHeld ?_;refine qt 5 hHeld ?_;refine qt 6 hHeld ?_;refine qt 7 hHeld ?_;refine qt 8 hHeld ?_
  simp only[List.getElem_toArray,List.getElem_cons_succ,List.getElem_cons_zero,Act.put,List.setIfInBounds_toArray,List.set_cons_zero,List.set_cons_succ]
  refine wpAnyH_ready (rs:=[9]) qk qj ?_;refine AllReadyH.cons rfl (fun K hK=>?_) AllReadyH.nil
  simp only[List.getElem_toArray,List.getElem_cons_succ,List.getElem_cons_zero]
  go_simp
  refine(rV P0 a b _ w3.drew hp hab.1 hab.2).mono ?_;rintro e w4 ⟨v4,rfl,d6,hb4⟩;generalize hR:bL _ (bY P0 a b)=R at d6;have HER:=qh (HE.o.trans hR);clear hR;have rS:=qh (F6.o.drew.below hb4);have k0:w4.cell? ⟨g,4,none⟩=some (.slice Ae n ce):=rS.o.b.cell 4;have kf:w4.frozen? ⟨g,4,none⟩=false:=rS.o.b.frozen 4;have aW:=qh (HB3.o.trans (((Below.refl w3.heap.size w3).drew.trans hb4).mono qo));obtain⟨g4,c4,rfl⟩:∃g4 c4,v4=.slice (some ⟨g4,0,none⟩) (b*a) c4:=by
   rcases d6.2 with⟨_,h0⟩|⟨g4,cap,_,e,_⟩
   ·omega
   ·exact⟨g4,cap,e⟩
  have bS:=qh d6;have HR4:Hq (d7 w4 g4 0 (b*a*6) (fun j=>.int .i64 (R.getD j 0))):=qh (fun j hj=>by
   obtain⟨_,_,e,_,hr⟩:=P6 bS.o qo;injection e with e;injection e with e e2;subst e e2;exact hr j hj)
  refine hK.out _ _ k0 (fun bT=>?_);clear hK K hHeld d6 hb4;refine wpAnyH_ready (rs:=[10]) qk qj ?_;refine AllReadyH.cons rfl (fun K hK=>?_) AllReadyH.nil
  simp only[List.getElem_toArray,List.getElem_cons_succ,List.getElem_cons_zero]
  refine OF w4 (by rfl) (.tmp 33) (.tmp 38) _ (by rfl) B 116 i0 _ 6 48 Tryz.underlying42 hi0 iz is ib rfl qo (.slice Ae n ce) n (ints E) (by rfl) rS.o.e g4 0 (b*a) c4 (fun j=>.int .i64 (R.getD j 0)) (by rfl) HR4.o (fun j=>rfl) qm qo (Nat.le_trans hB aW.o.size) ?_;intro v5 w5 hown5 j9 l0;obtain⟨A5,c5,rfl⟩:=aE hown5;have gG:∀b,(Value.slice Ae n ce).ownBlock=some b→tg b=2:=rS.o.te;have hgn:¬(Value.slice Ae n ce).ownBlock=some g:=fun e=>by have:=gG _ e;have:=rS.o.tb;omega
  have dM:=World.block_lt_of_cell? w4 _ k0;have k5:=(j9.cells dM hgn 4).trans k0;have k5f:w5.frozen? ⟨g,4,none⟩=false:=(World.frozen?_of_block (w:=w4) (a:=⟨g,4,none⟩) (j9.block g dM hgn)).trans kf;refine hK.out _ _ k5 (fun bF=>?_);clear hK K bT;have hfree:qZ tg (.slice A5 (n+b*a) c5) 2:=fun b hb=>by
   exact zP32x4
  have hown6:w5.ownsRow B 116 6 (.slice A5 (n+b*a) c5) (n+b*a) (ints (E++R)):=by
   exact zP32x6
  have HM:=qh (rS.o.R4 (w':=w5) (fun b h0 h2=>j9.block b (rS.o.lt b h0) fun e=>h2 (gG b e)) j9.size hown6 hfree (o:=4) rfl);have iD:=qh (Below.setCell (p:=⟨g,4,none⟩) (aW.o.trans (j9.own rS.o.e (Nat.le_trans hB aW.o.size))) rS.o.lo (.slice A5 (n+b*a) c5));clear gG hgn dM k0 kf hfree j9 hown5 l0 hown6 n0 nf;refine qt 11 bF ?_;refine qt 12 bF ?_
  simp only[List.getElem_toArray,List.getElem_cons_succ,List.getElem_cons_zero,Act.put,List.setIfInBounds_toArray,List.set_cons_zero,List.set_cons_succ]
  refine wpAnyH_done qk ?_ _;refine bZ.of ?_
  go_simp
  clear bF k5 k5f
  go_wp2_with fail
  obtain⟨w6,vX⟩:=qx (w5.setCell ⟨g,4,none⟩ (.slice A5 (n+b*a) c5));rw[←vX]at HM iD ⊢;clear vX;have hown6:=Nz.o w6 HM.o.k;have CG:=qh hown6;have afD:=hown6.lt gi rfl;obtain⟨j0,hj0,jz,js,jb⟩:=info_parts info64;have bM:Below w6.heap.size w6 (w6.drew.alloc (.cells #[.slice (some ⟨gi,2,none⟩) 2 (ci-2),.slice (some ⟨gi,0,none⟩) 2 ci] 61)):=(Below.refl w6.heap.size w6).drew.alloc ql _;have MI:=qh (HM.o.below bM);have hX:=kN w6.drew #[.slice (some ⟨gi,2,none⟩) 2 (ci-2),.slice (some ⟨gi,0,none⟩) 2 ci] 61;have pC:=qh (own_below hown6 bM);have E5:∀j,j<4→(w6.drew.alloc (.cells #[.slice (some ⟨gi,2,none⟩) 2 (ci-2),.slice (some ⟨gi,0,none⟩) 2 ci] 61)).cell? ⟨gi,j,none⟩=some (.int .i64 (L.getD j 0)):=fun j hj=>by
   rw[pC.o.cellAt j qo]
   simp[ints,List.getD,show j<L.length by omega]
  have j8:=qh (E6 w6.drew.heap.size 2 2 (fun i=>if i=0 then L.drop 2 else L.take 2) (w6.drew.alloc (.cells #[.slice (some ⟨gi,2,none⟩) 2 (ci-2),.slice (some ⟨gi,0,none⟩) 2 ci] 61)) (fun i hi=>by
   rcases(show i=0∨i=1 by omega)with rfl|rfl
   ·refine⟨some ⟨gi,2,none⟩,ci-2,?_,fun _=>⟨gi,2,rfl,by have:=bM.size;omega,fun j hj=>?_⟩⟩
    ·have h9:=kP.o.1
     show _=some (Value.slice _ (L.drop 2).length _);rw[h9];exact hX 0
    ·have hj2:j<2:=by have h9:=kP.o.1;have h8:j<(L.drop 2).length:=hj;omega
     have h7:=E5 (2+j) qo;show _=some (Value.int .i64 ((L.drop 2).getD j 0))
     simp only[List.getD,List.getElem?_drop]
     exact h7
   ·refine⟨some ⟨gi,0,none⟩,ci,?_,fun _=>⟨gi,0,rfl,by have:=bM.size;omega,fun j hj=>?_⟩⟩
    ·have h9:=kP.o.2
     show _=some (Value.slice _ (L.take 2).length _);rw[h9];exact hX 1
    ·have hj2:j<2:=by have h9:=kP.o.2;have h8:j<(L.take 2).length:=hj;omega
     have h7:=E5 j qo;show _=some (Value.int .i64 ((L.take 2).getD j 0));rw[Nat.zero_add]
     simp only[List.getD,List.getElem?_take,if_pos hj2]
     exact h7) qj (by have h9:=kP.o;simp only[eX,List.nil_append,List.length_append];simp only[if_pos,if_neg (show¬(1:Nat)=0 by omega)];omega) qo)
  have KI:=qh (show eX (fun i=>if i=0 then L.drop 2 else L.take 2) 2=L.drop 2++L.take 2 by simp[eX]);have aR:=qh (iD.o.trans (bM.mono (Nat.le_trans hB iD.o.size)));clear bM hX E5 hown6;refine aY (S:=fun _=>True) _ qj qk qk trivial (fun hHeld=>?_)
  simp only[List.dropLast,List.getLast_cons_cons,List.getLast_singleton,List.length_cons,List.length_nil]
  refine qt 0 hHeld ?_;refine qt 1 hHeld ?_;refine qt 2 hHeld ?_;refine qt 3 hHeld ?_;refine qt 4 hHeld ?_;refine qt 5 hHeld ?_;refine qt 6 hHeld ?_
  simp only[List.getElem_toArray,List.getElem_cons_succ,List.getElem_cons_zero,Act.put,List.setIfInBounds_toArray,List.set_cons_zero,List.set_cons_succ]
  refine wpAnyH_ready (rs:=[7]) qk qj ?_;refine AllReadyH.cons rfl (fun K hK=>?_) AllReadyH.nil
  simp only[List.getElem_toArray,List.getElem_cons_succ,List.getElem_cons_zero]
  go_simp
  refine hK.out _ _ trivial (fun bT=>?_);clear hK K hHeld;refine wpAnyH_ready (rs:=[8]) qk qj ?_;refine AllReadyH.cons rfl (fun K hK=>?_) AllReadyH.nil
  simp only[List.getElem_toArray,List.getElem_cons_succ,List.getElem_cons_zero]
  go_simp
  refine j8.o.mono ?_;rintro e w8 ⟨v8,rfl,gC,gY⟩;refine hK.out _ _ trivial (fun dK=>?_);clear hK K bT;rw[KI.o]at gC;have F8:=qN;have X6:(L.drop 2++L.take 2).length=4:=by rw[List.length_append];have:=kP.o;omega
  generalize L.drop 2++L.take 2=X8 at gC X6 F8;rw[X6]at gC;obtain⟨g8,c8,rfl⟩:∃g8 c8,v8=.slice (some ⟨g8,0,none⟩) 4 c8:=by
   rcases gC.2 with⟨_,h0⟩|⟨g8,cap,_,e,_⟩
   ·omega
   ·exact⟨g8,cap,e⟩
  have Oa:=qh (MI.o.below gY);have dV:=qh (aR.o.trans (gY.mono (Nat.le_trans hB aR.o.size)));have rP:=qh (Nz.o w8 Oa.o.k);have YZ:=qh gC;clear gC gY;refine wpAnyH_done qk ?_ _;refine bZ.of ?_;refine GT (.tmp 42) (.tmp 50) _ _ (by rfl) 2 Tryz.underlying61 (by rw[hj0];simp[js]) B gi 4 ci (ints L) (by rfl) rP.o g8 0 c8 (ints X8) (by rfl) (by simp[ints,X6]) (fun j v hj=>?_) (fun v hv=>?_) ?_
  ·rw[Nat.zero_add,YZ.o.cellAt j (by have h1:=(List.getElem?_eq_some_iff.1 hj).1;simp[ints]at h1;omega)]
   exact hj
  ·exact WT _ v hv
  exact zP32x5
end
theorem UQ (K0:Inhabited bQ){B g q:Nat}{E:List Int}{C:Nat→List Int}{w:World}{d c:Int}{A:Option Addr}{m qq:Nat}(gi n ci:Nat)(k P0:Int)(L:List Int)(H:@dO (eN K0 B (.slice (some ⟨gi,0,none⟩) n ci) n L) 166 (r7 d c A m qq) B g q E C w)(hB:B≤w.heap.size)(hE:E.length≤500000)(hp:0≤P0∧P0≤1000000000)(hL:L.length=n)(hn:n=bN k)(y8:mR L)(hs:aQ L≤100)(hs1:∀x∈L,1≤x)(h0:jI k≠0):
 Calls Tryz.prog 159 #[.pointer (some ⟨g,0,none⟩),.int .i64 k,.int .i64 P0,.slice (some ⟨gi,0,none⟩) n ci] w fun e w'=>e=.returned (.tuple #[])∧@dO (eN K0 B (.slice (some ⟨gi,0,none⟩) n ci) n (jD k L)) 166 (r7 d c A m qq) B g q (E++lB P0 k L) C w'∧Below B w w':=by
 have hI:∀w',(eN K0 B (.slice (some ⟨gi,0,none⟩) n ci) n L).default.P w'→w'.ownsRow B 2 1 (.slice (some ⟨gi,0,none⟩) n ci) n (ints L):=fun w' h=>h.2.1;have hgi:B≤gi:=((hI w (dO.free _ H).2).lt gi rfl).1;have hfin:∀e w',@ak (eN K0 B (.slice (some ⟨gi,0,none⟩) n ci) n L) 166 (r7 d c A m qq) B g q (E++lB P0 k L) C gi n ci (jD k L) w e w'→e=.returned (.tuple #[])∧@dO (eN K0 B (.slice (some ⟨gi,0,none⟩) n ci) n (jD k L)) 166 (r7 d c A m qq) B g q (E++lB P0 k L) C w'∧Below B w w':=by
  rintro e w' ⟨he,w2,h1,h2,h3,h4,h5⟩;exact⟨he,dO.aas K0 h1 h4 (fun b hb hne=>h3.block b hb fun e=>hne (by rw[e];rfl)) h5,h2.trans (h3.below (Nat.le_trans hB h2.size) fun b hb=>by rw[hb];exact hgi)⟩
 have hkk:k=8∨k=9∨k=5∨k=10∨k=11:=Decidable.byContradiction fun hn=>h0 (by unfold jI;rw[if_neg qo,if_neg qo])
 rcases hkk with rfl|rfl|rfl|rfl|rfl
 ·obtain rfl:n=2:=hn
  exact(@wM (eN K0 B (.slice (some ⟨gi,0,none⟩) 2 ci) 2 L) _ _ _ _ _ _ _ _ _ _ _ gi ci 8 1 P0 L H hI hB hE hp hL y8 hs hs1 qj).mono hfin
 ·obtain rfl:n=2:=hn
  exact(@wM (eN K0 B (.slice (some ⟨gi,0,none⟩) 2 ci) 2 L) _ _ _ _ _ _ _ _ _ _ _ gi ci 9 (-1) P0 L H hI hB hE hp hL y8 hs hs1 qj).mono hfin
 ·obtain rfl:n=2:=hn
  exact(@wM (eN K0 B (.slice (some ⟨gi,0,none⟩) 2 ci) 2 L) _ _ _ _ _ _ _ _ _ _ _ gi ci 5 (-1) P0 L H hI hB hE hp hL y8 hs hs1 qj).mono hfin
 ·obtain rfl:n=4:=hn
  exact(@EK (eN K0 B (.slice (some ⟨gi,0,none⟩) 4 ci) 4 L) _ _ _ _ _ _ _ _ _ _ _ gi ci 10 1 P0 L H hI hB hE hp hL y8 hs hs1 qj).mono hfin
 ·obtain rfl:n=4:=hn
  exact(@EK (eN K0 B (.slice (some ⟨gi,0,none⟩) 4 ci) 4 L) _ _ _ _ _ _ _ _ _ _ _ gi ci 11 (-1) P0 L H hI hB hE hp hL y8 hs hs1 qj).mono hfin
def zW (g n cap P:Nat)(u:Value):Prop:=∃p,u=.slice (some p) (n-P) (cap-P)∧(P<n→p=⟨g,P,none⟩)
theorem zW.Vm {g n cap P T:Nat}{pr:Addr}(h:cap-P=T)(hn:n≤cap)(hT:P+T≤n):zW g n cap (P+T) (.slice (some pr) (n-P-T) 0):=
 ⟨pr,by rw[Nat.sub_sub,show cap-(P+T)=0 by omega],fun h=>by omega⟩
theorem zW.Vl {g n cap P T:Nat}{pr:Addr}(hp:P<n→pr=⟨g,P,none⟩)(hT:P+T≤n):zW g n cap (P+T) (.slice (some (pr.add T)) (n-P-T) (cap-P-T)):=
 ⟨pr.add T,by rw[Nat.sub_sub,Nat.sub_sub],fun h=>by rw[hp qo,Addr.add_lit]⟩
theorem zP32x2 {p:Prop}(h:p:=by
 have h1:(fun j=>if j=i then X else fY s z j)=fY s z:=by
  funext j
  by_cases h:j=i
  ·rw[if_pos h,h,ac6.o]
  ·rw[if_neg h]
 rw[h1]at H';refine⟨i+1,by omega,qg,by rw[fW.o],?_,qh ⟨_,_,_,_,_,H'⟩,qh (Below.setCell (p:=⟨g,3,none⟩) (dE.o.trans (jU.o.own F8.o (Nat.le_trans hB dE.o.size))) HGB.o _)⟩;rw[V3.o]
 first
  |exact zW.Vm hcT hcR xZ
  |exact zW.Vl hpr xZ):p:=h
theorem US {B g:Nat}{w:World}{d c:Int}{A:Option Addr}{m qq:Nat}(z s:Nat→Int)(As:OA)(n cs:Nat)(C0:Nat→List Int)(H:dO 166 (r7 d c A m qq) B g 0 [] C0 w)(hB:B≤w.heap.size)(hz:Rd w A m (fun j=>.int .i64 (z j)))(Vt:∀b,Fb A m b→b<B)(hs:Rd w As n (fun j=>.int .i64 (s j)))(hn:0<n)(hf:iR s z n m):
 Calls Tryz.prog 112 #[.pointer (some ⟨g,0,none⟩),.slice As n cs] w (zG 166 (r7 d c A m qq) B g m (yD s z m) (fY s z) w):=by
 obtain⟨j0,hj0,jz,js,jb⟩:=info_parts BI;have hm8:=hf.m8;have BK:=hf.n8;have HF:=qh hf;have HZ:=qh hz;have rO:=qh Vt;have HK0:=qh H;have hAs:∃p,As=some p:=by obtain⟨g,o,e,_⟩:=hs hn;exact⟨_,e⟩
 obtain⟨p,rfl⟩:=hAs;obtain⟨SL,Wh⟩:∃L,L=(List.range n).map s:=⟨_,rfl⟩;have Rk:SL.length=n:=by rw[Wh];simp
 have hSg:∀j,j<n→SL.getD j 0=s j:=fun j hj=>by rw[Wh];simp[List.getD,hj]
 have HSL:=qh Wh;have HSG:=qh hSg;have hcl:=PT (some p) cs SL w (by rw[Rk];exact hs.congr fun j hj=>by rw[hSg j hj]) (fun e=>by cases e) qo;rw[Rk]at hcl;have vT:=qh hcl;clear hf hz Vt H hs Wh hSg hcl
 go_enter Tryz.func112,Tryz.ntmps112
 go_wp2_with fail
 refine vT.o.mono ?_;rintro e w1 ⟨v1,rfl,ho1,hb1⟩;rw[Rk]at ho1;obtain⟨gR,cR,rfl⟩:∃gR cR,v1=.slice (some ⟨gR,0,none⟩) n cR:=by
  rcases ho1.2 with⟨_,h0⟩|⟨gR,cap,_,e,_⟩
  ·omega
  ·exact⟨gR,cap,e⟩
 have hcR:n≤cR:=by
  rcases ho1.2 with⟨e,_⟩|⟨_,cap,_,e,_,_,hn,_⟩
  ·cases e
  ·injection e with _ _ e3
   omega
 have HB1:=qh (hb1.mono hB);have hgR:=ho1.lt gR rfl;have fD:=qh (HK0.o.keep hb1 (dD (some ⟨gR,0,none⟩) n (fun j=>.int .i64 (s j))) ((G4 ho1).congr fun j hj=>by rw[HSG.o j hj]) (fun b hb=>by
  obtain⟨_,a,e,hb⟩:=hb;injection e with e;subst e;have e2:gR=b:=hb;omega))
 obtain⟨HMF,_⟩:=dO.free _ fD.o;obtain⟨tg,ev,cl,nE,U,H1⟩:=HMF;have m2:w1.cell? ⟨g,2,none⟩=some (.slice A m qq):=H1.b.cell 2;clear HK0 ho1 hb1 H1 vT hgR
 go_wp2_with fail
 clear m2
 go_loopw [4,5,18] (fun ru pl x wr=>∃i:Nat,i≤m∧x=.int .i64 i∧pl=.int .i64 (bC (seg s z) i)∧zW gR n cR (aF z i) ru∧Hq (@dO (dD (some ⟨gR,0,none⟩) n (fun j=>.int .i64 (s j))) 166 (r7 d c A m qq) B g i (yD s z i) (fY s z) wr)∧Hq (Below B w wr)) (fun _ _ x _=>m-(intOf x).toNat)
 case atStart=>exact⟨0,Nat.zero_le _,rfl,rfl,⟨⟨gR,0,none⟩,rfl,fun _=>rfl⟩,qh (by
  obtain⟨tg,ev,cl,nE,U,H1⟩:=fD.o;have h:=@dO.congr (dD (some ⟨gR,0,none⟩) n (fun j=>.int .i64 (s j))) _ _ _ _ 0 [] C0 (fY s z) w1 fD.o fun j hj=>by omega
  exact h),HB1⟩
 case round=>
  obtain⟨i,hi,rfl,rfl,⟨pr,rfl,hpr⟩,dA,HB2⟩:=hrel
  by_cases hlt:i<m
  ·obtain⟨gz,oz,rfl,hgz,hrz⟩:=HZ.o qo
   have afB:gz<B:=rO.o gz ⟨by omega,_,rfl,rfl⟩;have cz:=aM HB2.o afB (hrz i hlt);have fX:=HF.o.hz i hlt;have xZ:aF z i+bN (z i)≤n:=by
    have h1:=gU z (show i+1≤m by omega);rw[HF.o.t]at h1;exact h1
   have htk:=kW (z i);obtain⟨y,hy⟩:=qx (z i);obtain⟨T,hT⟩:=qx (bN (z i));obtain⟨P,hP⟩:=qx (aF z i);have HY:=qh hy;have HT:=qh hT;have HP:=qh hP
   simp only[←hy]at cz fX
   rw[←hT,←hP]at xZ;rw[←hT]at htk;rw[←hP]at hpr ⊢;have hbef:0≤bC (seg s z) i∧bC (seg s z) i≤1000:=by
    have h1:=MF (C:=seg s z) (q:=i) (b:=20) fun j hj=>(jW (mg (HF.o.seg (show j<m by omega)))).2;omega
   obtain⟨F,hF⟩:=qx (bC (seg s z) i);have pO:=qh hF;rw[←hF]at hbef ⊢;have b1:(0:Int)≤(i:Int):=qo;have b2:(i:Int)<(m:Int):=qo;have b3:(0:Int)≤(T:Int):=qo;have b4:(T:Int)≤((cR-P:Nat):Int):=qo;clear hrz hy hT hP hF
   go_wp2_with fail
   refine(lK y _ fX).mono ?_;rintro e w' ⟨rfl,rfl⟩;rw[HY.o,←HT.o,←HY.o];have hsg:=HF.o.seg hlt;have hLT:(seg s z i).length=T:=by rw[seg_length,HT.o]
   have hLg:∀j,j<T→(seg s z i).getD j 0=s (P+j):=fun j hj=>by rw[HP.o];simp[seg,List.getD,show j<bN (z i)by rw[←HT.o];exact hj]
   have hbgl:=HF.o.yD hi;have hsm:=jW (mg hsg);have HBG:=qh (show yD s z (i+1)=yD s z i++lB F y (seg s z i)by rw[pO.o,HY.o];rfl);have fW:=qh (show bC (seg s z) (i+1)=F+aQ (seg s z i)by rw[pO.o];rfl);have FB:=qh (show fY s z i=jD y (seg s z i)by rw[HY.o];rfl);have V3:=qh (show aF z (i+1)=P+T by rw[HP.o,HT.o];rfl);obtain⟨L,hL⟩:=qx (seg s z i);rw[←hL]at hsg hLT hLg hsm;rw[←hL]at HBG fW FB;have ZD:=qh hLg;have ZC:=qh hsg;have TO:=qh hsm;have gK:=qh hLT;have HTY:=qh (show T=bN y by rw[HT.o,HY.o]);have hsum2:0≤aQ L∧aQ L≤20:=hsm.2;clear hL hsg hLT hLg hsm
   go_wp2_with fail
   obtain⟨_,hrR⟩:=dO.free _ dA.o;have hcl:=PT (some pr) (cR-P) L wr (by rw[gK.o];exact fun h0=>⟨gR,P,by rw[hpr qo],(by obtain⟨g9,o9,e9,h9,_⟩:=hrR hn;injection e9 with e9;injection e9 with e9;rw[e9];exact h9),fun j hj=>by
    obtain⟨g9,o9,e9,h9,Vv⟩:=hrR hn;injection e9 with e9;injection e9 with e9 e10;subst e9 e10;have h:=Vv (P+j) qo;rw[Nat.zero_add]at h;show _=some (Value.int .i64 (L.getD j 0));rw[ZD.o j hj];exact h⟩) (fun e=>by cases e) (by rw[gK.o];omega)
   rw[gK.o]at hcl;refine hcl.mono ?_;clear hcl hrR;rintro e w3 ⟨v3,rfl,ho3,hb3⟩;rw[gK.o]at ho3;have za:=qh (show∀b,v3.ownBlock=some b→wr.heap.size≤b from fun b hb=>(ho3.lt b hb).1);have iW:=qh (dO.Yx _ dA.o hb3 ho3 (Nat.le_trans hB HB2.o.size));have HB3:=qh (HB2.o.trans (hb3.mono (Nat.le_trans hB HB2.o.size)));obtain⟨X,hX⟩:=qx (jD y L);have Wx:=qh (show X.length=T by rw[hX,G9];exact gK.o);have C6:=qh (show aQ X=aQ L by rw[hX];exact xg y L);have HXM:=qh (show mR X by rw[hX];exact⟨by rw[G9];exact TO.o.1.1,fun x hx=>TO.o.1.2 x (xk hx)⟩);have ac6:=qh (show fY s z i=X by rw[hX];exact FB.o);have Q4:=qh hX;have HGB:Hq (B≤g):=qh (by
    obtain⟨⟨mo,_,_,_,_,h9⟩,_⟩:=dO.free _ dA.o;exact h9.lo)
   clear hX ho3 hb3
   by_cases h0:jI y=0
   ·have zn:Hq (@dO (eN (dD (some ⟨gR,0,none⟩) n (fun j=>.int .i64 (s j))) B v3 T X) 166 (r7 d c (some ⟨gz,oz,none⟩) m qq) B g i (yD s z (i+1)) (fY s z) w3):=qh (by
     have h:=iW.o;rw[HBG.o,Q4.o,lB,jD,if_pos h0,if_pos h0,List.append_nil];exact h)
    have dE:=HB3;have e8:¬y=8:=fun e=>by rw[e]at h0;exact absurd h0 (by decide)
    have e9:¬y=9:=fun e=>by rw[e]at h0;exact absurd h0 (by decide)
    have e10:¬y=10:=fun e=>by rw[e]at h0;exact absurd h0 (by decide)
    have e11:¬y=11:=fun e=>by rw[e]at h0;exact absurd h0 (by decide)
    have e5:¬y=5:=fun e=>by rw[e]at h0;exact absurd h0 (by decide)
    have f8:(y==8)=false:=by simpa using e8
    have f9:(y==9)=false:=by simpa using e9
    have f10:(y==10)=false:=by simpa using e10
    have f11:(y==11)=false:=by simpa using e11
    have f5:(y==5)=false:=by simpa using e5
    rename World=>wX
    obtain⟨tgX,evX,clX,nX,UX,tZ,oS,tu⟩:=dO.nu _ zn.o;obtain⟨Av,cv,rfl⟩:=aE tu;have HX:=qh tZ;have Q9:=qh tu;have Nc:=qh oS;obtain⟨Al,BX,rfl⟩:=aE (@aZ.c (dD (some ⟨gR,0,none⟩) n (fun j=>.int .i64 (s j))) _ _ _ _ _ _ _ _ _ _ _ _ _ tZ);have F8:=qh (@aZ.c (dD (some ⟨gR,0,none⟩) n (fun j=>.int .i64 (s j))) _ _ _ _ _ _ _ _ _ _ _ _ _ tZ);have Q7:=qh (@aZ.tc (dD (some ⟨gR,0,none⟩) n (fun j=>.int .i64 (s j))) _ _ _ _ _ _ _ _ _ _ _ _ _ tZ);have Nf:=qh (@aZ.tb (dD (some ⟨gR,0,none⟩) n (fun j=>.int .i64 (s j))) _ _ _ _ _ _ _ _ _ _ _ _ _ tZ);have iO:=qh (@aZ.lt (dD (some ⟨gR,0,none⟩) n (fun j=>.int .i64 (s j))) _ _ _ _ _ _ _ _ _ _ _ _ _ tZ);have m3:wX.cell? ⟨g,3,none⟩=some (.slice Al i BX):=(@aZ.b (dD (some ⟨gR,0,none⟩) n (fun j=>.int .i64 (s j))) _ _ _ _ _ _ _ _ _ _ _ _ _ tZ).cell 3;have f3:wX.frozen? ⟨g,3,none⟩=false:=(@aZ.b (dD (some ⟨gR,0,none⟩) n (fun j=>.int .i64 (s j))) _ _ _ _ _ _ _ _ _ _ _ _ _ tZ).frozen 3;have dM:=World.block_lt_of_cell? wX _ m3
    simp only at dM
    have TP:=qh (show¬(Value.slice Al i BX).ownBlock=some g from fun e=>by have h1:=Q7.o _ e;have h2:=Nf.o;omega);have Ub:=qh m3;have Un:=qh f3;have Jp:=C6.o;clear tZ oS tu f3
    go_wp2_with fail
    refine(l9 Av T cv X _ Wx.o (G4 Q9.o) HXM.o).mono ?_;rintro e w' ⟨rfl,rfl⟩;rw[Jp];clear Jp
    by_cases hcT:cR-P=T
    all_goals
     go_wp2_with (at_builtin;go_must (refine d5 wX rfl (.tmp 51) (.tmp 53) _ rfl B 61 j0 _ 1 24 Tryz.underlying89 hj0 jz js jb rfl qo (.slice Al i BX) i _ rfl F8.o _ 1 1 _ rfl rfl (by simp[Value.oneCell']) qm qo (Nat.le_trans hB dE.o.size) ?_);intro v' w' hown' hf' hat';obtain⟨A9,c9,rfl⟩:=aE hown';have CF:=qh hown';have jU:=qh hf';have IC:=qh hat';have k9:=(hf'.cells dM TP.o 3).trans Ub.o;have f9:=(World.frozen?_of_block (a:=⟨g,3,none⟩) (hf'.block _ dM TP.o)).trans Un.o;clear hown' hf' hat')
     clear k9 f9 m3 dM
     go_roundw
     case rel=>
      have hvn:∀b,(Value.slice Av T cv).ownBlock=some b→wr.heap.size≤b:=za.o;have hvl:∀b,(Value.slice Av T cv).ownBlock=some b→b<wX.heap.size:=fun b hb=>(Q9.o.lt b hb).2;have hcl:∀b,(Value.slice Al i BX).ownBlock=some b→b<wX.heap.size:=fun b hb=>(F8.o.lt b hb).2;have BJ:∀b,(Value.slice Av T cv).ownBlock=some b→¬(Value.slice Al i BX).ownBlock=some b:=fun b hb e=>by have h1:=Q7.o b e;have h2:=Nc.o b hb;omega
      have hown2:w'.ownsRow B 2 1 (.slice Av T cv) X.length (ints X):=by
       rw[Wx.o];exact dZ Q9.o fun b hb=>jU.o.block b (hvl b hb) (BJ b hb)
      obtain⟨eZ,H',_⟩:=@aZ.Pj (dD (some ⟨gR,0,none⟩) n (fun j=>.int .i64 (s j))) _ _ _ _ _ _ _ _ _ _ _ _ _ _ HX.o (fun b h0 h3=>jU.o.block b (iO.o b h0) fun e=>h3 (Q7.o b e)) jU.o.size (.slice A9 (i+1) c9) (.slice Av T cv) X CF.o (fun b hb=>by
       rcases IC.o with h|h
       ·exact .inr (Q7.o b (h.symm.trans hb))
       ·refine .inl (Decidable.byContradiction fun hne=>?_)
        have h1:=iO.o b hne;rw[hb]at h;injection h with h;omega) (.inr ⟨hown2,fun b hb=>⟨Nc.o b hb,fun e=>by
       rcases IC.o with h|h
       ·exact BJ b hb (h.symm.trans e)
       ·rw[e]at h
        injection h with h;have:=hvl b hb;omega⟩⟩) 3 rfl
      exact zP32x2
     case measure=>exact qs
   ·have hkk:y=8∨y=9∨y=5∨y=10∨y=11:=Decidable.byContradiction fun hn=>h0 (by unfold jI;rw[if_neg qo,if_neg qo])
    have hT0:0<T:=by rw[HTY.o];rcases hkk with e|e|e|e|e<;>rw[e]<;>decide
    obtain⟨gi,ci,rfl⟩:∃gi ci,v3=.slice (some ⟨gi,0,none⟩) T ci:=by
     rcases(dO.free _ iW.o).2.2.1.2 with⟨_,h9⟩|⟨gi,cap,_,e,_⟩
     ·omega
     ·exact⟨gi,cap,e⟩
    have hC4:=UQ (dD (some ⟨gR,0,none⟩) n (fun j=>.int .i64 (s j))) gi T ci y F L (by have h:=iW.o;exact h) (Nat.le_trans hB HB3.o.size) qo qo gK.o HTY.o TO.o.1 (by have:=TO.o.2;omega) (fun x hx=>(ZC.o.1 x hx).1) h0;rw[←Q4.o,←HBG.o]at hC4;have HC4:=qh hC4;clear hC4 hT0
    rcases hkk with rfl|rfl|rfl|rfl|rfl
    all_goals
     go_wp2_with fail
     refine HC4.o.mono ?_;rintro e w4 ⟨rfl,hM4,hb4⟩;have zn:=qh hM4;have dE:=qh (HB3.o.trans hb4);clear hM4 hb4
     rename World=>wX
     obtain⟨tgX,evX,clX,nX,UX,tZ,oS,tu⟩:=dO.nu _ zn.o;have HX:=qh tZ;have Q9:=qh tu;have Nc:=qh oS;obtain⟨Al,BX,rfl⟩:=aE (@aZ.c (dD (some ⟨gR,0,none⟩) n (fun j=>.int .i64 (s j))) _ _ _ _ _ _ _ _ _ _ _ _ _ tZ);have F8:=qh (@aZ.c (dD (some ⟨gR,0,none⟩) n (fun j=>.int .i64 (s j))) _ _ _ _ _ _ _ _ _ _ _ _ _ tZ);have Q7:=qh (@aZ.tc (dD (some ⟨gR,0,none⟩) n (fun j=>.int .i64 (s j))) _ _ _ _ _ _ _ _ _ _ _ _ _ tZ);have Nf:=qh (@aZ.tb (dD (some ⟨gR,0,none⟩) n (fun j=>.int .i64 (s j))) _ _ _ _ _ _ _ _ _ _ _ _ _ tZ);have iO:=qh (@aZ.lt (dD (some ⟨gR,0,none⟩) n (fun j=>.int .i64 (s j))) _ _ _ _ _ _ _ _ _ _ _ _ _ tZ);have m3:wX.cell? ⟨g,3,none⟩=some (.slice Al i BX):=(@aZ.b (dD (some ⟨gR,0,none⟩) n (fun j=>.int .i64 (s j))) _ _ _ _ _ _ _ _ _ _ _ _ _ tZ).cell 3;have f3:wX.frozen? ⟨g,3,none⟩=false:=(@aZ.b (dD (some ⟨gR,0,none⟩) n (fun j=>.int .i64 (s j))) _ _ _ _ _ _ _ _ _ _ _ _ _ tZ).frozen 3;have dM:=World.block_lt_of_cell? wX _ m3
     simp only at dM
     have TP:=qh (show¬(Value.slice Al i BX).ownBlock=some g from fun e=>by have h1:=Q7.o _ e;have h2:=Nf.o;omega);have Ub:=qh m3;have Un:=qh f3;have Jp:=C6.o;clear tZ oS tu f3
     go_wp2_with fail
     refine(l9 (some ⟨gi,0,none⟩) T ci X _ Wx.o (G4 Q9.o) HXM.o).mono ?_;rintro e w' ⟨rfl,rfl⟩;rw[Jp];clear Jp
     by_cases hcT:cR-P=T
     all_goals
      go_wp2_with (at_builtin;go_must (refine d5 wX rfl (.tmp 51) (.tmp 53) _ rfl B 61 j0 _ 1 24 Tryz.underlying89 hj0 jz js jb rfl qo (.slice Al i BX) i _ rfl F8.o _ 1 1 _ rfl rfl (by simp[Value.oneCell']) qm qo (Nat.le_trans hB dE.o.size) ?_);intro v' w' hown' hf' hat';obtain⟨A9,c9,rfl⟩:=aE hown';have CF:=qh hown';have jU:=qh hf';have IC:=qh hat';have k9:=(hf'.cells dM TP.o 3).trans Ub.o;have f9:=(World.frozen?_of_block (a:=⟨g,3,none⟩) (hf'.block _ dM TP.o)).trans Un.o;clear hown' hf' hat')
      clear k9 f9 m3 dM
      go_roundw
      case rel=>
       have hvn:∀b,(Value.slice (some ⟨gi,0,none⟩) T ci).ownBlock=some b→wr.heap.size≤b:=za.o;have hvl:∀b,(Value.slice (some ⟨gi,0,none⟩) T ci).ownBlock=some b→b<wX.heap.size:=fun b hb=>(Q9.o.lt b hb).2;have hcl:∀b,(Value.slice Al i BX).ownBlock=some b→b<wX.heap.size:=fun b hb=>(F8.o.lt b hb).2;have BJ:∀b,(Value.slice (some ⟨gi,0,none⟩) T ci).ownBlock=some b→¬(Value.slice Al i BX).ownBlock=some b:=fun b hb e=>by have h1:=Q7.o b e;have h2:=Nc.o b hb;omega
       have hown2:w'.ownsRow B 2 1 (.slice (some ⟨gi,0,none⟩) T ci) X.length (ints X):=by
        rw[Wx.o];exact dZ Q9.o fun b hb=>jU.o.block b (hvl b hb) (BJ b hb)
       obtain⟨eZ,H',_⟩:=@aZ.Pj (dD (some ⟨gR,0,none⟩) n (fun j=>.int .i64 (s j))) _ _ _ _ _ _ _ _ _ _ _ _ _ _ HX.o (fun b h0 h3=>jU.o.block b (iO.o b h0) fun e=>h3 (Q7.o b e)) jU.o.size (.slice A9 (i+1) c9) (.slice (some ⟨gi,0,none⟩) T ci) X CF.o (fun b hb=>by
        rcases IC.o with h|h
        ·exact .inr (Q7.o b (h.symm.trans hb))
        ·refine .inl (Decidable.byContradiction fun hne=>?_)
         have h1:=iO.o b hne;rw[hb]at h;injection h with h;omega) (.inr ⟨hown2,fun b hb=>⟨Nc.o b hb,fun e=>by
        rcases IC.o with h|h
        ·exact BJ b hb (h.symm.trans e)
        ·rw[e]at h
         injection h with h;have:=hvl b hb;omega⟩⟩) 3 rfl
       exact zP32x2
      case measure=>exact qs
  ·obtain rfl:m=i:=qo
   go_wp2
   go_end0
   exact⟨rfl,(dO.free _ dA.o).1,HB2.o⟩
section
variable [Inhabited bQ]{T:TypeId}{mk:Value→Value→Array Value}{B g:Nat}{tg:Nat→Nat}{ev cl:Value}{n q:Nat}{E:List Int}{U:Nat→Value}{C:Nat→List Int}{w:World}
theorem aZ.cells {gi ci:Nat}(h:aZ T mk B g tg ev cl n q E U C w){i:Nat}(hi:i<q)(hU:U i=.slice (some ⟨gi,0,none⟩) (C i).length ci)(h0:0<(C i).length):(∀j,j<(C i).length→w.cell? ⟨gi,j,none⟩=some (.int .i64 ((C i).getD j 0)))∧(∀j,w.frozen? ⟨gi,j,none⟩=false)∧B≤gi∧gi<w.heap.size:=by
 obtain⟨gi',ci',e,_,h1,h2,_,h3,h4⟩:=h.oK hi h0;rw[hU]at e;injection e with e;injection e with e;injection e with e;subst e;exact⟨h3,h4,h2,h1⟩
end
section
variable [Inhabited bQ]{B g:Nat}{E:List Int}{C:Nat→List Int}{w:World}{d c:Int}{A:Option Addr}{m qq:Nat}
theorem zP32x0 {p:Prop}(h:p:=by
 have HE:=qh (show nA P0 c d (z i) L=gH 2 P0 (aQ L) 1 c d by rw[←HY.o];rfl);have HF:=qh (show iE (z i) L=[1]by rw[←HY.o];rfl)
 go_wp2_with fail
 refine(l9 Au L.length cu L _ rfl hJ.o l5.o).mono ?_;rintro e w' ⟨rfl,rfl⟩
 go_wp2_with fail
 refine(E0 2 P0 (aQ L) 1 HH.o hB hn2).mono ?_;rintro e w3 ⟨rfl,iW,hb3⟩;obtain⟨sQ,t7,YA,n3,U3,H3⟩:=iW;obtain⟨nW,NV,rfl⟩:=H3.form qo;have n1:w3.cell? ⟨g,3,none⟩=some (.slice (some ⟨nW,0,none⟩) m NV):=H3.b.cell 3;have n2:=H3.cellAt hi;have n5:=H3.qW i;have hB3:B≤w3.heap.size:=Nat.le_trans hB hb3.size;have h4:=H3.below ((Below.refl w3.heap.size w3).alloc ql (.cells #[.int .i64 1] 2));have hlit:=World.ownsRow_lit (base:=B) (e:=2) (size:=1) w3 #[.int .i64 1] 1 hB3 qm rfl;have tB:=qh (h4.IY hi (u:=.slice (some ⟨w3.heap.size,0,none⟩) 1 1) (L:=[1]) hlit (fun b hb=>by
  injection hb with hb;refine Decidable.byContradiction fun hne=>?_;have:=H3.lt b hne
  simp only at hb
  omega))
 have hgc:B≤nW:=(H3.c.lt nW rfl).1;have HB3:=qh (Below.setCell (p:=⟨nW,i,none⟩) (hb3.alloc hB3 (.cells #[.int .i64 1] 2)) hgc (.slice (some ⟨w3.heap.size,0,none⟩) 1 1));have hlt3:nW<w3.heap.size:=(H3.c.lt nW rfl).2;have Qu:g<w3.heap.size:=H3.b.lt;rw[World.setCell_alloc_past _ _ _ _ hlt3]at tB HB3;clear h4 hlit H3 hb3 hgc k3 k2 kz kc
 go_wp2_with fail
 go_end0
 exact⟨rfl,⟨_,_,_,_,_,by rw[←rC.o,HE.o,HF.o];exact tB.o⟩,HB3.o⟩):p:=h
theorem zP32x1 {p:Prop}(h:p:=by
 go_wp2_with fail
 go_roundw
 case rel=>exact⟨k+1,sQ,t7,n3,by omega,qg,qh (by rw[gJ.o,cT.o,←wN,←List.append_assoc];exact tA.o),HB3⟩
 case measure=>exact qs):p:=h
theorem zP32x3 {p:Prop}(h:p:=by
 obtain⟨gi,ci,e,_⟩:=HH.o.oK hi (by rw[HL.o];omega);rw[HU.o]at e;injection e with e;exact⟨gi,e⟩):p:=h
theorem zP32x7 {p:Prop}(h:p:=by
 go_wp2
 go_end0
 exact⟨rfl,⟨_,_,_,_,_,by rw[←rC.o,Tp.o,CK.o,←ah.o];exact CI.o⟩,aW.o⟩):p:=h
theorem zP32x8 {p:Prop}(h:p:=by
 obtain⟨gi2,ci2,e,h2,_⟩:=HH.o.oK hi (by rw[HL.o];omega);rw[HU.o]at e;injection e with _ _ e3;rw[HL.o]at h2;omega):p:=h
theorem WU (z:Nat→Int)(i:Nat)(L:List Int)(H:dO 166 (r7 d c A m qq) B g m E C w)(hB:B≤w.heap.size)(hz:Rd w A m (fun j=>.int .i64 (z j)))(Vt:∀b,Fb A m b→b<B)(hE:E.length≤600000)(hi:i<m)(hC:mY C m)(HL:Hq (C i=L))(hl:L.length=bN (z i))(hs:aQ L≤1000)(hk:1≤z i∧z i≤11):
 Calls Tryz.prog 114 #[.pointer (some ⟨g,0,none⟩),.int .i64 i] w (zG 166 (r7 d c A m qq) B g m (E++nA (bC C i) c d (z i) L) (eW C i (iE (z i) L)) w):=by
 obtain⟨tg,ev,cl,nE,U,H⟩:=H;obtain⟨gc,cap,rfl⟩:=H.form qo;have hcap:m≤cap:=by
  rcases H.c.2 with⟨e,_⟩|⟨_,cap',_,e,_,_,h,_⟩
  ·cases e
  ·injection e with _ _ e3
   omega
 have HH:=qh H;have HC:=qh hC;have hq:=hC.1;have hn:=H.len;have hn2:nE≤1048576:=qo;obtain⟨gz,oz,rfl,hgz,hrz⟩:=hz qo;have cz:=hrz i hi;have m3:w.cell? ⟨g,3,none⟩=some (.slice (some ⟨gc,0,none⟩) m cap):=H.b.cell 3;have m2:w.cell? ⟨g,2,none⟩=some (.slice (some ⟨gz,oz,none⟩) m qq):=H.b.cell 2;obtain⟨y,hy⟩:=qx (z i)
 simp only[←hy]at cz hk hl
 have HY:=qh hy;have nH:=qh hl;have b1:(0:Int)≤(i:Int):=qo;have b2:(i:Int)<(m:Int):=qo;have b3:(i:Int)≤(cap:Int):=qo;have iW:=qh m3;have dA:=qh m2;have HCZ:=qh cz;clear H hC hz Vt hrz hy hl hn m2 cz
 go_enter Tryz.func114,Tryz.ntmps114
 go_wp2_with fail
 clear m3
 go_loop [4,19] (fun s x=>∃k:Nat,k≤i∧x=.int .i64 k∧s=.int .i64 (bC C k)) (fun _ x=>i-(intOf x).toNat)
 case atStart=>exact⟨0,Nat.zero_le _,rfl,rfl⟩
 case round=>
  obtain⟨k,hk2,rfl,rfl⟩:=hrel;have hsb:=HC.o.dX (show k≤m by omega)
  by_cases hlt:k<i
  ·have c2:=HH.o.cellAt (show k<m by omega)
   obtain⟨A2,c9,hU,hrd⟩:=HH.o.read (show k<m by omega);rw[hU]at c2;have HR:=qh hrd;have hsum:=(HC.o.2 k qo).sum;have HS:=qh (show bC C (k+1)=bC C k+aQ (C k)from rfl);obtain⟨X,hX⟩:=qx (C k);rw[←hX]at c2 HR hsum HS;have l5:=qh (show mR X by rw[hX];exact HC.o.2 k qo);have b4:(0:Int)≤(k:Int):=qo;have b5:(k:Int)<(i:Int):=qo;clear hU hrd hX
   go_wp2_with fail
   refine(l9 A2 X.length c9 X _ rfl HR.o l5.o).mono ?_;rintro e w' ⟨rfl,rfl⟩
   go_wp2_with fail
   go_round
   case rel=>exact⟨k+1,by omega,qg,by rw[HS.o]⟩
   case measure=>exact qs
  ·obtain rfl:i=k:=qo
   have k3:=iW.o;have k2:=dA.o;have kz:=HCZ.o;obtain⟨Au,cu,hU,hrd⟩:=HH.o.read hi;have kc:=HH.o.cellAt hi;rw[hU,HL.o]at kc;have hJ:=qh hrd;have HU:=qh hU;obtain⟨P0,qA⟩:=qx (bC C i);rw[←qA]at hsb ⊢;have rC:=qh qA;have l5:=qh (show mR L by rw[←HL.o];exact HC.o.2 i hi);rw[HL.o]at hJ;clear hU hrd qA
   by_cases h7:y=7
   ·subst h7
    have HE:=qh (show nA P0 c d (z i) L=[]by rw[←HY.o];rfl);have HF:=qh (show iE (z i) L=L by rw[←HY.o];rfl)
    go_wp2_with fail
    go_end0
    exact⟨rfl,⟨_,_,_,_,_,by rw[←rC.o,HE.o,HF.o,List.append_nil,←HL.o,sW];exact HH.o⟩,Below.refl _ _⟩
   by_cases h3:y=3
   ·subst h3
    have HE:=qh (show nA P0 c d (z i) L=gH 3 P0 0 1 c d by rw[←HY.o];rfl);have HF:=qh (show iE (z i) L=[1]by rw[←HY.o];rfl)
    go_wp2_with fail
    refine(E0 3 P0 0 1 HH.o hB hn2).mono ?_;rintro e w3 ⟨rfl,iW,hb3⟩;obtain⟨sQ,t7,YA,n3,U3,H3⟩:=iW;obtain⟨nW,NV,rfl⟩:=H3.form qo;have n1:w3.cell? ⟨g,3,none⟩=some (.slice (some ⟨nW,0,none⟩) m NV):=H3.b.cell 3;have n2:=H3.cellAt hi;have n5:=H3.qW i;have hB3:B≤w3.heap.size:=Nat.le_trans hB hb3.size;have h4:=H3.below ((Below.refl w3.heap.size w3).alloc ql (.cells #[.int .i64 1] 2));have hlit:=World.ownsRow_lit (base:=B) (e:=2) (size:=1) w3 #[.int .i64 1] 1 hB3 qm rfl;have tB:=qh (h4.IY hi (u:=.slice (some ⟨w3.heap.size,0,none⟩) 1 1) (L:=[1]) hlit (fun b hb=>by
     injection hb with hb;refine Decidable.byContradiction fun hne=>?_;have:=H3.lt b hne
     simp only at hb
     omega))
    have hgc:B≤nW:=(H3.c.lt nW rfl).1;have HB3:=qh (Below.setCell (p:=⟨nW,i,none⟩) (hb3.alloc hB3 (.cells #[.int .i64 1] 2)) hgc (.slice (some ⟨w3.heap.size,0,none⟩) 1 1));have hlt3:nW<w3.heap.size:=(H3.c.lt nW rfl).2;have Qu:g<w3.heap.size:=H3.b.lt;rw[World.setCell_alloc_past _ _ _ _ hlt3]at tB HB3;clear h4 hlit H3 hb3 hgc k3 k2 kz kc
    go_wp2_with fail
    go_end0
    exact⟨rfl,⟨_,_,_,_,_,by rw[←rC.o,HE.o,HF.o];exact tB.o⟩,HB3.o⟩
   by_cases h6:y=6
   ·subst h6
    have HE:=qh (show nA P0 c d (z i) L=gH 3 (P0+L.getD 0 0) 0 1 c d by rw[←HY.o];rfl);have HF:=qh (show iE (z i) L=L.set 0 (L.getD 0 0+1)by rw[←HY.o];rfl);have hl1:L.length=1:=nH.o;obtain⟨gi,hgi⟩:∃gi,Au=some ⟨gi,0,none⟩:=by
     exact zP32x3
    subst hgi;have zC:=HU.o;obtain⟨hcl,hfr,PF,hgi⟩:=HH.o.cells hi zC (by rw[HL.o];omega);have kx:w.cell? ⟨gi,0,none⟩=some (.int .i64 (L.getD 0 0)):=by rw[←HL.o];exact hcl 0 (by rw[HL.o];omega)
    have hyb:=l5.o.get 0;obtain⟨x,hx⟩:=qx (L.getD 0 0);rw[←hx]at HE HF kx hyb;have HX:=qh hx;have b6:(0:Int)<(L.length:Int):=qo;have b7:0<L.length:=qo;clear hcl hfr hx zC
    go_wp2_with fail
    refine(nR 3 (P0+x) 0 1 HH.o hB hn2).mono ?_;rintro e w3 ⟨rfl,⟨sQ,t7,n3,H3⟩,hb3⟩;obtain⟨jO,lS,_,_⟩:=H3.cells hi HU.o (by rw[HL.o];omega);have n4:w3.cell? ⟨gi,0,none⟩=some (.int .i64 x):=by rw[HX.o,←HL.o];exact jO 0 (by rw[HL.o];omega)
    have n5:=lS 0;have tA:=qh (H3.bB (k:=0) hi HU.o (by rw[HL.o];omega) (x+1));have HB3:=qh (Below.setCell (p:=⟨gi,0,none⟩) hb3 PF (.int .i64 (x+1)));clear H3 jO lS hb3 k3 k2 kz kc kx
    go_wp2_with fail
    go_end0
    have h9:=tA.o;rw[HL.o]at h9;exact⟨rfl,⟨sQ,t7,_,n3,_,by rw[←rC.o,HE.o,HF.o];exact h9⟩,HB3.o⟩
   by_cases h4:y=4
   ·subst h4
    exact zP32x0
   by_cases h5:y=5
   ·subst h5
    exact zP32x0
   have f7:(y==7)=false:=by simpa using h7
   have f3:(y==3)=false:=by simpa using h3
   have f6:(y==6)=false:=by simpa using h6
   have f4:(y==4)=false:=by simpa using h4
   have f5:(y==5)=false:=by simpa using h5
   by_cases hy2:y=2
   ·have g2:(y==2)=true:=by simpa using hy2
    have hl1:0<L.length:=by
     have h:=nH.o;have h2:1≤bN y:=by unfold bN;(repeat' split)<;>omega
     omega
    obtain⟨gi,hgi⟩:∃gi,Au=some ⟨gi,0,none⟩:=by
     exact zP32x3
    subst hgi;obtain⟨_,_,PF,hgi⟩:=HH.o.cells hi HU.o (by rw[HL.o];omega);have K4:=qh (show U i=.slice (some ⟨gi,0,none⟩) L.length cu by rw[HU.o,HL.o]);have Oh:=qh PF;have ah:=qh (RJ P0 2 c d L);have CK:=qh (show iE (z i) L=List.replicate L.length 1 by rw[←HY.o,iE,if_neg qo,if_neg qo,if_neg qo]);have Tp:=qh (show nA P0 c d (z i) L=(fT P0 2 c d L L.length).1 by rw[←HY.o,nA,if_neg qo,if_neg qo,if_neg qo,if_neg qo,if_pos hy2]);have hcu:L.length≤cu:=by
     exact zP32x8
    have hLn:=l5.o.1;have HD:=qh HH.o.b
    go_wp2_with fail
    clear k3 k2 kz kc
    go_loopw [48] (fun t wr=>∃(k:Nat) (eZ:Nat→Nat) (ev':Value) (n':Nat),k≤L.length∧t=.int .i64 k∧Hq (aZ 166 (r7 d c (some ⟨gz,oz,none⟩) m qq) B g eZ ev' (.slice (some ⟨gc,0,none⟩) m cap) n' m (E++(fT P0 2 c d L k).1) U (eW C i (fT P0 2 c d L k).2) wr)∧Hq (Below B w wr)) (fun t _=>L.length-(intOf t).toNat)
    case atStart=>exact⟨0,tg,ev,nE,Nat.zero_le _,rfl,qh (by simp only[fT];rw[List.append_nil,←HL.o,sW];exact HH.o),qh (Below.refl _ _)⟩
    case round=>
     obtain⟨k,Gd,evr,nr,JP,rfl,CI,aW⟩:=hrel
     by_cases hlt:k<L.length
     ·have r0:wr.cell? ⟨g,0,none⟩=some (.int .i64 d):=CI.o.b.cell 0
      have hlen:=oO P0 2 c d L k;obtain⟨K,hK⟩:=qx (nQ d L.length k);have sI:=qh (l5.o.kn (p:=P0) (gI:=2) (c:=c) (d:=d) k);have gJ:=qh (show(fT P0 2 c d L (k+1)).1=(fT P0 2 c d L k).1++gH 2 (P0+aQ ((fT P0 2 c d L k).2.take K)) ((fT P0 2 c d L k).2.getD K 0) 2 c d by rw[hK];rfl);have cT:=qh (show(fT P0 2 c d L (k+1)).2=(fT P0 2 c d L k).2.set K 1 by rw[hK];rfl);obtain⟨X1,hX1⟩:∃X,X=(fT P0 2 c d L k).1:=⟨_,rfl⟩;obtain⟨X2,hX2⟩:∃X,X=(fT P0 2 c d L k).2:=⟨_,rfl⟩;rw[←hX1,←hX2]at CI hlen;rw[←hX1,←hX2]at gJ;rw[←hX2]at cT sI;clear hX1 hX2;have hKl:K<L.length:=by rw[hK];unfold nQ;split<;>omega
      have HK:=qh hK;clear hK;have XI:X2.length=L.length:=hlen.1;have GJ:=qh XI;have hnr:nr≤1048576:=by
       have h:=CI.o.len
       simp only[List.length_append,hlen.2]at h
       omega
      obtain⟨G6,Qz,_,Qx⟩:=CI.o.cells hi (by rw[bP,XI];exact K4.o) (by rw[bP];omega);rw[bP]at G6;have hxb:=sI.o.get K;have hSb:=(sI.o.take K).sum;have kx:wr.cell? ⟨gi,K,none⟩=some (.int .i64 (X2.getD K 0)):=G6 K qo;have hq2:Calls Tryz.prog 115 #[.slice (some ⟨gi,0,none⟩) K cu] wr.drew fun e w'=>e=.returned (.int .i64 (aQ (X2.take K)))∧wr.drew=w':=l9 (some ⟨gi,0,none⟩) K cu (X2.take K) wr.drew (by simp;omega) (fun _=>⟨gi,0,rfl,Qx,fun j hj=>by
       have:=G6 j qo;rw[Nat.zero_add]
       simp only[List.getD,List.getElem?_take,if_pos hj]
       exact this⟩) (sI.o.take K)
      obtain⟨x,hx⟩:=qx (X2.getD K 0);obtain⟨S,hS⟩:=qx (aQ (X2.take K));rw[←hx]at hxb kx gJ;rw[←hS]at hSb gJ hq2;have pN:=qh hq2;have b8:(0:Int)≤(K:Int):=qo;have b9:(K:Int)<(L.length:Int):=qo;have b10:(K:Int)≤(cu:Int):=qo;have b11:(0:Int)≤(k:Int):=qo;clear G6 Qz hx hS hq2 hlen
      by_cases hd:d= -1
      ·subst hd
       have SY:(L.length:Int)-1-(k:Int)=(K:Int):=by rw[HK.o,nQ,if_pos rfl];omega
       go_wp2_with fail
       refine aY (S:=fun w'=>w'.cell? ⟨gi,K,none⟩=some (.int .i64 x)) _ qj qk qk kx (fun hHeld=>?_)
       simp only[List.dropLast,List.getLast_cons_cons,List.getLast_singleton,List.length_cons,List.length_nil]
       refine qt 0 hHeld ?_;refine qt 1 hHeld ?_;refine qt 2 hHeld ?_;refine qt 3 hHeld ?_;refine qt 4 hHeld ?_;refine qt 7 hHeld ?_;refine qt 8 hHeld ?_;refine qt 9 hHeld ?_;refine qt 10 hHeld ?_;refine qt 11 hHeld ?_
       simp only[List.getElem_toArray,List.getElem_cons_succ,List.getElem_cons_zero,Act.put,List.setIfInBounds_toArray,List.set_cons_zero,List.set_cons_succ]
       refine wpAnyH_ready (rs:=[5]) qk qj ?_;refine AllReadyH.cons rfl (fun K' hK'=>?_) AllReadyH.nil
       simp only[List.getElem_toArray,List.getElem_cons_succ,List.getElem_cons_zero]
       go_simp
       refine pN.o.mono ?_;rintro e w1 ⟨rfl,rfl⟩;refine hK'.out _ _ kx (fun bT=>?_);clear hK' K' hHeld;refine qt 6 bT ?_
       simp only[List.getElem_toArray,List.getElem_cons_succ,List.getElem_cons_zero,Act.put,List.setIfInBounds_toArray,List.set_cons_zero,List.set_cons_succ]
       refine wpAnyH_done qk ?_ _;refine bZ.of ?_
       go_simp
       clear bT;rw[show IntKind.i64.wrap (P0+S)=P0+S from IntWalk.i64_in _ qo];refine(nR 2 (P0+S) x 2 CI.o.drew (Nat.le_trans hB aW.o.size) hnr).mono ?_;rintro e w3 ⟨rfl,⟨sQ,t7,n3,H3⟩,hb3⟩;obtain⟨jO,lS,_,_⟩:=H3.cells hi (by rw[bP,GJ.o];exact K4.o) (by rw[bP];omega);rw[bP]at jO;have n4:=jO K qo;have n5:=lS K;have tA:=qh (H3.bB (k:=K) hi (by rw[bP,GJ.o];exact K4.o) (by rw[bP];omega) 1);have HB3:=qh (Below.setCell (p:=⟨gi,K,none⟩) (aW.o.trans (((Below.refl B wr).drew).trans hb3)) Oh.o (.int .i64 1));obtain⟨y3,hy3⟩:=qx (X2.getD K 0);rw[←hy3]at n4;clear hy3 H3 jO lS hb3 kx
       exact zP32x1
      ·have hdb:(d== -1)=false:=by simpa using hd
       have SY:k=K:=by rw[HK.o,nQ,if_neg hd]
       subst SY
       go_wp2_with fail
       refine aY (S:=fun w'=>w'.cell? ⟨gi,k,none⟩=some (.int .i64 x)) _ qj qk qk kx (fun hHeld=>?_)
       simp only[List.dropLast,List.getLast_cons_cons,List.getLast_singleton,List.length_cons,List.length_nil]
       refine qt 0 hHeld ?_;refine qt 1 hHeld ?_;refine qt 2 hHeld ?_;refine qt 3 hHeld ?_;refine qt 4 hHeld ?_;refine qt 7 hHeld ?_;refine qt 8 hHeld ?_;refine qt 9 hHeld ?_;refine qt 10 hHeld ?_;refine qt 11 hHeld ?_
       simp only[List.getElem_toArray,List.getElem_cons_succ,List.getElem_cons_zero,Act.put,List.setIfInBounds_toArray,List.set_cons_zero,List.set_cons_succ]
       refine wpAnyH_ready (rs:=[5]) qk qj ?_;refine AllReadyH.cons rfl (fun K' hK'=>?_) AllReadyH.nil
       simp only[List.getElem_toArray,List.getElem_cons_succ,List.getElem_cons_zero]
       go_simp
       refine pN.o.mono ?_;rintro e w1 ⟨rfl,rfl⟩;refine hK'.out _ _ kx (fun bT=>?_);clear hK' K' hHeld;refine qt 6 bT ?_
       simp only[List.getElem_toArray,List.getElem_cons_succ,List.getElem_cons_zero,Act.put,List.setIfInBounds_toArray,List.set_cons_zero,List.set_cons_succ]
       refine wpAnyH_done qk ?_ _;refine bZ.of ?_
       go_simp
       clear bT;rw[show IntKind.i64.wrap (P0+S)=P0+S from IntWalk.i64_in _ qo];refine(nR 2 (P0+S) x 2 CI.o.drew (Nat.le_trans hB aW.o.size) hnr).mono ?_;rintro e w3 ⟨rfl,⟨sQ,t7,n3,H3⟩,hb3⟩;obtain⟨jO,lS,_,_⟩:=H3.cells hi (by rw[bP,GJ.o];exact K4.o) (by rw[bP];omega);rw[bP]at jO;have n4:=jO k qo;have n5:=lS k;have tA:=qh (H3.bB (k:=k) hi (by rw[bP,GJ.o];exact K4.o) (by rw[bP];omega) 1);have HB3:=qh (Below.setCell (p:=⟨gi,k,none⟩) (aW.o.trans (((Below.refl B wr).drew).trans hb3)) Oh.o (.int .i64 1));obtain⟨y3,hy3⟩:=qx (X2.getD k 0);rw[←hy3]at n4;clear hy3 H3 jO lS hb3 kx
       exact zP32x1
     ·obtain rfl:L.length=k:=qo
      exact zP32x7
   ·have g2:(y==2)=false:=by simpa using hy2
    have hl1:0<L.length:=by
     have h:=nH.o;have h2:1≤bN y:=by unfold bN;(repeat' split)<;>omega
     omega
    obtain⟨gi,hgi⟩:∃gi,Au=some ⟨gi,0,none⟩:=by
     exact zP32x3
    subst hgi;obtain⟨_,_,PF,hgi⟩:=HH.o.cells hi HU.o (by rw[HL.o];omega);have K4:=qh (show U i=.slice (some ⟨gi,0,none⟩) L.length cu by rw[HU.o,HL.o]);have Oh:=qh PF;have ah:=qh (RJ P0 1 c d L);have CK:=qh (show iE (z i) L=List.replicate L.length 1 by rw[←HY.o,iE,if_neg qo,if_neg qo,if_neg qo]);have Tp:=qh (show nA P0 c d (z i) L=(fT P0 1 c d L L.length).1 by rw[←HY.o,nA,if_neg qo,if_neg qo,if_neg qo,if_neg qo,if_neg hy2]);have hcu:L.length≤cu:=by
     exact zP32x8
    have hLn:=l5.o.1;have HD:=qh HH.o.b
    go_wp2_with fail
    clear k3 k2 kz kc
    go_loopw [48] (fun t wr=>∃(k:Nat) (eZ:Nat→Nat) (ev':Value) (n':Nat),k≤L.length∧t=.int .i64 k∧Hq (aZ 166 (r7 d c (some ⟨gz,oz,none⟩) m qq) B g eZ ev' (.slice (some ⟨gc,0,none⟩) m cap) n' m (E++(fT P0 1 c d L k).1) U (eW C i (fT P0 1 c d L k).2) wr)∧Hq (Below B w wr)) (fun t _=>L.length-(intOf t).toNat)
    case atStart=>exact⟨0,tg,ev,nE,Nat.zero_le _,rfl,qh (by simp only[fT];rw[List.append_nil,←HL.o,sW];exact HH.o),qh (Below.refl _ _)⟩
    case round=>
     obtain⟨k,Gd,evr,nr,JP,rfl,CI,aW⟩:=hrel
     by_cases hlt:k<L.length
     ·have r0:wr.cell? ⟨g,0,none⟩=some (.int .i64 d):=CI.o.b.cell 0
      have hlen:=oO P0 1 c d L k;obtain⟨K,hK⟩:=qx (nQ d L.length k);have sI:=qh (l5.o.kn (p:=P0) (gI:=1) (c:=c) (d:=d) k);have gJ:=qh (show(fT P0 1 c d L (k+1)).1=(fT P0 1 c d L k).1++gH 2 (P0+aQ ((fT P0 1 c d L k).2.take K)) ((fT P0 1 c d L k).2.getD K 0) 1 c d by rw[hK];rfl);have cT:=qh (show(fT P0 1 c d L (k+1)).2=(fT P0 1 c d L k).2.set K 1 by rw[hK];rfl);obtain⟨X1,hX1⟩:∃X,X=(fT P0 1 c d L k).1:=⟨_,rfl⟩;obtain⟨X2,hX2⟩:∃X,X=(fT P0 1 c d L k).2:=⟨_,rfl⟩;rw[←hX1,←hX2]at CI hlen;rw[←hX1,←hX2]at gJ;rw[←hX2]at cT sI;clear hX1 hX2;have hKl:K<L.length:=by rw[hK];unfold nQ;split<;>omega
      have HK:=qh hK;clear hK;have XI:X2.length=L.length:=hlen.1;have GJ:=qh XI;have hnr:nr≤1048576:=by
       have h:=CI.o.len
       simp only[List.length_append,hlen.2]at h
       omega
      obtain⟨G6,Qz,_,Qx⟩:=CI.o.cells hi (by rw[bP,XI];exact K4.o) (by rw[bP];omega);rw[bP]at G6;have hxb:=sI.o.get K;have hSb:=(sI.o.take K).sum;have kx:wr.cell? ⟨gi,K,none⟩=some (.int .i64 (X2.getD K 0)):=G6 K qo;have hq2:Calls Tryz.prog 115 #[.slice (some ⟨gi,0,none⟩) K cu] wr.drew fun e w'=>e=.returned (.int .i64 (aQ (X2.take K)))∧wr.drew=w':=l9 (some ⟨gi,0,none⟩) K cu (X2.take K) wr.drew (by simp;omega) (fun _=>⟨gi,0,rfl,Qx,fun j hj=>by
       have:=G6 j qo;rw[Nat.zero_add]
       simp only[List.getD,List.getElem?_take,if_pos hj]
       exact this⟩) (sI.o.take K)
      obtain⟨x,hx⟩:=qx (X2.getD K 0);obtain⟨S,hS⟩:=qx (aQ (X2.take K));rw[←hx]at hxb kx gJ;rw[←hS]at hSb gJ hq2;have pN:=qh hq2;have b8:(0:Int)≤(K:Int):=qo;have b9:(K:Int)<(L.length:Int):=qo;have b10:(K:Int)≤(cu:Int):=qo;have b11:(0:Int)≤(k:Int):=qo;clear G6 Qz hx hS hq2 hlen
      by_cases hd:d= -1
      ·subst hd
       have SY:(L.length:Int)-1-(k:Int)=(K:Int):=by rw[HK.o,nQ,if_pos rfl];omega
       go_wp2_with fail
       refine aY (S:=fun w'=>w'.cell? ⟨gi,K,none⟩=some (.int .i64 x)) _ qj qk qk kx (fun hHeld=>?_)
       simp only[List.dropLast,List.getLast_cons_cons,List.getLast_singleton,List.length_cons,List.length_nil]
       refine qt 0 hHeld ?_;refine qt 1 hHeld ?_;refine qt 2 hHeld ?_;refine qt 3 hHeld ?_;refine qt 4 hHeld ?_;refine qt 7 hHeld ?_;refine qt 8 hHeld ?_;refine qt 9 hHeld ?_;refine qt 10 hHeld ?_;refine qt 11 hHeld ?_
       simp only[List.getElem_toArray,List.getElem_cons_succ,List.getElem_cons_zero,Act.put,List.setIfInBounds_toArray,List.set_cons_zero,List.set_cons_succ]
       refine wpAnyH_ready (rs:=[5]) qk qj ?_;refine AllReadyH.cons rfl (fun K' hK'=>?_) AllReadyH.nil
       simp only[List.getElem_toArray,List.getElem_cons_succ,List.getElem_cons_zero]
       go_simp
       refine pN.o.mono ?_;rintro e w1 ⟨rfl,rfl⟩;refine hK'.out _ _ kx (fun bT=>?_);clear hK' K' hHeld;refine qt 6 bT ?_
       simp only[List.getElem_toArray,List.getElem_cons_succ,List.getElem_cons_zero,Act.put,List.setIfInBounds_toArray,List.set_cons_zero,List.set_cons_succ]
       refine wpAnyH_done qk ?_ _;refine bZ.of ?_
       go_simp
       clear bT;rw[show IntKind.i64.wrap (P0+S)=P0+S from IntWalk.i64_in _ qo];refine(nR 2 (P0+S) x 1 CI.o.drew (Nat.le_trans hB aW.o.size) hnr).mono ?_;rintro e w3 ⟨rfl,⟨sQ,t7,n3,H3⟩,hb3⟩;obtain⟨jO,lS,_,_⟩:=H3.cells hi (by rw[bP,GJ.o];exact K4.o) (by rw[bP];omega);rw[bP]at jO;have n4:=jO K qo;have n5:=lS K;have tA:=qh (H3.bB (k:=K) hi (by rw[bP,GJ.o];exact K4.o) (by rw[bP];omega) 1);have HB3:=qh (Below.setCell (p:=⟨gi,K,none⟩) (aW.o.trans (((Below.refl B wr).drew).trans hb3)) Oh.o (.int .i64 1));obtain⟨y3,hy3⟩:=qx (X2.getD K 0);rw[←hy3]at n4;clear hy3 H3 jO lS hb3 kx
       exact zP32x1
      ·have hdb:(d== -1)=false:=by simpa using hd
       have SY:k=K:=by rw[HK.o,nQ,if_neg hd]
       subst SY
       go_wp2_with fail
       refine aY (S:=fun w'=>w'.cell? ⟨gi,k,none⟩=some (.int .i64 x)) _ qj qk qk kx (fun hHeld=>?_)
       simp only[List.dropLast,List.getLast_cons_cons,List.getLast_singleton,List.length_cons,List.length_nil]
       refine qt 0 hHeld ?_;refine qt 1 hHeld ?_;refine qt 2 hHeld ?_;refine qt 3 hHeld ?_;refine qt 4 hHeld ?_;refine qt 7 hHeld ?_;refine qt 8 hHeld ?_;refine qt 9 hHeld ?_;refine qt 10 hHeld ?_;refine qt 11 hHeld ?_
       simp only[List.getElem_toArray,List.getElem_cons_succ,List.getElem_cons_zero,Act.put,List.setIfInBounds_toArray,List.set_cons_zero,List.set_cons_succ]
       refine wpAnyH_ready (rs:=[5]) qk qj ?_;refine AllReadyH.cons rfl (fun K' hK'=>?_) AllReadyH.nil
       simp only[List.getElem_toArray,List.getElem_cons_succ,List.getElem_cons_zero]
       go_simp
       refine pN.o.mono ?_;rintro e w1 ⟨rfl,rfl⟩;refine hK'.out _ _ kx (fun bT=>?_);clear hK' K' hHeld;refine qt 6 bT ?_
       simp only[List.getElem_toArray,List.getElem_cons_succ,List.getElem_cons_zero,Act.put,List.setIfInBounds_toArray,List.set_cons_zero,List.set_cons_succ]
       refine wpAnyH_done qk ?_ _;refine bZ.of ?_
       go_simp
       clear bT;rw[show IntKind.i64.wrap (P0+S)=P0+S from IntWalk.i64_in _ qo];refine(nR 2 (P0+S) x 1 CI.o.drew (Nat.le_trans hB aW.o.size) hnr).mono ?_;rintro e w3 ⟨rfl,⟨sQ,t7,n3,H3⟩,hb3⟩;obtain⟨jO,lS,_,_⟩:=H3.cells hi (by rw[bP,GJ.o];exact K4.o) (by rw[bP];omega);rw[bP]at jO;have n4:=jO k qo;have n5:=lS k;have tA:=qh (H3.bB (k:=k) hi (by rw[bP,GJ.o];exact K4.o) (by rw[bP];omega) 1);have HB3:=qh (Below.setCell (p:=⟨gi,k,none⟩) (aW.o.trans (((Below.refl B wr).drew).trans hb3)) Oh.o (.int .i64 1));obtain⟨y3,hy3⟩:=qx (X2.getD k 0);rw[←hy3]at n4;clear hy3 H3 jO lS hb3 kx
       exact zP32x1
     ·obtain rfl:L.length=k:=qo
      exact zP32x7
end
theorem Kc (w:World)(d c:Int)(A:OA)(m qq:Nat)(T:TypeId):@aZ kX T (r7 d c A m qq) w.heap.size w.heap.size (fun b=>if b=w.heap.size then 1 else 0) (.slice none 0 0) (.slice none 0 0) 0 0 [] (fun _=>undef) (fun _=>[]) (w.alloc (.cells #[.int .i64 d,.int .i64 c,.slice A m qq,.slice none 0 0,.slice none 0 0] T)) where
 b:=aG.at_ _ _ _ rfl
 e:=World.ownsRow_nil _ _ _ _
 c:=World.ownsRow_nil _ _ _ _
 u:=fun i hi=>by omega
 tb:=if_pos rfl
 te:=fun b hb=>by cases hb
 tc:=fun b hb=>by cases hb
 lt:=fun b hb=>by
  simp only[World.size_alloc]
  by_cases h1:b=w.heap.size
  ·omega
  ·rw[if_neg h1]at hb
   exact absurd rfl hb
 lo:=Nat.le_refl _
 k:=trivial
 kf:=fun b hb=>hb.elim
theorem dO.below [Inhabited bQ]{T:TypeId}{mk:Value→Value→Array Value}{B g q:Nat}{E:List Int}{C:Nat→List Int}{w w':World}(h:dO T mk B g q E C w)(hb:Below w.heap.size w w'):dO T mk B g q E C w':=by
 obtain⟨tg,ev,cl,n,U,H⟩:=h;exact⟨tg,ev,cl,n,U,H.below hb⟩
def af3 (E L:List Int)(w:World)(e:Ending)(w':World):Prop:=∃ev af n,e=.returned (.tuple #[ev,af,.int .i64 0])∧w'.ownsRow w.heap.size 116 6 ev n (ints E)∧w'.ownsRow w.heap.size 2 1 af L.length (ints L)∧Below w.heap.size w w'
theorem aZ.concat [Inhabited bQ]{T:TypeId}{mk:Value→Value→Array Value}{B g gc cap:Nat}{tg:Nat→Nat}{ev:Value}{n q:Nat}{E:List Int}{U:Nat→Value}{C:Nat→List Int}{w:World}(h:aZ T mk B g tg ev (.slice (some ⟨gc,0,none⟩) q cap) n q E U C w)(hN:(eX C q).length≤4000)(hq:q≤1000):
 Calls Tryz.prog 116 #[.slice (some ⟨gc,0,none⟩) q cap] w (El w (eX C q)):=
 E6 gc q cap C w (fun i hi=>by
  obtain⟨A,c,hU,hr⟩:=h.read hi;exact⟨A,c,by rw[h.cellAt hi,hU],hr⟩) (h.c.lt gc rfl).2 hN hq
theorem Si {C:Nat→List Int}{q:Nat}{x:Int}(h:x∈eX C q):∃j,j<q∧x∈C j:=by
 induction q with
 |zero=>cases h
 |succ q ih=>
  rcases List.mem_append.1 h with h|h
  ·obtain⟨j,hj,h⟩:=ih h
   exact⟨j,by omega,h⟩
  ·exact⟨q,by omega,h⟩
theorem iR.abR {s z:Nat→Int}{n m:Nat}(h:iR s z n m){d:Int}{t i:Nat}(hi:i≤m):(eX (Go.Proofs.YtimlpmbabbbcaaaGreat.dW s z d m t) i).length≤4*i:=by
 induction i with
 |zero=>simp[eX]
 |succ i ih=>
  have h1:=ih qo;have h2:=(h.dW (d:=d) (t:=t) (show i<m by omega)).2
  simp only[eX,List.length_append]
  omega
theorem ji (d c:Int)(A:OA)(m qq:Nat)(z s:Nat→Int)(gs os n cs:Nat)(w:World)(hz:Rd w A m (fun j=>.int .i64 (z j)))(hs:Rd w (some ⟨gs,os,none⟩) n (fun j=>.int .i64 (s j)))(hcs:n≤cs)(hcm:cs≤maxLen)(hn:0<n)(hd:gQ d=true)(hsa:jK s n z m=0)(hk:iT s n z m d m=true):
 Calls Tryz.prog 69 #[.agg #[.int .i64 d,.int .i64 c,.slice A m qq],.slice (some ⟨gs,os,none⟩) n cs] w (af3 (tO s z c d m m) (gT s z m) w):=by
 have hf:=iR.of hsa;have hm8:=hf.m8;have BK:=hf.n8;have HF:=qh hf;have HK:=qh hk;have HZ:=qh hz;have HS:=qh hs;have HD:=qh hd;have YY:=qh hsa;have HST:=qh (AZ hsa).2.1;have hsT:=hf.t;have HB0:=qh ((Below.refl w.heap.size w).alloc ql (.cells #[.int .i64 d,.int .i64 c,.slice A m qq] 73));have HX:=qh (kN w #[.int .i64 d,.int .i64 c,.slice A m qq] 73);have x0:=HX.o 0;have x1:=HX.o 1;have x2:=HX.o 2;clear hf hk hz hs hd hsa
 go_enter Tryz.func69,Tryz.ntmps69
 go_wp2_with fail
 refine(DS A m qq z _ (HZ.o.below HB0.o) HST.o).mono ?_;rintro e w' ⟨rfl,rfl⟩;rw[hsT]
 go_wp2_with fail
 refine(vW gs os n cs A m qq s z _ (HS.o.below HB0.o) (HZ.o.below HB0.o) qo qo hcs hcm).mono ?_;rintro e w2 ⟨A2,c2,rfl,hc2,hn2⟩;have hb2:=hn2.bl;have HB2:=qh (HB0.o.trans (hb2.mono qj));have hlx:w.heap.size<(w.alloc (.cells #[.int .i64 d,.int .i64 c,.slice A m qq] 73)).heap.size:=by simp
 have y0:=aM hb2 hlx x0;have y1:=aM hb2 hlx x1;have y2:=aM hb2 hlx x2;have hsz2:w.heap.size<w2.heap.size:=Nat.lt_of_lt_of_le hlx hb2.size;rw[YY.o];clear hn2 hb2 hlx x0 x1 x2;have DN:=qh (Kc w2 d c A m qq 166);have HB3:=qh ((Below.refl w2.heap.size w2).alloc ql (.cells #[.int .i64 d,.int .i64 c,.slice A m qq,.slice none 0 0,.slice none 0 0] 166));have HZ3:=qh (show Rd (w2.alloc (.cells #[.int .i64 d,.int .i64 c,.slice A m qq,.slice none 0 0,.slice none 0 0] 166)) A m (fun j=>.int .i64 (z j))from(HZ.o.below HB2.o).below HB3.o);have zI:=qh (show Rd (w2.alloc (.cells #[.int .i64 d,.int .i64 c,.slice A m qq,.slice none 0 0,.slice none 0 0] 166)) (some ⟨gs,os,none⟩) n (fun j=>.int .i64 (s j))from(HS.o.below HB2.o).below HB3.o);have rO:=qh (show∀b,Fb A m b→b<w2.heap.size from fun b hb=>Nat.lt_trans ((aS _ _ _).2 w b HZ.o hb) hsz2);have y0':=aM HB3.o hsz2 y0;have y1':=aM HB3.o hsz2 y1;have y2':=aM HB3.o hsz2 y2;have HY0:=qh (And.intro y0' (And.intro y1' y2'));clear y0' y1' y2'
 go_wp2_with fail
 refine(US z s (some ⟨gs,os,none⟩) n cs (fun _=>[]) ⟨_,_,_,_,_,DN.o⟩ qj HZ3.o rO.o zI.o hn HF.o).mono ?_;rintro e w4 ⟨rfl,fV,hb4⟩;have z0:=aM hb4 hsz2 HY0.o.1;have z1:=aM hb4 hsz2 HY0.o.2.1;have z2:=aM hb4 hsz2 HY0.o.2.2;have Ua:=qh fV;have aW:Hq (Below w2.heap.size w2 w4):=qh (HB3.o.trans hb4);clear fV hb4 y0 y1 y2
 go_wp2_with fail
 refine(SC d c A m qq _ qo).mono ?_;rintro e w5 ⟨A5,c5,rfl,H7⟩;have nG:=qh (Ua.o.keep H7.bl (dD A5 m (fun j=>.int .i64 (fC d m j))) H7.rd (fun b hb=>by
  obtain⟨_,a,e,hb⟩:=hb;exact⟨hb▸H7.ab a e,hb▸H7.bb a e⟩))
 have bG:=qh (aW.o.trans (H7.bl.mono aW.o.size));have HZ5:=qh (HZ.o.below HB2.o);clear H7 z0 z1 z2
 go_wp2_with fail
 go_loopw [37] (fun x wr=>∃t:Nat,t≤m∧x=.int .i64 t∧Hq (@dO (dD A5 m (fun j=>.int .i64 (fC d m j))) 166 (r7 d c A m qq) w2.heap.size w2.heap.size m (tO s z c d m t) (dW s z d m t) wr)∧Hq (Below w2.heap.size w2 wr)) (fun x _=>m-(intOf x).toNat)
 case atStart=>exact⟨0,Nat.zero_le _,rfl,qh (@dO.congr (dD A5 m (fun j=>.int .i64 (fC d m j))) _ _ _ _ _ _ _ _ _ nG.o fun j hj=>by rw[K3 j hj]),bG⟩
 case round=>
  obtain⟨t,ht,rfl,Xh,bE⟩:=hrel;obtain⟨yM,Qr⟩:=dO.free _ Xh.o
  by_cases GY:t<m
  ·obtain⟨g4,o4,rfl,hg4,hr4⟩:=Qr qo
   have k4:=hr4 t GY;have HO:=qh (AE (d:=d) GY);have tB:Hq (mY (dW s z d m t) m):=qh ⟨by omega,fun j hj=>(jW (HF.o.dW hj)).1⟩;have Ew:Hq (mY (dW s z d m (t+1)) m):=qh ⟨by omega,fun j hj=>(jW (HF.o.dW hj)).1⟩;have TS:=qh (RR (s:=s) (z:=z) (d:=d) GY);have l5:=qh (jW (mg (HF.o.fY HO.o)));have Z1:=qh (HF.o.tO (c:=c) (d:=d) ht);have HKT:=qh (TG (s:=s) (d:=d) HF.o.hz HF.o.t (show t+1≤m by omega));have hkb:=Ew.o.dX (Nat.le_refl m);have Qw:¬12<bC (dW s z d m (t+1)) m:=by
    have:=WP HK.o (t:=t+1) qo qo;rw[HKT.o];omega
   have acg:=qh (Oz (dW s z d m (t+1)) m);have gK:=qh (HF.o.abR (d:=d) (t:=t+1) (Nat.le_refl m));obtain⟨K,hK⟩:=qx (bC (dW s z d m (t+1)) m);obtain⟨i,hi⟩:=qx (fC d m t);have HI:=qh hi;rw[←hi]at HO TS l5;rw[←hK]at hkb Qw acg
   simp only[←hi]at k4
   have HZW:=qh (show Rd wr A m (fun j=>.int .i64 (z j))from(aS _ _ _).1 _ _ HZ5.o fun b hb=>bE.o.block b (rO.o b hb));have b1:(0:Int)≤(t:Int):=qo;have b2:(t:Int)<(m:Int):=qo;clear hr4 hi hK Qr yM
   go_wp2_with fail
   refine(@WU (dD (some ⟨g4,o4,none⟩) m (fun j=>.int .i64 (fC d m j))) _ _ _ _ _ _ _ _ _ _ z i (fY s z i) Xh.o bE.o.size HZW.o rO.o (by have:=Z1.o;omega) HO.o tB.o TS (xJ i) (by have:=l5.o;omega) (HF.o.hz i HO.o)).mono ?_;rintro e w7 ⟨rfl,yM,bM⟩;have QE:=qh (@dO.congr (dD (some ⟨g4,o4,none⟩) m (fun j=>.int .i64 (fC d m j))) _ _ _ _ _ _ _ (dW s z d m (t+1)) _ yM fun j hj=>by
    rw[DH GY j hj,←HI.o];unfold eW
    by_cases h:j=i
    ·rw[if_pos h,if_pos h,h]
    ·rw[if_neg h,if_neg h])
   have dV:=qh (bE.o.trans bM);obtain⟨HM9,_⟩:=dO.free _ QE.o;obtain⟨mo,ev9,cl9,n9,U9,H9⟩:=HM9;obtain⟨g9,c9,rfl⟩:=H9.form qo;have m9:w7.cell? ⟨w2.heap.size,3,none⟩=some (.slice (some ⟨g9,0,none⟩) m c9):=H9.b.cell 3;have KI:=qh (H9.concat (by have:=gK.o;omega) qo);clear H9 yM bM k4
   go_wp2_with fail
   refine KI.o.mono ?_;rintro e w8 ⟨v8,rfl,gC,gY⟩;obtain⟨A8,c8,rfl⟩:=aE gC;have hJ:=qh (G4 gC);have HB9:=dV.st gY;have agz:=qh (@dO.below (dD (some ⟨g4,o4,none⟩) m (fun j=>.int .i64 (fC d m j))) _ _ _ _ _ _ _ _ _ QE.o gY);clear gC gY m9
   go_wp2_with fail
   refine(l9 A8 _ c8 _ _ rfl hJ.o ⟨by have:=gK.o;omega,fun x hx=>?_⟩).mono ?_
   ·obtain⟨j,hj,hx⟩:=Si hx
    have:=(HF.o.dW (d:=d) (t:=t+1) hj).1 x hx;omega
   rintro e w' ⟨rfl,rfl⟩;rw[acg.o]
   go_wp2_with fail
   go_roundw
   case rel=>exact⟨t+1,by omega,qg,qh (by have h:=agz.o;rw[HI.o]at h;exact h),HB9⟩
   case measure=>exact qs
  ·obtain rfl:m=t:=qo
   have hm0:0<m:=by
    rcases Nat.eq_zero_or_pos m with h0|h0
    ·have:=HF.o.t
     rw[h0]at this
     simp only[aF]at this
     omega
    ·exact h0
   obtain⟨mo,ev9,cl9,n9,U9,H9⟩:=yM;obtain⟨g9,c9,rfl⟩:=H9.form hm0;obtain⟨Ae,ce,rfl⟩:=aE H9.e;have n4:wr.cell? ⟨w2.heap.size,4,none⟩=some (.slice Ae n9 ce):=H9.b.cell 4;have n3:wr.cell? ⟨w2.heap.size,3,none⟩=some (.slice (some ⟨g9,0,none⟩) m c9):=H9.b.cell 3;have gK:=qh (HF.o.abR (d:=d) (t:=m) (Nat.le_refl m));have KI:=qh (H9.drew.concat (by have:=gK.o;omega) qo);have Ue:=qh (YB (s:=s) (d:=d) HF.o.hz (Nat.le_refl m));have HE9:=qh H9.e;have rF:=qh (show w.heap.size≤w2.heap.size from Nat.le_of_lt hsz2);have lP:=qh (HB2.o.trans (bE.o.mono rF.o));have HLR:=qh bE.o.size;clear H9 Qr
   go_wp2_with fail
   go_region_held3 (fun w'=>w'.cell? ⟨w2.heap.size,4,none⟩=some (.slice Ae n9 ce)∧w'.cell? ⟨w2.heap.size,3,none⟩=some (.slice (some ⟨g9,0,none⟩) m c9)) (go_keep)
    ((go_at_call 116;refine KI.o.mono ?_;rintro e w8 ⟨v8,rfl,gC,gY⟩;have oH:Below wr.heap.size wr w8:=(Below.refl wr.heap.size wr).drew.trans gY;have rP:=qh gC;have dV:=qh oH;have WK:=aM oH (World.block_lt_of_cell? wr _ n4) n4;have EJ:=aM oH (World.block_lt_of_cell? wr _ n3) n3;clear gC gY oH))
   rename_i hHeld
   clear hHeld n4 n3 WK EJ
   go_wp2_with fail
   go_ret3
   refine⟨_,_,n9,rfl,eU (own_below HE9.o dV.o) rF.o,?_,lP.o.trans (dV.o.mono (Nat.le_trans rF.o HLR.o))⟩;have h:=eU rP.o (B':=w.heap.size) (Nat.le_trans rF.o HLR.o);rw[Ue.o]at h;exact h
theorem XH (C:Nat)(A:OA)(n q:Nat)(d c:Nat→Int)(As:Nat→OA)(ns cs:Nat→Nat)(z:Nat→Nat→Int)(w:World)(ha:eC A n d c As ns cs z w)(hcb:dL C n d c ns z=true):
 Calls Tryz.prog 38 #[.agg #[.int .i64 C,.slice A n q]] w fun e w'=>∃v nE,e=.returned v∧w'.ownsRow w.heap.size 116 6 v nE (ints (oG C d c ns z n))∧Below w.heap.size w w':=by
 obtain⟨i0,hi0,iz,is,ib⟩:=info_parts info64;obtain⟨j0,hj0,jz,js,jb⟩:=info_parts dQ;have G7:=hcb
 simp only[dL,Bool.and_eq_true,decide_eq_true_eq]at G7
 obtain⟨⟨hc18,hn1,BK⟩,hrows⟩:=G7;have hc:=mN hc18;rw[Int.toNat_natCast]at hrows;have HRW:=qh hrows;have HB0:=qh ((Below.refl w.heap.size w).alloc ql (.cells #[.int .i64 C,.slice A n q] 32));have HX:=qh (kN w #[.int .i64 C,.slice A n q] 32);have HA:=qh ha;have LA:=qh (cU A n d c As ns cs z);obtain⟨gr,D7,PH,hgr,r0,r1,r2⟩:=ha.row (k:=0) qo;subst PH;have k0:=HX.o 0;have k1:=HX.o 1;have k2:=aM HB0.o hgr r1;rw[Nat.zero_mul,Nat.add_zero]at k2;obtain⟨c0,hc0⟩:=qx (c 0);rw[←hc0]at k2;have pR:=qh hc0;have b0:(0:Int)<(n:Int):=qo;have b1:0<n:=qo;have nU:w.heap.size<(w.alloc (.cells #[.int .i64 C,.slice (some ⟨gr,D7,none⟩) n q] 32)).heap.size:=by simp
 clear ha hcb hrows hc18 r0 r1 r2 hc0
 go_enter Tryz.func38,Tryz.ntmps38
 go_wp2_with fail
 go_region_held3 (fun w'=>w'.cell? ⟨w.heap.size,0,none⟩=some (.int .i64 (C:Int))∧w'.cell? ⟨w.heap.size,1,none⟩=some (.slice (some ⟨gr,D7,none⟩) n q)∧w'.cell? ⟨gr,D7+1,none⟩=some (.int .i64 c0)) (go_keep)
  ((go_at_call 67;refine(UR C c0 _ qo).mono ?_;rintro e w4 ⟨v4,rfl,d6,hb4⟩;have bS:=qh d6;have hb5:Below (w.alloc (.cells #[.int .i64 C,.slice (some ⟨gr,D7,none⟩) n q] 32)).heap.size (w.alloc (.cells #[.int .i64 C,.slice (some ⟨gr,D7,none⟩) n q] 32)) w4:=(Below.refl _ _).drew.trans hb4;have ZV:=qh hb5;have qw:=aM hb5 nU k0;have Ja:=aM hb5 nU k1;have BD:=aM hb5 (World.block_lt_of_cell? _ _ k2) k2;clear d6 hb4 hb5))
 rename_i hHeld
 clear hHeld k0 k1 k2 BD;have Tw:Hq (w4.ownsRow (w.heap.size+1) 116 6 v4 C (ints (DI c0 C))):=qh (eU bS.o qj);have aW:Hq (Below (w.heap.size+1) (w.alloc (.cells #[.int .i64 C,.slice (some ⟨gr,D7,none⟩) n q] 32)) w4):=qh (by have h:=ZV.o;simp only[World.size_alloc]at h;exact h);have hs4:=aW.o.size
 simp only[World.size_alloc]at hs4
 have fJ:=qh ((Below.refl w4.heap.size w4).alloc ql (.cells #[.int .i64 1] 2));have afl:=aM fJ.o (show w.heap.size<w4.heap.size by omega) qw;have aaC:=aM fJ.o (show w.heap.size<w4.heap.size by omega) Ja;clear bS ZV qw Ja
 go_wp2_with fail
 refine(B5 w4.heap.size 1 C _ (cV rfl 0) qo qo).mono ?_;rintro e w6 ⟨A6,c6,rfl,hc6,q8⟩;have bE:Hq (Below (w.heap.size+1) (w.alloc (.cells #[.int .i64 C,.slice (some ⟨gr,D7,none⟩) n q] 32)) w6):=qh (aW.o.trans ((fJ.o.mono hs4).trans (q8.bl.mono (by simp;omega))));have CG:=qh (own_below (own_below Tw.o fJ.o) q8.bl);have afk:=aM q8.bl (show w.heap.size<(w4.alloc (.cells #[.int .i64 1] 2)).heap.size by simp;omega) aaC;obtain⟨gs,os,rfl,_⟩:=ou q8 (show 0<C by omega);have K8:=qh (q8.rd.congr (f':=fun j=>.int .i64 (iV C ns z 0 j)) fun j hj=>by rw[MT hj]);clear q8 afl aaC
 go_wp2_with fail
 clear afk
 go_loopw [3,4,25] (fun ov sv x wr=>∃(k nE g' o' cs':Nat),k≤n∧x=.int .i64 k∧sv=.slice (some ⟨g',o',none⟩) (i4 C ns z k) cs'∧(i4 C ns z k≤cs'∧cs'≤maxLen)∧Hq (Rd wr (some ⟨g',o',none⟩) (i4 C ns z k) (fun j=>.int .i64 (iV C ns z k j)))∧Hq (wr.ownsRow (w.heap.size+1) 116 6 ov nE (ints (oG C d c ns z k)))∧Hq (Below (w.heap.size+1) (w.alloc (.cells #[.int .i64 C,.slice (some ⟨gr,D7,none⟩) n q] 32)) wr)) (fun _ _ x _=>n-(intOf x).toNat)
 case atStart=>exact⟨0,C,gs,os,c6,Nat.zero_le _,rfl,rfl,hc6,K8,qh (by simp only[oG];rw[←pR.o];exact CG.o),bE⟩
 case round=>
  obtain⟨k,nE,g',o',cs',hk,rfl,rfl,hcs',yK,pC,aR⟩:=hrel;have hsz:=aR.o.size
  simp only[World.size_alloc]at hsz
  have lP:=qh (HB0.o.trans (aR.o.mono (Nat.le_succ _)));obtain⟨Ao,co,rfl⟩:=aE pC.o
  by_cases hlt:k<n
  ·obtain⟨g9,o9,e9,Jw,r0,r1,r2⟩:=(LA.out.below HA.o lP.o).row hlt
   injection e9 with e9;injection e9 with e9 e10;subst e9 e10;have HZ7:=qh ((LA.out.below HA.o lP.o).2 k hlt);have hrb:=xP HRW.o k hlt;have TQ:=qh (MW hrb);have YY:=qh (show jK (iV C ns z k) (i4 C ns z k) (z k) (ns k)=0 by simp only[FP,Bool.and_eq_true,decide_eq_true_eq]at hrb;exact hrb.1.2);have QK:=qh (G5 (d:=d) (c:=c) (show C≤8 by omega) HRW.o (k:=k+1) qo);have nT:∀j,j≤n→kD C d c ns z j=true:=by
    intro j hj
    induction j with
    |zero=>rfl
    |succ j ih=>simp only[kD,Bool.and_eq_true];exact⟨ih qo,xP HRW.o j qo⟩
   have hNk:=AX (d:=d) (c:=c) (ns:=ns) (z:=z) (k:=k) (show 1≤C∧C≤8 by omega) (nT k hk);have hN8:=AX (d:=d) (c:=c) (ns:=ns) (z:=z) (k:=k+1) (show 1≤C∧C≤8 by omega) (nT (k+1) hlt);have b2:(0:Int)≤(k:Int):=qo;have b3:(k:Int)<(n:Int):=qo;have dE:=qh ((Below.refl wr.heap.size wr).alloc ql (.cells #[.int .i64 (d k),.int .i64 (c k),.slice (As k) (ns k) (cs k)] 73));clear nT hrb
   go_wp2_with fail
   refine(ji (d k) (c k) (As k) (ns k) (cs k) (z k) (iV C ns z k) g' o' (i4 C ns z k) cs' _ (HZ7.o.below dE.o) (yK.o.below dE.o) hcs'.1 hcs'.2 qo TQ.o.2.1 YY.o TQ.o.2.2).mono ?_;rintro e w8 ⟨ev,af,n8,rfl,gC,PB,gY⟩;obtain⟨R8,XJ⟩:=qx (tO (iV C ns z k) (z k) (c k) (d k) (ns k) (ns k));have hN1:(gT (iV C ns z k) (z k) (ns k)).length=i4 C ns z (k+1):=qY TQ.o.1.hz ql;rw[hN1]at PB;rw[←XJ]at gC;have cT:=qh (show oG C d c ns z (k+1)=oG C d c ns z k++R8 by rw[XJ];rfl);have XN:R8.length=n8*6:=by have:=gC.1;simpa [ints]using this
   have hLk:(oG C d c ns z k).length=nE*6:=by have:=pC.o.1;simpa [ints]using this
   have hEL:=QK.o;rw[cT.o,List.length_append,XN,hLk]at hEL;obtain⟨ga,ca,hAf,hga,hca⟩:∃ga ca,af=.slice (some ⟨ga,0,none⟩) (i4 C ns z (k+1)) ca∧wr.heap.size≤ga∧i4 C ns z (k+1)≤ca∧ca≤maxLen:=by
    rcases PB.2 with⟨_,h0⟩|⟨g,cap,_,e,hb,_,h1,h2,_⟩
    ·omega
    ·simp only[World.size_alloc]at hb
     exact⟨g,cap,e,by omega,h1,h2⟩
   subst hAf;obtain⟨Ae,ce,rfl⟩:=aE gC;have oH:Below wr.heap.size wr w8:=dE.o.trans (gY.mono qj);have Nl:=qh ((G4 PB).congr (f':=fun j=>.int .i64 (iV C ns z (k+1) j)) fun j hj=>rfl);have Z1:=qh (P6 gC);have rP:=qh (own_below pC.o oH);have dV:=qh (aR.o.trans (oH.mono qo));have zw:=qh (show∀b,(Value.slice Ao nE co).ownBlock=some b→b<wr.heap.size from fun b hb=>(pC.o.lt b hb).2);have HIG:=qh (eV R8 (n8*6) XN);have zB:=dV.o.size
   simp only[World.size_alloc]at zB
   clear gC PB gY XJ hN1 XN hLk oH
   go_wp2_with (at_builtin;go_must (refine cO w8 rfl (.tmp 36) (.tmp 37) _ rfl (w.heap.size+1) 116 j0 _ 6 48 Tryz.underlying42 hj0 jz js jb rfl qo _ _ _ rfl rP.o Ae n8 ce (fun j=>.int .i64 (R8.getD j 0)) rfl Z1.o (fun j=>rfl) qm qo zB ?_);intro v' w' hown' hfr;have CF:=qh hown';have jU:=qh hfr;clear hown' hfr)
   go_roundw
   case rel=>exact⟨k+1,nE+n8,ga,0,ca,by omega,qg,rfl,hca,qh ((aS _ _ _).fr Nl.o jU.o fun b hb e=>by
    obtain⟨_,a,e2,hb2⟩:=hb;injection e2 with e2;subst e2;have:=zw.o b e
    simp only at hb2
    omega),qh (by
    have h:=CF.o;rw[HIG.o,←aL,←cT.o]at h;exact h),qh (dV.o.trans (jU.o.own rP.o zB))⟩
   case measure=>exact qs
  ·obtain rfl:n=k:=qo
   go_wp2
   go_ret
   exact⟨_,nE,rfl,eU pC.o (Nat.le_succ _),lP.o⟩
theorem IT (aA:Int)(A:OA)(n q:Nat)(d c:Nat→Int)(As:Nat→OA)(ns cs:Nat→Nat)(z:Nat→Nat→Int)(w:World)(ha:eC A n d c As ns cs z w)(hn:n≤1048576)(hns:∀j,j<n→ns j≤1048576):
 Calls Tryz.prog 27 #[.agg #[.int .i64 aA,.slice A n q]] w fun e w'=>e=.returned (.bool (dL aA n d c ns z))∧Below w.heap.size w w':=by
 have hL:=(Below.refl w.heap.size w).alloc ql (.cells #[.int .i64 aA,.slice A n q] 32);have HL:=qh hL;have hbx:=kN w #[.int .i64 aA,.slice A n q] 32;have HAT:=qh (show xB (w.alloc (.cells #[.int .i64 aA,.slice A n q] 32)) w.heap.size 0 aA A n q from⟨hbx 0,hbx 1⟩);have HA:=qh ((cU A n d c As ns cs z).below ha hL);have jY:=qh hns;clear ha hL hbx hns
 go_enter Tryz.func27,Tryz.ntmps27
 go_wp2_with fail
 refine(SR w.heap.size 0 aA A n q d c As ns cs z _ HAT HA.o hn jY.o).mono ?_;rintro e w1 ⟨rfl,hb1⟩;have HB1:=HL.st hb1;clear hb1
 go_wp2_with fail
 go_ret
 exact⟨rfl,HB1.o⟩
section
variable (x s:Int)(A O B:OA)(n q m p l t:Nat)(d c:Nat→Int)(As:Nat→OA)(ns cs:Nat→Nat)(z:Nat→Nat→Int)(o b:Nat→Int)
end
end Go.Proofs.YtimlpmbabbbcaaaGreat
