/- Walks and plain lemmas. -/
import Derived.Test.YtdnmhhohcedjbaaGreatP26
import Derived.Test.YtdnmhhohcedjbaaGreatP22
import Derived.Test.YtdnmhhohcedjbaaGreatP23
import Derived.Test.YtdnmhhohcedjbaaGreatRows
import Derived.Lib.SmallJoins
set_option linter.unusedVariables false
set_option linter.unusedSimpArgs false
set_option maxHeartbeats 4000000
set_option maxRecDepth 20000
namespace Go.Proofs.YtdnmhhohcedjbaaGreat
open Go.RowKit
def IM (z:Nat→Int)(n:Int):Nat→Int
 |0=>n
 |k+1=>bD (z (k*6)) (z (k*6+2)) (IM z n k)
def Cx (L:List Int):Prop:=∃a,L.length=a*6∧∀t,t<a→T.evs L (t*6)=1∧ -1≤T.evs L (t*6+2)∧T.evs L (t*6+2)≤1
theorem Cx.nil:Cx []:=⟨0,rfl,fun t ht=>by omega⟩
theorem Cx.app {L M:List Int}(h:Cx L)(h':Cx M):Cx (L++M):=by
 obtain⟨a,ha,hc⟩:=h;obtain⟨b,hb,hc'⟩:=h';refine⟨a+b,by rw[List.length_append];omega,fun t ht=>?_⟩
 by_cases h:t<a
 ·have h1:=hc t h
  simp only[T.evs,List.getD,List.getElem?_append]at h1 ⊢
  rw[if_pos qo,if_pos qo];exact h1
 ·have h1:=hc' (t-a) qo
  simp only[T.evs,List.getD,List.getElem?_append]at h1 ⊢
  rw[if_neg qo,if_neg qo,show t*6-L.length=(t-a)*6 by omega,show t*6+2-L.length=(t-a)*6+2 by omega];exact h1
theorem Y0 (s:Int)(xs:List Int)(hs: -1≤s∧s≤1):Cx (cE s xs):=by
 induction xs with
 |nil=>exact Cx.nil
 |cons x xs ih=>
  have h1:Cx (jQ 1 x s 0 0 0):=⟨1,rfl,fun t ht=>by
   obtain rfl:t=0:=qo;exact⟨rfl,hs⟩⟩
  exact h1.app ih
theorem adC (W:Nat)(r G5:Int)(f k:Nat→Nat)(i:Nat):Cx (T.nW W r G5 f k i):=by
 unfold T.nW
 split
 ·split
  ·exact Y0 _ _ qo
  ·exact Cx.nil
 ·split
  ·exact Y0 _ _ qo
  ·exact Cx.nil
theorem yh (W:Nat)(r G5:Int)(f k:Nat→Nat)(i:Nat):Cx (T.fS W r G5 f k i):=by
 induction i with
 |zero=>exact Cx.nil
 |succ i ih=>exact ih.app (adC ..)
theorem abd (W:Nat)(r:Int)(f k:Nat→Nat)(n:Nat):Cx (T.qK W r f k n):=by
 induction n with
 |zero=>exact Cx.nil
 |succ n ih=>exact ih.app (yh ..)
theorem abe (W:Nat)(r:Int)(f k:Nat→Nat)(n:Nat):Cx (T.rJ W r f k n):=by
 induction n with
 |zero=>exact Cx.nil
 |succ n ih=>exact ih.app (yh ..)
theorem Nq (W:Nat)(r r':Int)(f k:Nat→Nat):Cx (T.xZ W r r' f k):=by
 unfold T.xZ
 split
 ·exact abd ..
 ·exact abe ..
theorem Ob {L:List Int}{a:Nat}(hl:L.length=a*6)(h:Cx L)(n:Int):∀t,t≤a→IM (T.evs L) n t=n:=by
 obtain⟨b,hb,hc⟩:=h;obtain rfl:a=b:=qo;intro t
 induction t with
 |zero=>intro _;rfl
 |succ t ih=>
  intro ht
  simp only[IM,ih qo,(hc t qo).1]
  unfold bD;rw[if_neg (by decide),if_neg (by decide),if_neg (by decide)]
theorem S8 (s:aI)(k d fb fa c r:Int):(k=7∧Cx (hZ s k d fb fa c r))∨(k≠7∧((hZ s k d fb fa c r).length=6∨hZ s k d fb fa c r=[])):=by
 unfold hZ
 by_cases h7:k=7
 ·rw[if_pos h7]
  exact .inl ⟨h7,Nq ..⟩
 ·rw[if_neg h7]
  refine .inr ⟨h7,?_⟩
  repeat' split
  all_goals first|exact .inl rfl|exact .inr rfl
theorem Uh {s:aI}{k d fb fa c r:Int}{a:Nat}(hl:(hZ s k d fb fa c r).length=a*6)(n:Int){t:Nat}(ht:t<a):IM (T.evs (hZ s k d fb fa c r)) n t=n:=by
 rcases S8 s k d fb fa c r with⟨_,h⟩|⟨_,h|h⟩
 ·exact Ob hl h n t qo
 ·obtain rfl:t=0:=qo
  rfl
 ·rw[h]at hl
  simp at hl
  omega
theorem aaH {s:aI}{D:Nat}(hs:bW s D){k d fb fa c r:Int}(f0:0≤fa)(f1:fa<s.W){a:Nat}(hl:(hZ s k d fb fa c r).length=a*6){t:Nat}(ht:t<a): -4≤T.evs (hZ s k d fb fa c r) (t*6+2)∧T.evs (hZ s k d fb fa c r) (t*6+2)≤4:=by
 have h4:=bT (b:=fb) hs f0 f1
 rcases S8 s k d fb fa c r with⟨_,b,hb,h⟩|⟨h7,h|h⟩
 ·have:=h t qo
  omega
 ·obtain rfl:t=0:=qo
  unfold hZ at h ⊢;rw[if_neg h7]at h ⊢
  repeat' split
  all_goals first
   |(show-4≤((aM s fb fa:Nat):Int)∧((aM s fb fa:Nat):Int)≤4;omega)
   |(show(-4:Int)≤0∧(0:Int)≤4;omega)
   |(exfalso;simp at h)
 ·rw[h]at hl
  simp at hl
  omega
theorem K4 (k p c b y d n:Int):IM (T.evs (jQ k p c b y d)) n 1=bD k c n:=rfl
theorem adM {s:aI}{D:Nat}(hs:bW s D){k d fb fa tb ta c r:Int}{j:Nat}(hp:fP s.W k d fb fa tb ta c r j)(hB:aW k d fb fa tb ta c r=true)(hc:aX s k d fb fa tb ta j=0){a:Nat}(hl:(hZ s k d fb fa c r).length=a*6):
 IM (T.evs (hZ s k d fb fa c r)) (live s) a=live (cV s k d fb fa tb ta r j):=by
 have hk1:=hp.k1;have zQ:=hp.k9;have f0:=hp.f0;have f1:=hp.f1;have t0:=hp.t0;have t1:=hp.t1;have h4:=bT (b:=fb) hs f0 f1
 by_cases h7:k=7
 ·subst h7
  rw[Ob hl (Nq ..) _ a ql];unfold cV;rw[if_neg qo,if_neg qo,if_neg qo,if_neg qo,if_pos rfl]
  rfl
 unfold aX at hc;unfold cV;unfold hZ at hl ⊢;rw[if_neg h7]at hl ⊢
 by_cases hform:k=1∨k=2∨k=5
 ·obtain⟨fB,hy⟩:=tW hform hB
  have hle:=oB fB f0 f1;rw[if_pos hform]at hc ⊢;unfold eH at hc;unfold mZ
  by_cases h1:k=1
  ·rw[if_pos h1]at hl ⊢
   rw[if_pos h1];have hl':live (b9 (more (bM s d (aL fb fa s.rk) j)) fb fa 1)+aM s fb fa=live s+1:=kH (more (bM s d (aL fb fa s.rk) j)) fb fa 1 f0 f1;obtain rfl:a=1:=by simp[jQ]at hl;omega
   rw[K4];unfold bD;rw[if_pos rfl];omega
  ·rw[if_neg h1]at hl ⊢
   rw[if_neg h1]
   by_cases h2:k=2
   ·rw[if_pos h2]at hl ⊢
    rw[if_pos h2];have hl':live (b9 (more (bM s d (aL fb fa s.rk) j)) fb fa (aM s fb fa+1))+aM s fb fa=live s+(aM s fb fa+1):=kH (more (bM s d (aL fb fa s.rk) j)) fb fa (aM s fb fa+1) f0 f1;obtain rfl:a=1:=by simp[jQ]at hl;omega
    rw[K4];unfold bD;rw[if_neg qo,if_pos qo];omega
   ·have h5:k=5:=qo
    rw[if_neg h2]at hl ⊢;rw[if_neg h2];rw[if_pos h5]at hl ⊢;have Ed:=EM (.inr h5) hB;have hm:live (aY (bM s d (aL fb fa s.rk) j) fb fa tb ta)=live s:=BV (s:=bM s d (aL fb fa s.rk) j) Ed f0 f1 t0 t1;have hl':=kH (more (aY (bM s d (aL fb fa s.rk) j) fb fa tb ta)) fb fa 1 f0 (by show fa<((aY (bM s d (aL fb fa s.rk) j) fb fa tb ta).W:Nat);rw[tX];exact f1);have e1:live (more (aY (bM s d (aL fb fa s.rk) j) fb fa tb ta))=live (aY (bM s d (aL fb fa s.rk) j) fb fa tb ta):=rfl;have e2:aM (more (aY (bM s d (aL fb fa s.rk) j) fb fa tb ta)) fb fa=0:=SL _ 0;rw[e1,e2,hm]at hl';obtain rfl:a=1:=by simp[jQ]at hl;omega
    rw[K4];unfold bD;rw[if_neg qo,if_pos qo];omega
 ·rw[if_neg (show¬k=1 by omega),if_neg (show¬k=2 by omega),if_neg (show¬k=5 by omega)]at hl ⊢
  rw[if_neg hform]at hc ⊢
  by_cases h6:k=6
  ·rw[if_neg (show¬k=3 by omega),if_neg (show¬k=4 by omega),if_pos h6]at hc ⊢
   rw[if_pos h6]at hl ⊢;subst h6;have fB:=LX hB;have hle:=oB fB f0 f1;have hl':live (b9 {s with d:=s.d+aM s fb fa} fb fa 0)+aM s fb fa=live s+0:=kH {s with d:=s.d+aM s fb fa} fb fa 0 f0 f1;obtain rfl:a=1:=by simp[jQ]at hl;omega
   rw[K4];unfold bD;rw[if_neg qo,if_neg qo,if_pos rfl];omega
  ·rw[if_neg h6]at hl ⊢
   rw[if_neg h6,if_neg h7];obtain rfl:a=0:=by simp at hl;omega
   by_cases h3:k=3
   ·rw[if_pos h3]
    rfl
   ·rw[if_neg h3]
    by_cases h4:k=4
    ·rw[if_pos h4,BV (EM (.inl h4) hB) f0 f1 t0 t1]
     rfl
    ·rw[if_neg h4]
     rfl
end Go.Proofs.YtdnmhhohcedjbaaGreat
namespace Go.Proofs.YtdnmhhohcedjbaaGreat
open Go.RowKit
theorem U3 (A B:OA)(c c':Nat)(L M:List Int)(w:World)(ha:cX w A L)(hb:cX w B M)(hn:L.length≤1048576)(hm:M.length≤1048576):
 Calls Tryz.prog 138 #[.slice A L.length c,.slice B M.length c'] w fun e w'=>e=.returned (.bool (decide (L=M)))∧∃q,w'=w.drewN q:=by
 have HE:=qh (F5 A B c c' L M w ha hb hn hm);clear ha hb
 go_enter Tryz.func138,Tryz.ntmps138
 go_wp2_with fail
 refine HE.o.mono ?_;rintro e w1 ⟨rfl,q,rfl⟩
 go_wp2_with fail
 go_ret
 exact⟨rfl,q,rfl⟩
open Classical in
theorem Ew {n:Nat}(v u:Value)(F E:List (G.PM n))(bs cs bs' cs':Nat→Nat)(B B':Nat)(w:World)(ha:cT B v F bs cs w)(hb:cT B' u E bs' cs' w)(hn:n≤1000)(hl:F.length≤1000000)(hl':E.length≤1000000):
 Calls Tryz.prog 137 #[v,u,.func (.func 138) #[] #[]] w fun e w'=>e=.returned (.bool (decide (F=E)))∧∃q,w'=w.drewN q:=by
 obtain⟨A,c,rfl⟩:=ha.own.sl;obtain⟨A',c',rfl⟩:=hb.own.sl;have HA:=qh ha;have HB:=qh hb;clear ha hb
 by_cases hle:F.length=E.length
 case neg=>
  have HD:=qh (show decide (F=E)=false from decide_eq_false fun e=>hle (by rw[e]));have hlb:((F.length:Int)==(E.length:Int))=false:=by rw[beq_eq_false_iff_ne];omega
  have hlc:¬(F.length:Int)=(E.length:Int):=qo
  go_enter Tryz.func137,Tryz.ntmps137
  go_wp2_with fail
  go_ret
  exact⟨by rw[HD.o];rfl,0,rfl⟩
 obtain⟨N,hN⟩:=qx (F.length);have Yp:E.length=N:=qo;have iQ:=qh hN;have mE:=qh Yp
 simp only[←hN,Yp]at HA HB hl ⊢
 clear hN Yp hle hl'
 go_enter Tryz.func137,Tryz.ntmps137
 go_wp2_with fail
 go_loopw [17] (fun x wr=>∃k q:Nat,k≤N∧x=.int .i64 k∧wr=w.drewN q∧Hq (F.take k=E.take k)) (fun x _=>N-(intOf x).toNat)
 case atStart=>exact⟨0,0,Nat.zero_le _,rfl,rfl,qh qj⟩
 case round=>
  obtain⟨k,q,hk,rfl,rfl,HX⟩:=hrel
  by_cases hlt:k<N
  ·obtain⟨gf,o,cp,he,hgf,_⟩:=HA.o.form (by have:=iQ.o;omega)
   injection he with e1 e2 e3;clear e2;subst e1 e3;obtain⟨ge,o',cp',he',hge,_⟩:=HB.o.form (by have:=mE.o;omega);injection he' with e1 e2 e3;clear e2;subst e1 e3;obtain⟨p,hp⟩:∃p,F[k]?=some p:=⟨_,List.getElem?_eq_getElem (by have:=iQ.o;omega)⟩;obtain⟨r,hr⟩:∃p,E[k]?=some p:=⟨_,List.getElem?_eq_getElem (by have:=mE.o;omega)⟩;have wu:cT B (.slice (some ⟨gf,o,none⟩) F.length c) F bs cs w:=by rw[←iQ.o];exact HA.o
   have hEx:cT B' (.slice (some ⟨ge,o',none⟩) E.length c') E bs' cs' w:=by rw[mE.o];exact HB.o
   have kf:=wu.cell (j:=k) (by have:=iQ.o;omega);have ke:=hEx.cell (j:=k) (by have:=mE.o;omega);have hsl:=U3 (some ⟨bs k,0,none⟩) (some ⟨bs' k,0,none⟩) (cs k) (cs' k) (G.pl p) (G.pl r) (w.drewN q) (Rd.drewN (iD (HA.o.AG k p hp)) q) (Rd.drewN (iD (HB.o.AG k r hr)) q) (by rw[G.aC];omega) (by rw[G.aC];omega);rw[G.aC,G.aC]at hsl;have HSL:=qh hsl;have HT1:=qh (show F.take (k+1)=F.take k++[p]by rw[List.take_add_one,hp];rfl);have HT2:=qh (show E.take (k+1)=E.take k++[r]by rw[List.take_add_one,hr];rfl);have HPF:=qh hp;have HPE:=qh hr;have b1:(0:Int)≤(k:Int):=qo;have b2:(k:Int)<(N:Int):=qo;clear wu hEx hsl hp hr
   go_wp2_with fail
   refine HSL.o.mono ?_;rintro e w4 ⟨rfl,q4,rfl⟩
   by_cases hpr:p=r
   ·have h1:decide (G.pl p=G.pl r)=true:=decide_eq_true (by rw[hpr])
    rw[h1]
    go_wp2_with fail
    go_roundw
    case rel=>exact⟨k+1,q+q4,by omega,qg,rfl,qh (by rw[HT1.o,HT2.o,HX.o,hpr])⟩
    case measure=>exact qs
   ·have h1:decide (G.pl p=G.pl r)=false:=decide_eq_false fun e=>hpr (G.NN e)
    rw[h1];have HD:=qh (show decide (F=E)=false from decide_eq_false fun e=>by
     have h2:=HPF.o;rw[e,HPE.o]at h2;injection h2 with h2;exact hpr h2.symm)
    go_wp2_with fail
    go_ret
    exact⟨by rw[HD.o];rfl,q+q4,rfl⟩
  ·obtain rfl:N=k:=qo
   have HD:=qh (show decide (F=E)=true from decide_eq_true (by
    have h:=HX.o;rwa[List.take_of_length_le (by rw[←iQ.o];omega),List.take_of_length_le (by rw[mE.o];omega)]at h))
   go_wp2_with fail
   go_ret
   exact⟨by rw[HD.o];rfl,q,rfl⟩
open Classical in
theorem QA {n:Nat}(P P':Int)(v u:Value)(F E:List (G.PM n))(bs cs bs' cs':Nat→Nat)(B B':Nat)(w:World)(ha:cT B v F bs cs w)(hb:cT B' u E bs' cs' w)(hn:n≤1000)(hl:F.length≤1000000)(hl':E.length≤1000000):
 Calls Tryz.prog 108 #[.agg #[.int .i64 n,.int .i64 P,v],.agg #[.int .i64 n,.int .i64 P',u]] w fun e w'=>e=.returned (.bool (decide ((P,F)=(P',E))))∧Below w.heap.size w w':=by
 have HW:=qh (((Below.refl w.heap.size w).alloc ql (.cells #[.int .i64 n,.int .i64 P,v] 141)).alloc qj (.cells #[.int .i64 n,.int .i64 P',u] 141));have HE:=qh (Ew v u F E bs cs bs' cs' B B' _ (ha.below HW.o) (hb.below HW.o) hn hl hl');obtain⟨A,c,rfl⟩:=ha.own.sl;obtain⟨A',c',rfl⟩:=hb.own.sl;clear ha hb
 by_cases hp:P=P'
 ·have HD:=qh (show decide ((P,F)=(P',E))=decide (F=E)from decide_eq_decide.2 ⟨fun h=>by injection h,fun h=>by rw[h,hp]⟩)
  subst hp;have hp2:(P==P)=true:=by simp
  go_enter Tryz.func108,Tryz.ntmps108
  go_wp2_with fail
  refine HE.o.mono ?_;rintro e w4 ⟨rfl,q4,rfl⟩
  go_wp2_with fail
  go_ret
  exact⟨by rw[HD.o];rfl,Below.drewN' HW.o q4⟩
 ·have HD:=qh (show decide ((P,F)=(P',E))=false from decide_eq_false fun h=>by injection h with h _;exact hp h)
  have hp2:(P==P')=false:=by simp[hp]
  go_enter Tryz.func108,Tryz.ntmps108
  go_wp2_with fail
  go_ret
  exact⟨by rw[HD.o];rfl,HW.o⟩
theorem PA {n:Nat}{W:List Int}(hl:W.length≤4500):(G.acts n ((0,[]):Int×List (G.PM n)) W).2.length≤1000000:=by
 have:=YH W ((0,[]):Int×List (G.PM n)) 0 qj qj;omega
theorem vH {n:Nat}(V W:List Int)(A B:OA)(c c':Nat)(w:World)(ha:cX w A V)(hb:cX w B W)(hn:n≤1000)(hv:G.Word n V)(hw:G.Word n W)(hlv:V.length≤4500)(wm:W.length≤4500):
 Calls Tryz.prog 77 #[.int .i64 n,.slice A V.length c,.slice B W.length c'] w fun e w'=>e=.returned (.bool (mP n V W))∧Below w.heap.size w w':=by
 have HB:=qh hb;have IZ:=qh (show mP n V W=mP n V W from rfl);have H1:=qh (I2 V A c w ha (LH hv) hn hv hlv);have eS:=qh (fun w' h=>I2 W B c' w' h (LH hw) hn hw wm);have hl1:=PA (n:=n) hlv;have hl2:=PA (n:=n) wm;unfold mP at IZ;obtain⟨s,hs⟩:=qx (G.acts n ((0,[]):Int×List (G.PM n)) V);obtain⟨u,hu⟩:=qx (G.acts n ((0,[]):Int×List (G.PM n)) W);have HD:=qh (show mP n V W=@decide (s=u) (Classical.propDecidable _)from by unfold mP;rw[hs,hu];exact decide_eq_decide.2 Iff.rfl);rw[←hs]at H1 hl1;rw[←hu]at eS hl2;obtain⟨P,F⟩:=s;obtain⟨P',E⟩:=u;clear hs hu ha hb IZ
 go_enter Tryz.func77,Tryz.ntmps77
 go_wp2_with fail
 refine H1.o.mono ?_;rintro e w1 ⟨v1,nX,cs1,rfl,hf1,hb1⟩;have gW:=qh hf1;have HB1:=qh hb1;clear hf1 hb1
 go_wp2_with fail
 refine(eS.o _ (Rd.below HB.o HB1.o)).mono ?_;rintro e w2 ⟨v2,bs2,cs2,rfl,hf2,hb2⟩;have bX:=qh hf2;have aiE:=qh (gW.o.below hb2);have HB2:=HB1.st hb2;clear hf2 hb2
 go_wp2_with fail
 refine(QA P P' v1 v2 F E nX cs1 bs2 cs2 _ _ w2 aiE.o bX.o hn hl1 hl2).mono ?_;rintro e w3 ⟨rfl,hb3⟩;have HB3:=HB2.st hb3;clear hb3
 go_wp2_with fail
 go_ret
 exact⟨by rw[HD.o];show Ending.returned (.bool _)=_;exact congrArg (fun b=>Ending.returned (.bool b)) (decide_eq_decide.2 Iff.rfl),HB3.o⟩
end Go.Proofs.YtdnmhhohcedjbaaGreat
namespace Go.Proofs.YtdnmhhohcedjbaaGreat
open Go.RowKit
def pX (s x:Int):Bool:=decide (x≠0)&&aK x (1-s) (s-1)
def jS (s:Int)(z:Nat→Int):Nat→Bool
 |0=>true
 |k+1=>jS s z k&&pX s (z k)
theorem DK {s:Int}{z:Nat→Int}:∀{n k:Nat},k<n→pX s (z k)=false→jS s z n=false
 |0,k,hk,_=>absurd hk qo
 |n+1,k,hk,h=>by
  rcases Nat.lt_or_ge k n with hlt|hge
  ·simp[jS,DK hlt h]
  ·obtain rfl:k=n:=qo
   simp[jS,h]
def DY (s:Int)(n:Nat)(z:Nat→Int):Bool:=aK s 0 12&&decide (n≤40)&&jS s z n
theorem xO (n:Int)(w:World):
 Calls Tryz.prog 174 #[.int .i64 n] w fun e w'=>e=.returned (.bool (aK n 0 12))∧w=w':=by
 go_enter Tryz.func174,Tryz.ntmps174
 go_wp2_with ((go_at_call 37;refine(eB _ _ _ _).mono ?_;rintro e w' ⟨rfl,rfl⟩))
 go_ret
 exact⟨rfl,rfl⟩
theorem I3 (g:Nat)(s x:Int)(w:World)(h0:w.cell? ⟨g,0,none⟩=some (.int .i64 s))(hs0:0≤s)(hs:s≤1000000):
 Calls Tryz.prog 197 #[.int .i64 x,.pointer (some ⟨g,0,none⟩)] w fun e w'=>e=.returned (.bool (!pX s x))∧w=w':=by
 by_cases hz:x=0
 ·subst hz
  go_enter Tryz.func197,Tryz.ntmps197
  go_wp2_with ((go_at_call 37;refine(eB _ _ _ _).mono ?_;rintro e w' ⟨rfl,rfl⟩))
  go_ret
  exact⟨by simp[pX],rfl⟩
 ·have hz':(x==0)=false:=by simpa using hz
  go_enter Tryz.func197,Tryz.ntmps197
  go_wp2_with ((go_at_call 37;refine(eB _ _ _ _).mono ?_;rintro e w' ⟨rfl,rfl⟩))
  all_goals go_ret
  all_goals exact⟨by simp[pX,hz],rfl⟩
def ah1 (w:World)(b:Bool)(e:Ending)(w':World):Prop:=∃r:Int,e=.returned (.int .i64 r)∧(r= -1∧b=true∨0≤r∧b=false)∧w=w'
theorem QV (g:Nat)(A:OA)(n c:Nat)(s:Int)(z:Nat→Int)(w:World)(h0:w.cell? ⟨g,0,none⟩=some (.int .i64 s))(ha:Rd w A n (fun j=>.int .i64 (z j)))(hn:n≤1048576)(hs0:0≤s)(hs:s≤1000000):
 Calls Tryz.prog 212 #[.slice A n c,.func (.func 197) #[] #[.pointer (some ⟨g,0,none⟩)]] w (ah1 w (jS s z n)):=by
 have HA:=qh ha;have H0:=qh h0;clear ha h0
 go_enter Tryz.func212,Tryz.ntmps212
 go_wp2_with fail
 go_loop [8] (fun i=>∃k:Nat,k≤n∧i=.int .i64 k∧Hq (jS s z k=true)) (fun i=>n-(intOf i).toNat)
 case atStart=>exact⟨0,Nat.zero_le _,rfl,rfl⟩
 case round=>
  obtain⟨k,hk,rfl,HK⟩:=hrel
  by_cases hlt:k<n
  ·obtain⟨ga,o,rfl,hg,hr⟩:=HA.o qo
   have hc:=hr k hlt;clear hr;obtain⟨x,hx⟩:=qx (z k)
   simp only[←hx]at hc
   have hq:∀b,pX s x=b→pX s (z k)=b:=fun b h=>by rw[←hx];exact h
   have HQ:=qh hq;clear hq hx
   cases hl:pX s x
   ·have HL:=qh hl
    clear hl
    go_wp2_with ((go_at_call 197;refine(I3 g s x _ H0.o hs0 hs).mono ?_;rintro e w' ⟨rfl,rfl⟩;rw[HL.o]))
    go_ret
    exact⟨_,rfl,.inr ⟨by omega,DK hlt (HQ.o false HL.o)⟩,rfl⟩
   ·have HL:=qh hl
    clear hl
    go_wp2_with ((go_at_call 197;refine(I3 g s x _ H0.o hs0 hs).mono ?_;rintro e w' ⟨rfl,rfl⟩;rw[HL.o]))
    go_round
    case rel=>exact⟨k+1,by omega,qg,by unfold Hq;simp only[jS];rw[HK.o,HQ.o true HL.o];rfl⟩
    case measure=>exact qs
  ·obtain rfl:n=k:=qo
   go_wp2
   go_ret
   exact⟨_,rfl,.inl ⟨rfl,HK.o⟩,rfl⟩
theorem GL (g:Nat)(A:OA)(n c:Nat)(s:Int)(z:Nat→Int)(w:World)(h0:w.cell? ⟨g,0,none⟩=some (.int .i64 s))(ha:Rd w A n (fun j=>.int .i64 (z j)))(hn:n≤1048576)(hs0:0≤s)(hs:s≤1000000):
 Calls Tryz.prog 196 #[.slice A n c,.func (.func 197) #[] #[.pointer (some ⟨g,0,none⟩)]] w fun e w'=>e=.returned (.bool (!jS s z n))∧w=w':=by
 go_enter Tryz.func196,Tryz.ntmps196
 go_wp2_with fail
 refine(QV g A n c s z _ h0 ha hn hs0 hs).mono ?_;rintro e w' ⟨r,rfl,h,rfl⟩
 rcases h with⟨rfl,hb⟩|⟨hr,hb⟩
 ·have HB:=qh hb
  clear hb
  go_wp2
  go_ret
  exact⟨by rw[HB.o];rfl,rfl⟩
 ·have HB:=qh hb
  clear hb;have hr':decide (0≤r)=true:=by simpa using hr
  go_wp2
  go_ret
  exact⟨by rw[HB.o];simp,rfl⟩
theorem R8 (A:OA)(n c:Nat)(s:Int)(z:Nat→Int)(w:World)(ha:Rd w A n (fun j=>.int .i64 (z j)))(hn:n≤1048576)(hs0:0≤s)(hs:s≤1000000):
 Calls Tryz.prog 175 #[.int .i64 s,.slice A n c] w fun e w'=>e=.returned (.bool (jS s z n))∧Below w.heap.size w w':=by
 go_enter Tryz.func175,Tryz.ntmps175
 go_wp2_with fail
 have hb:Below w.heap.size w (w.alloc (.cells #[.int .i64 s] 2)):=qb;refine(GL w.heap.size A n c s z _ (rH rfl 0) (ha.below hb) hn hs0 hs).mono ?_;rintro e w' ⟨rfl,rfl⟩;have HB:=qh hb;clear hb
 go_wp2_with fail
 go_ret
 exact⟨by simp,HB.o⟩
theorem DE (s:Int)(A:OA)(n c:Nat)(z:Nat→Int)(w:World)(ha:Rd w A n (fun j=>.int .i64 (z j)))(hn:n≤1048576):
 Calls Tryz.prog 146 #[.agg #[.int .i64 s,.slice A n c]] w fun e w'=>e=.returned (.bool (DY s n z))∧Below w.heap.size w w':=by
 have hb:Below w.heap.size w (w.alloc (.cells #[.int .i64 s,.slice A n c] 111)):=qb;have HA:=qh (ha.below hb);have HB:=qh hb;clear ha hb
 cases hin:aK s 0 12
 ·have iK:=qh hin
  clear hin
  go_enter Tryz.func146,Tryz.ntmps146
  go_wp2_with ((go_at_call 174;refine(xO _ _).mono ?_;rintro e w' ⟨rfl,rfl⟩;rw[iK.o]))
  go_ret
  exact⟨by simp[DY,iK.o],HB.o⟩
 ·have hsb:=EX hin
  have iK:=qh hin;clear hin
  by_cases hle:n≤40
  ·have hle':decide ((n:Int)≤40)=true:=by simp;omega
   go_enter Tryz.func146,Tryz.ntmps146
   go_wp2_with (first
    |(go_at_call 174;refine(xO _ _).mono ?_;rintro e w' ⟨rfl,rfl⟩;rw[iK.o])
    |(go_at_call 175;refine(R8 A n c s z _ HA.o hn hsb.1 qo).mono ?_;rintro e w1 ⟨rfl,hb1⟩;have HB1:=HB.st hb1;clear hb1)
    |fail)
   go_ret
   exact⟨by simp[DY,iK.o,hle],HB1.o⟩
  ·have hle':decide ((n:Int)≤40)=false:=by simp;omega
   go_enter Tryz.func146,Tryz.ntmps146
   go_wp2_with ((go_at_call 174;refine(xO _ _).mono ?_;rintro e w' ⟨rfl,rfl⟩;rw[iK.o]))
   go_ret
   exact⟨by simp[DY,iK.o,hle],HB.o⟩
theorem aaS (m:Nat)(hm:m≤1000000):∃cs:Array Value,cs.size=m∧∀w:World,(Instr.makeSlice 34 (.int .i64 0) (.int .i64 (m:Int))).run Tryz.prog w=.ok (.slice (some ⟨w.heap.size,0,none⟩) 0 m) (w.alloc (.cells cs 2)):=by
 obtain⟨i0,hi,iz,is,ib⟩:=info_parts info64;refine⟨madeCells (Value.int .i64 0).cells m,size_madeCells _ _,fun w=>?_⟩;have h:=run_makeSlice (P:=Tryz.prog) w 34 2 i0 (.int .i64 0) Tryz.underlying34 hi iz .i64 .i64 0 m qo qo (by rw[is];simp;omega) (by rw[ib];omega) qo;rw[is]at h
 simpa using h
theorem KH (L:List Int)(A:OA)(c:Nat)(w:World)(ha:cX w A L)(hn:L.length≤100000)(hs:FD L):Calls Tryz.prog 76 #[.slice A L.length c] w (lO w (G.red L)):=by
 obtain⟨i0,hi,iz,is,ib⟩:=info_parts info64;obtain⟨cs,hcs,hmk⟩:=aaS L.length qo;have HO:=qh (World.ownsRow_made (e:=2) (size:=1) w cs L.length ql qm qo);have HB:=qh ((Below.refl w.heap.size w).alloc ql (.cells cs 2));have HA:=qh ha;have HS:=qh hs;have bN:=qh (show∀k,k<L.length→G.red (L.take (k+1))=G.jB (G.red (L.take k)) (L.getD k 0)from fun k hk=>by
  show List.foldl G.jB [] (L.take (k+1))=G.jB (List.foldl G.jB [] (L.take k)) _;rw[List.take_succ_eq_append_getElem hk,List.foldl_append]
  simp only[List.foldl_cons,List.foldl_nil,List.getD,List.getElem?_eq_getElem hk,Option.getD_some])
 have J8:=qh (show∀k,(G.red (L.take k)).length≤k from fun k=>by
  have:=G.sM (L.take k);rw[List.length_take]at this;omega)
 have HSR:=qh (show∀k,FD (G.red (L.take k))from fun k x hx=>hs x (List.mem_of_mem_take (G.QG hx)));clear ha hs
 go_enter Tryz.func76,Tryz.ntmps76
 go_wp2_with fail
 clear hmk
 go_loopw [3,11] (fun v x wr=>∃k:Nat,k≤L.length∧x=.int .i64 k∧Hq (wr.ownsRow w.heap.size 2 1 v (G.red (L.take k)).length (ints (G.red (L.take k))))∧Hq (Below w.heap.size w wr)) (fun _ x _=>L.length-(intOf x).toNat)
 case atStart=>exact⟨0,Nat.zero_le _,rfl,HO,HB⟩
 case round=>
  obtain⟨k,hk,rfl,aH,HB2⟩:=hrel
  by_cases hlt:k<L.length
  ·obtain⟨ga,o,rfl,hg,hr⟩:=HA.o qo
   have hc:=aD HB2.o hg (hr k hlt);have hz:=HS.o.get k;have HX:=qh (bN.o k hlt);have hle:=J8.o k;have Oz:=qh (HSR.o k);obtain⟨y,hy⟩:=qx (L.getD k 0);obtain⟨R,hR⟩:=qx (G.red (L.take k))
   simp only[←hy,←hR]at hc hz HX aH hle Oz
   have b1:(0:Int)≤(k:Int):=qo;have b2:(k:Int)<(L.length:Int):=qo;clear hr hy hR
   by_cases h0:R.length=0
   ·obtain rfl:R=[]:=List.length_eq_zero_iff.1 h0
    have eI:=qh (show G.red (L.take (k+1))=[y]by rw[HX.o];rfl);obtain⟨A3,c3,rfl,_⟩:=aF aH.o;rw[List.length_nil]at aH ⊢
    go_wp2_with (at_builtin;go_must (refine bV wr rfl (.tmp 34) (.tmp 36) _ rfl w.heap.size 2 i0 _ 1 8 Tryz.underlying34 hi iz is ib rfl qo (.slice A3 0 c3) _ _ rfl aH.o _ 1 1 _ rfl rfl (by simp[Value.oneCell']) qm qo HB2.o.size ?_);intro v' w' hown' hb';have bS:=qh hown';have HB3:=qh (HB2.o.trans hb');clear hown' hb')
    go_roundw
    case rel=>exact⟨k+1,by omega,qg,qh (by rw[eI.o];exact bS.o),HB3⟩
    case measure=>exact qs
   obtain⟨g1,c1,rfl⟩:∃g1 c1,u3=.slice (some ⟨g1,0,none⟩) R.length c1:=by
    rcases aH.o.2 with⟨_,h⟩|⟨g1,cap,_,e,_⟩
    ·omega
    ·exact⟨g1,cap,e⟩
   obtain⟨r,hr⟩:∃r,R.length=r+1:=⟨R.length-1,by omega⟩;have hl:=aH.o.cellAt r qo;have hlz:=Oz.o.get r;rw[show(ints R)[r]?=some (.int .i64 (R.getD r 0))by simp[ints,List.getD,show r<R.length by omega]]at hl;have yG:=qh (show R.getLast?.getD 0=R.getD r 0 by rw[List.getLast?_eq_getElem?,hr];rfl);obtain⟨z,hzz⟩:=qx (R.getD r 0);rw[←hzz]at hl hlz yG;have mE:=qh (show R≠[]from fun e=>h0 (by rw[e];rfl));have Pd:=qh hr;have b3:(0:Int)≤(r:Int):=qo;have b4:(r:Int)<((r+1:Nat):Int):=qo;have e1:((r+1:Nat):Int)-1=(r:Int):=qo;have e2:(0:Int)<((r+1:Nat):Int):=qo;have hcap:r≤c1:=by
    rcases aH.o.2 with⟨h,_⟩|⟨_,_,_,e,_,_,h,_⟩
    ·cases h
    ·injection e with _ _ e
     omega
   have hd0:decide ((0:Int)<((r+1:Nat):Int))=true:=decide_eq_true e2;rw[hr]at aH hle ⊢;clear hzz hr h0
   by_cases hzy:z= -y
   ·have eI:=qh (show G.red (L.take (k+1))=R.dropLast by
     rw[HX.o];unfold G.jB;rw[if_pos ⟨mE.o,yG.o.trans hzy⟩])
    have cI:=qh (VX aH.o (Nat.le_succ r));have hzb:(z== -y)=true:=by simp[hzy]
    go_wp2_with fail
    go_roundw
    case rel=>exact⟨k+1,by omega,qg,qh (by
     rw[eI.o,List.length_dropLast,←FX,Pd.o,Nat.add_sub_cancel];exact cI.o),HB2⟩
    case measure=>exact qs
   ·have eI:=qh (show G.red (L.take (k+1))=R++[y]by
     rw[HX.o];unfold G.jB;rw[if_neg fun h=>hzy (yG.o.symm.trans h.2)])
    have hzb:(z== -y)=false:=by simpa using hzy
    go_wp2_with (at_builtin;go_must (refine bV wr rfl (.tmp 34) (.tmp 36) _ rfl w.heap.size 2 i0 _ 1 8 Tryz.underlying34 hi iz is ib rfl qo (.slice (some ⟨g1,0,none⟩) (r+1) c1) _ _ rfl aH.o _ 1 1 _ rfl rfl (by simp[Value.oneCell']) qm qo HB2.o.size ?_);intro v' w' hown' hb';have bS:=qh hown';have HB3:=qh (HB2.o.trans hb');clear hown' hb')
    go_roundw
    case rel=>exact⟨k+1,by omega,qg,qh (by rw[eI.o,aT,List.length_append,Pd.o];exact bS.o),HB3⟩
    case measure=>exact qs
  ·obtain rfl:L.length=k:=qo
   go_wp2
   go_ret
   refine⟨_,rfl,?_,HB2.o⟩;have h:=aH.o;rwa[List.take_length]at h
structure JL (w:World)(g o:Nat)(b:aV)(W S:OA)(cw cs m:Nat):Prop where
 c0:w.cell? ⟨g,o,none⟩=some (.int .i64 b.1)
 c1:w.cell? ⟨g,o+1,none⟩=some (.slice W b.2.1.length cw)
 c2:w.cell? ⟨g,o+2,none⟩=some (.slice S m cs)
 rw:cX w W b.2.1
 ln:b.2.2.length=m*6
 rs:Rd w S (m*6) (fun j=>.int .i64 (b.2.2.getD j 0))
theorem JL.lt {w:World}{g o:Nat}{b:aV}{W S:Option Addr}{cw cs m:Nat}(h:JL w g o b W S cw cs m):g<w.heap.size:=World.block_lt_of_cell? w _ h.c0
theorem JL.below {w w':World}{g o:Nat}{b:aV}{W S:Option Addr}{cw cs m:Nat}(h:JL w g o b W S cw cs m)(hb:Below w.heap.size w w'):JL w' g o b W S cw cs m:=
 ⟨aD hb h.lt h.c0,aD hb h.lt h.c1,aD hb h.lt h.c2,h.rw.below hb,h.ln,h.rs.below hb⟩
theorem JL.drewN {w:World}{g o:Nat}{b:aV}{W S:Option Addr}{cw cs m:Nat}(h:JL w g o b W S cw cs m)(q:Nat):JL (w.drewN q) g o b W S cw cs m:=⟨h.c0,h.c1,h.c2,h.rw,h.ln,h.rs⟩
noncomputable def G0 (a b:aV):Bool:=decide (a.1=b.1)&&(decide (a.2.2=b.2.2)&&mP a.1.toNat a.2.1 b.2.1)
structure BOk (b:aV)(m:Nat):Prop where
 n0:0≤b.1
 n1:b.1≤1000
 wd:G.Word b.1.toNat b.2.1
 wl:b.2.1.length≤10000
 ml:m≤1000000
theorem WH (g o g' o':Nat)(a b:aV)(W S W' S':OA)(cw cs m P6 cs' m':Nat)(w:World)(h1:JL w g o a W S cw cs m)(h2:JL w g' o' b W' S' P6 cs' m')(k1:BOk a m)(k2:BOk b m'):
 Calls Tryz.prog 119 #[.pointer (some ⟨g,o,none⟩),.pointer (some ⟨g',o',none⟩)] w fun e w'=>e=.returned (.bool (G0 a b))∧Below w.heap.size w w':=by
 have H1:=qh h1;have H2:=qh h2;have K1:=qh k1;have K2:=qh k2;have c0:=h1.c0;have c1:=h1.c1;have c2:=h1.c2;have d0:=h2.c0;have d1:=h2.c1;have d2:=h2.c2;obtain⟨n,V,T⟩:=a;obtain⟨n',V',T'⟩:=b
 simp only at c0 c1 c2 d0 d1 d2
 have mO:=qh (show G0 (n,V,T) (n',V',T')=(decide (n=n')&&(decide (T=T')&&mP n.toNat V V'))from rfl);clear h1 h2 k1 k2
 by_cases hn:n=n'
 case neg=>
  have hnb:(n==n')=false:=by rw[beq_eq_false_iff_ne];exact hn
  rw[decide_eq_false hn,Bool.false_and]at mO
  go_enter Tryz.func119,Tryz.ntmps119
  go_wp2_with fail
  go_quiet (fail)
  go_wp2_with fail
  go_ret
  exact⟨by rw[mO.o];rfl,Below.drewN' (Below.refl _ _) nq⟩
 subst hn;rw[decide_eq_true rfl,Bool.true_and]at mO;have GC:=qh (fun W0 (x1:Rd W0 S (m*6) (fun j=>.int .i64 (T.getD j 0))) (x2:Rd W0 S' (m'*6) (fun j=>.int .i64 (T'.getD j 0)))=>oV S S' cs cs' m m' T T' W0 H1.o.ln H2.o.ln x1 x2 K1.out.ml K2.out.ml)
 by_cases ht:T=T'
 case neg=>
  rw[decide_eq_false ht,Bool.false_and]at mO;rw[decide_eq_false ht]at GC
  go_enter Tryz.func119,Tryz.ntmps119
  go_wp2_with fail
  go_quiet ((go_at_call 94;exact Calls.quiet_of (GC.o _ (H1.o.rs.drewN _) (H2.o.rs.drewN _))))
  go_wp2_with fail
  go_ret
  exact⟨by rw[mO.o];rfl,Below.drewN' (Below.refl _ _) nq⟩
 subst ht;rw[decide_eq_true rfl,Bool.true_and]at mO;rw[decide_eq_true rfl]at GC;obtain⟨N,rfl⟩:∃N:Nat,n=N:=⟨n.toNat,(Int.toNat_of_nonneg K1.out.n0).symm⟩;have hN:=K1.out.n1;have J8:=qh (fun W0 (x1:cX W0 W V) (x2:cX W0 W' V')=>zK V V' W W' cw P6 W0 x1 x2 (by omega:N≤1000) K1.out.wd K2.out.wd K1.out.wl K2.out.wl)
 go_enter Tryz.func119,Tryz.ntmps119
 go_wp2_with fail
 go_region_held3 (fun w'=>w'.cell? ⟨g,o,none⟩=some (.int .i64 N)∧w'.cell? ⟨g,o+1,none⟩=some (.slice W V.length cw)∧w'.cell? ⟨g,o+2,none⟩=some (.slice S m cs)∧w'.cell? ⟨g',o',none⟩=some (.int .i64 N)∧w'.cell? ⟨g',o'+1,none⟩=some (.slice W' V'.length P6)∧w'.cell? ⟨g',o'+2,none⟩=some (.slice S' m' cs')) (go_keep) (first
  |(go_at_call 94;refine(GC.o _ (H1.o.rs.drewN 1) (H2.o.rs.drewN 1)).mono ?_;rintro e w4 ⟨rfl,q4,rfl⟩)
  |(go_at_call 106;refine(J8.o _ (H1.o.rw.drewN (1+q4)) (H2.o.rw.drewN (1+q4))).mono ?_;rintro e w5 ⟨rfl,hb5⟩;have hb6:Below w.heap.size w w5:=(Below.drewN' (Below.refl _ w) (1+q4)).trans hb5;have bG:=qh hb6;have c0:=aD hb6 H1.o.lt c0;have c1:=aD hb6 H1.o.lt c1;have c2:=aD hb6 H1.o.lt c2;have d0:=aD hb6 H2.o.lt d0;have d1:=aD hb6 H2.o.lt d1;have d2:=aD hb6 H2.o.lt d2;clear hb5 hb6))
 rename_i hHeld
 clear hHeld
 go_wp2_with fail
 go_ret
 exact⟨by rw[mO.o];rfl,bG.o⟩
structure eK where
 W:Nat→Option Addr
 S:Nat→Option Addr
 cw:Nat→Nat
 cs:Nat→Nat
 m:Nat→Nat
def G7 (w:World)(A:OA)(o:List aV)(d:eK):Prop:=0<o.length→∃g off,A=some ⟨g,off,none⟩∧g<w.heap.size∧∀j b,o[j]?=some b→JL w g (off+j*3) b (d.W j) (d.S j) (d.cw j) (d.cs j) (d.m j)
theorem G7.below {w w':World}{A:Option Addr}{o:List aV}{d:eK}(h:G7 w A o d)(hb:Below w.heap.size w w'):G7 w' A o d:=fun h0=>by
 obtain⟨g,off,e,hg,hr⟩:=h h0;exact⟨g,off,e,Nat.lt_of_lt_of_le hg hb.size,fun j b hj=>(hr j b hj).below hb⟩
theorem G7.drewN {w:World}{A:Option Addr}{o:List aV}{d:eK}(h:G7 w A o d)(q:Nat):G7 (w.drewN q) A o d:=fun h0=>by
 obtain⟨g,off,e,hg,hr⟩:=h h0;exact⟨g,off,e,hg,fun j b hj=>(hr j b hj).drewN q⟩
def Oi (o:List aV)(d:eK):Prop:=o.length≤1000000∧∀j b,o[j]?=some b→BOk b (d.m j)
noncomputable def cZ:List aV→List aV→Nat→Int
 |[],[],_=>-1
 |a::L,b::M,i=>if G0 a b=true then cZ L M (i+1)else i
 |[],_::_,i=>i
 |_::_,[],i=>i
theorem yM {L M:List aV}{i:Nat}(h:(L=[]∧M≠[])∨(L≠[]∧M=[])):cZ L M i=i:=by
 rcases L with _|⟨a,L⟩<;>rcases M with _|⟨b,M⟩<;>simp_all [cZ]
theorem WG (L M:List aV)(A B:OA)(c c':Nat)(d d':eK)(w:World)(ha:G7 w A L d)(hb:G7 w B M d')(k1:Oi L d)(k2:Oi M d'):
 Calls Tryz.prog 93 #[.slice A L.length c,.slice B M.length c'] w fun e w'=>e=.returned (.int .i64 (cZ L M 0))∧Below w.heap.size w w':=by
 have HA:=qh ha;have HB:=qh hb;have K1:=qh k1;have K2:=qh k2;have hl:=k1.1;have hm:=k2.1;clear ha hb k1 k2
 go_enter Tryz.func93,Tryz.ntmps93
 go_wp2_with fail
 go_loopw [5] (fun x wr=>∃k:Nat,k≤L.length+M.length∧x=.int .i64 k∧Hq (cZ L M 0=cZ (L.drop k) (M.drop k) k)∧Hq (Below w.heap.size w wr)) (fun x _=>L.length+M.length+1-(intOf x).toNat)
 case atStart=>exact⟨0,Nat.zero_le _,rfl,qh rfl,qh (Below.refl _ _)⟩
 case round=>
  obtain⟨k,hk,rfl,HX,cS⟩:=hrel
  by_cases h1:k<L.length
  ·by_cases h2:k<M.length
   ·obtain⟨g,o,rfl,hg,hr⟩:=(HA.o.below cS.o) qo
    obtain⟨g',o',rfl,hg',hr'⟩:=(HB.o.below cS.o) qo;obtain⟨a,ha⟩:∃a,L[k]?=some a:=⟨_,List.getElem?_eq_getElem h1⟩;obtain⟨b,hb⟩:∃b,M[k]?=some b:=⟨_,List.getElem?_eq_getElem h2⟩;have HQ:=qh (WH g (o+k*3) g' (o'+k*3) a b _ _ _ _ _ _ _ _ _ _ wr.drew ((hr k a ha).drewN 1) ((hr' k b hb).drewN 1) (K1.out.2 k a ha) (K2.out.2 k b hb));have HD:=qh (show cZ (L.drop k) (M.drop k) k=if G0 a b=true then cZ (L.drop (k+1)) (M.drop (k+1)) (k+1)else k by
     rw[List.drop_eq_getElem_cons h1,List.drop_eq_getElem_cons h2];rw[List.getElem?_eq_getElem h1]at ha;rw[List.getElem?_eq_getElem h2]at hb;injection ha with ha;injection hb with hb;rw[ha,hb]
     rfl)
    have b1:(0:Int)≤(k:Int):=qo;have b2:(k:Int)<(L.length:Int):=qo;have b3:(k:Int)<(M.length:Int):=qo;have b4:¬(L.length:Int)≤(k:Int):=qo;have b5:¬(M.length:Int)≤(k:Int):=qo;have e4:decide (L.length≤k)=false:=decide_eq_false qo;have e5:decide (M.length≤k)=false:=decide_eq_false qo;clear hr hr' ha hb
    go_wp2_with fail
    go_region_held3 (fun _=>True) (trivial) ((go_at_call 119;refine HQ.o.mono ?_;rintro e w5 ⟨rfl,hb5⟩;have bG:=qh (cS.o.trans (((Below.refl wr.heap.size wr).drew.trans hb5).mono cS.o.size));clear hb5))
    rename_i hHeld
    clear hHeld
    by_cases hq:G0 a b=true
    ·have eI:=qh (HX.o.trans (HD.o.trans (if_pos hq)))
     rw[hq]
     go_wp2_with fail
     go_roundw
     case rel=>exact⟨k+1,by omega,qg,eI,bG⟩
     case measure=>exact qs
    ·have eI:=qh (HX.o.trans (HD.o.trans (if_neg hq)))
     rw[Bool.not_eq_true]at hq;rw[hq]
     go_wp2_with fail
     go_ret
     exact⟨by rw[eI.o];rfl,bG.o⟩
   ·have eI:=qh (HX.o.trans (yM (.inr ⟨by rw[Ne,List.drop_eq_nil_iff];omega,by rw[List.drop_eq_nil_iff];omega⟩)))
    have b2:(k:Int)<(L.length:Int):=qo;have b3:¬(k:Int)<(M.length:Int):=qo;have b4:¬(L.length:Int)≤(k:Int):=qo;have b5:(M.length:Int)≤(k:Int):=qo;have e4:decide (L.length≤k)=false:=decide_eq_false qo;have e5:decide (M.length≤k)=true:=decide_eq_true qo
    go_wp2_with fail
    go_quiet (fail)
    go_wp2_with fail
    go_ret
    exact⟨by rw[eI.o];rfl,Below.drewN' cS.o nq⟩
  ·by_cases h2:k<M.length
   ·have eI:=qh (HX.o.trans (yM (.inl ⟨by rw[List.drop_eq_nil_iff];omega,by rw[Ne,List.drop_eq_nil_iff];omega⟩)))
    have b2:¬(k:Int)<(L.length:Int):=qo;have b3:(k:Int)<(M.length:Int):=qo;have b4:(L.length:Int)≤(k:Int):=qo;have b5:¬(M.length:Int)≤(k:Int):=qo;have e4:decide (L.length≤k)=true:=decide_eq_true qo;have e5:decide (M.length≤k)=false:=decide_eq_false qo
    go_wp2_with fail
    go_quiet (fail)
    go_wp2_with fail
    go_ret
    exact⟨by rw[eI.o];rfl,Below.drewN' cS.o nq⟩
   ·have eI:=qh (show cZ L M 0= -1 by
     rw[HX.o,List.drop_eq_nil_of_le qo,List.drop_eq_nil_of_le qo]
     rfl)
    have b2:¬(k:Int)<(L.length:Int):=qo;have b3:¬(k:Int)<(M.length:Int):=qo
    go_wp2_with fail
    go_ret
    exact⟨by rw[eI.o];rfl,cS.o⟩
def nN (o:List aV)(d:eK)(i:Nat):Value:=if i%3=0 then .int .i64 (o.getD (i/3) (0,[],[])).1 else if i%3=1 then .slice (d.W (i/3)) (o.getD (i/3) (0,[],[])).2.1.length (d.cw (i/3))else .slice (d.S (i/3)) (d.m (i/3)) (d.cs (i/3))
def gD (N:Nat)(d:eK):Value:=.slice (d.S (N-1)) (d.m (N-1)) (d.cs (N-1))
structure iZ (B:Nat)(v:Value)(o:List aV)(d:eK)(w:World):Prop where
 own:w.ownsRow B 113 3 v o.length ((List.range (o.length*3)).map (nN o d))
 rw:∀j b,o[j]?=some b→cX w (d.W j) b.2.1
 ln:∀j b,o[j]?=some b→b.2.2.length=d.m j*6
 rs:∀j b,o[j]?=some b→Rd w (d.S j) (d.m j*6) (fun i=>.int .i64 (b.2.2.getD i 0))
 fw:∀j b,o[j]?=some b→∀x,Fb (d.W j) b.2.1.length x→¬v.ownBlock=some x∧¬(gD o.length d).ownBlock=some x
 fs:∀j b,o[j]?=some b→∀x,Fb (d.S j) (d.m j*6) x→¬v.ownBlock=some x∧(j+1<o.length→¬(gD o.length d).ownBlock=some x)
 lo:∀b,o.getLast?=some b→w.ownsRow B 91 6 (gD o.length d) (d.m (o.length-1)) (ints b.2.2)
 lv:∀x,v.ownBlock=some x→¬(gD o.length d).ownBlock=some x
 bw:∀j b,o[j]?=some b→∀x,Fb (d.W j) b.2.1.length x→B≤x
 bs:∀j b,o[j]?=some b→∀x,Fb (d.S j) (d.m j*6) x→B≤x
section
variable {B:Nat}{v:Value}{o:List aV}{d:eK}{w w':World}
theorem iZ.below (h:iZ B v o d w)(hb:Below w.heap.size w w'):iZ B v o d w':=
 ⟨own_below h.own hb,fun j b hj=>(h.rw j b hj).below hb,h.ln,fun j b hj=>(h.rs j b hj).below hb,h.fw,h.fs,fun b hl=>own_below (h.lo b hl) hb,h.lv,h.bw,h.bs⟩
theorem iZ.drewN (h:iZ B v o d w)(q:Nat):iZ B v o d (w.drewN q):=⟨h.own,h.rw,h.ln,h.rs,h.fw,h.fs,h.lo,h.lv,h.bw,h.bs⟩
theorem zY {j:Nat}{b:aV}(h:o[j]?=some b):o.getD j (0,[],[])=b:=by simp[List.getD,h]
theorem DX {g cap:Nat}(h:iZ B (.slice (some ⟨g,0,none⟩) o.length cap) o d w){j:Nat}{b:aV}(hj:o[j]?=some b):w.cell? ⟨g,j*3,none⟩=some (.int .i64 b.1)∧w.cell? ⟨g,j*3+1,none⟩=some (.slice (d.W j) b.2.1.length (d.cw j))∧w.cell? ⟨g,j*3+2,none⟩=some (.slice (d.S j) (d.m j) (d.cs j)):=by
 have hlt:j<o.length:=(List.getElem?_eq_some_iff.1 hj).1;have e0:(j*3)/3=j:=qo;have e1:(j*3+1)/3=j:=qo;have e2:(j*3+2)/3=j:=qo;have m0:(j*3)%3=0:=qo;have m1:(j*3+1)%3=1:=qo;have m2:(j*3+2)%3=2:=qo;refine⟨?_,?_,?_⟩
 ·rw[h.own.cellAt _ qo,List.getElem?_map,List.getElem?_range qo,Option.map_some,nN,e0,if_pos m0,zY hj]
 ·rw[h.own.cellAt _ qo,List.getElem?_map,List.getElem?_range qo,Option.map_some,nN,e1,if_neg qo,if_pos m1,zY hj]
 ·rw[h.own.cellAt _ qo,List.getElem?_map,List.getElem?_range qo,Option.map_some,nN,e2,if_neg qo,if_neg qo]
theorem iZ.form (h:iZ B v o d w)(h0:0<o.length):∃g cap,v=.slice (some ⟨g,0,none⟩) o.length cap∧B≤g∧g<w.heap.size:=by
 rcases h.own.2 with⟨_,h1⟩|⟨g,cap,_,e,hB,hc,_⟩
 ·omega
 ·exact⟨g,cap,e,hB,(Array.getElem?_eq_some_iff.1 hc).1⟩
theorem iZ.rdB {A:Option Addr}{c:Nat}(h:iZ B (.slice A o.length c) o d w):G7 w A o d:=fun h0=>by
 obtain⟨g,cap,e,_,hg⟩:=h.form h0;injection e with e1 _ e2;subst e1 e2;refine⟨g,0,rfl,hg,fun j b hj=>?_⟩;obtain⟨c0,c1,c2⟩:=DX h hj;rw[Nat.zero_add];exact⟨c0,c1,c2,h.rw j b hj,h.ln j b hj,h.rs j b hj⟩
def eK.push (d:eK)(k:Nat)(A:OA)(c:Nat):eK:=⟨fun j=>if j=k then A else d.W j,fun j=>if j=k then none else d.S j,fun j=>if j=k then c else d.cw j,fun j=>if j=k then 0 else d.cs j,fun j=>if j=k then 0 else d.m j⟩
theorem nJ {b b':aV}{j:Nat}(h:(o++[b])[j]?=some b'):(j<o.length∧o[j]?=some b')∨(j=o.length∧b'=b):=by
 by_cases hj:j<o.length
 ·rw[List.getElem?_append_left hj]at h
  exact .inl ⟨hj,h⟩
 ·rw[List.getElem?_append_right qo]at h
  by_cases hj2:j-o.length=0
  ·rw[hj2]at h
   simp at h
   exact .inr ⟨by omega,h.symm⟩
  ·rw[List.getElem?_eq_none (by simp;omega)]at h
   cases h
theorem iZ.push (h:iZ B v o d w){A:Option Addr}{W:List Int}{c:Nat}{n:Int}{v':Value}(hA:cX w A W)(hv:∀x,Fb A W.length x→¬v.ownBlock=some x)(hB:∀x,Fb A W.length x→B≤x)
 (hown:w'.ownsRow B 113 3 v' (o.length+1) ((List.range (o.length*3)).map (nN o d)++[.int .i64 n,.slice A W.length c,.slice none 0 0])) (hf:Fr w w' (fun x=>v.ownBlock=some x)) (hat:v'.ownBlock=v.ownBlock∨v'.ownBlock=some (w.heap.size+1)):
 iZ B v' (o++[(n,W,[])]) (d.push o.length A c) w':=by
 have OH:∀x,x<w.heap.size→¬v.ownBlock=some x→¬v'.ownBlock=some x:=fun x h1 h2 h3=>by
  rcases hat with e|e
  ·exact h2 (e.symm.trans h3)
  ·rw[e]at h3
   injection h3 with h3;omega
 have hll:(o++[(n,W,[])]).length=o.length+1:=by simp
 have hlv:(gD (o++[(n,W,[])]).length (d.push o.length A c))=.slice none 0 0:=by
  simp[gD,eK.push]
 have hwl:∀x,Fb A W.length x→x<w.heap.size:=fun x hx=>(aQ _ _ _).2 w x hA hx;refine⟨?_,fun j b hj=>?_,fun j b hj=>?_,fun j b hj=>?_,fun j b hj x hx=>?_,fun j b hj x hx=>?_,fun b hb=>?_,fun x hx=>?_,fun j b hj x hx=>?_,fun j b hj x hx=>?_⟩
 ·rw[hll]
  have e:(List.range ((o.length+1)*3)).map (nN (o++[(n,W,[])]) (d.push o.length A c))=(List.range (o.length*3)).map (nN o d)++[.int .i64 n,.slice A W.length c,.slice none 0 0]:=by
   rw[show(o.length+1)*3=o.length*3+3 by omega,List.range_add,List.map_append]
   congr 1
   ·refine List.map_congr_left fun i hi=>?_
    have hi:=List.mem_range.1 hi;have hi3:i/3<o.length:=qo;have hne:i/3≠o.length:=qo;have hg:(o++[(n,W,[])]).getD (i/3) (0,[],[])=o.getD (i/3) (0,[],[]):=by
     simp only[List.getD]
     rw[List.getElem?_append_left hi3]
    simp only[nN,eK.push,hg,if_neg hne]
   ·have g0:(o++[(n,W,[])]).getD o.length (0,[],[])=(n,W,[]):=by simp[List.getD]
    have a0:(o.length*3)/3=o.length:=qo;have a1:(o.length*3+1)/3=o.length:=qo;have a2:(o.length*3+2)/3=o.length:=qo;have b0:(o.length*3)%3=0:=qo;have b1:(o.length*3+1)%3=1:=qo;have b2:(o.length*3+2)%3=2:=qo
    simp only[List.range,List.range.loop,List.map_cons,List.map_nil,Nat.add_zero,nN,a0,a1,a2,b0,b1,b2,g0,eK.push,if_true]
    simp
  rw[e];exact hown
 ·rcases nJ hj with⟨hlt,hj⟩|⟨rfl,rfl⟩
  ·simp only[eK.push,if_neg (show j≠o.length by omega)]
   exact(aQ _ _ _).fr (h.rw j b hj) hf fun x hx he=>(h.fw j b hj x hx).1 he
  ·simp only[eK.push,if_true]
   exact(aQ _ _ _).fr hA hf fun x hx he=>hv x hx he
 ·rcases nJ hj with⟨hlt,hj⟩|⟨rfl,rfl⟩
  ·simp only[eK.push,if_neg (show j≠o.length by omega)]
   exact h.ln j b hj
  ·simp[eK.push]
 ·rcases nJ hj with⟨hlt,hj⟩|⟨rfl,rfl⟩
  ·simp only[eK.push,if_neg (show j≠o.length by omega)]
   exact(aQ _ _ _).fr (h.rs j b hj) hf fun x hx he=>(h.fs j b hj x hx).1 he
  ·simp only[eK.push,if_true]
   intro h0;omega
 ·rw[hlv]
  refine⟨?_,fun e=>by cases e⟩
  rcases nJ hj with⟨hlt,hj⟩|⟨rfl,rfl⟩
  ·simp only[eK.push,if_neg (show j≠o.length by omega)]at hx
   exact OH x ((aQ _ _ _).2 w x (h.rw j b hj) hx) (h.fw j b hj x hx).1
  ·simp only[eK.push,if_true]at hx
   exact OH x (hwl x hx) (hv x hx)
 ·rw[hlv]
  refine⟨?_,fun _ e=>by cases e⟩
  rcases nJ hj with⟨hlt,hj⟩|⟨rfl,rfl⟩
  ·simp only[eK.push,if_neg (show j≠o.length by omega)]at hx
   exact OH x ((aQ _ _ _).2 w x (h.rs j b hj) hx) (h.fs j b hj x hx).1
  ·simp only[eK.push,if_true]at hx
   obtain⟨h0,_⟩:=hx;omega
 ·rw[hlv]
  have e:b=(n,W,[]):=by simpa using hb.symm
  subst e;have:(d.push o.length A c).m ((o++[(n,W,[])]).length-1)=0:=by simp[eK.push]
  rw[this];exact World.ownsRow_nil _ _ _ _
 ·rw[hlv]
  intro e
  cases e
 ·rcases nJ hj with⟨hlt,hj⟩|⟨rfl,rfl⟩
  ·simp only[eK.push,if_neg (show j≠o.length by omega)]at hx
   exact h.bw j b hj x hx
  ·simp only[eK.push,if_true]at hx
   exact hB x hx
 ·rcases nJ hj with⟨hlt,hj⟩|⟨rfl,rfl⟩
  ·simp only[eK.push,if_neg (show j≠o.length by omega)]at hx
   exact h.bs j b hj x hx
  ·simp only[eK.push,if_true]at hx
   obtain⟨h0,_⟩:=hx;omega
def eK.add (d:eK)(k:Nat)(A:OA)(c:Nat):eK:=⟨d.W,fun j=>if j=k then A else d.S j,d.cw,fun j=>if j=k then c else d.cs j,fun j=>if j=k then d.m j+1 else d.m j⟩
theorem P9 {b:aV}(h:o.getLast?=some b)(s:List Int):dV o s=o.set (o.length-1) (b.1,b.2.1,b.2.2++s):=by
 unfold dV;rw[h];have h0:0<o.length:=List.length_pos_iff.2 fun e=>by rw[e]at h;cases h
 apply List.ext_getElem?
 intro i;rw[List.getElem?_set,List.getElem?_append,List.length_dropLast]
 by_cases h1:i<o.length-1
 ·rw[if_pos h1,if_neg qo,List.getElem?_dropLast,if_pos h1]
 ·rw[if_neg h1]
  by_cases h2:o.length-1=i
  ·subst h2
   rw[if_pos rfl,if_pos qo,Nat.sub_self]
   rfl
  ·rw[if_neg h2,List.getElem?_eq_none (l:=[_]) (by rw[List.length_singleton];omega),List.getElem?_eq_none qo]
theorem aaB {w:World}{A:Option Addr}{n c:Nat}{L:List Int}(ho:w.ownsRow B 91 6 (.slice A n c) n (ints L)):Rd w A (n*6) (fun i=>.int .i64 (L.getD i 0)):=fun h0=>by
 have hl:L.length=n*6:=by have:=ho.1;simpa [ints]using this
 rcases ho.2 with⟨_,h1⟩|⟨g',cap,_,hg,_⟩
 ·omega
 injection hg with hA _ hc;subst hA;refine⟨g',0,rfl,(ho.lt g' rfl).2,fun j hj=>?_⟩;rw[Nat.zero_add,ho.cellAt j qo]
 simp[ints,List.getD,show j<L.length by omega]
theorem iZ.add {g cap:Nat}(h:iZ B (.slice (some ⟨g,0,none⟩) o.length cap) o d w){b:aV}(hb:o.getLast?=some b){A':Option Addr}{c':Nat}{s:List Int}(hs:s.length=6)
 (hown:w'.ownsRow B 91 6 (.slice A' (d.m (o.length-1)+1) c') (d.m (o.length-1)+1) (ints b.2.2++ints s)) (hf:Fr w w' (fun x=>(gD o.length d).ownBlock=some x)) (hat:(Value.slice A' (d.m (o.length-1)+1) c').ownBlock=(gD o.length d).ownBlock∨(Value.slice A' (d.m (o.length-1)+1) c').ownBlock=some (w.heap.size+1)):
 iZ B (.slice (some ⟨g,0,none⟩) o.length cap) (dV o s) (d.add (o.length-1) A' c') (w'.setCell ⟨g,(o.length-1)*3+2,none⟩ (.slice A' (d.m (o.length-1)+1) c')):=by
 have h0:0<o.length:=List.length_pos_iff.2 fun e=>by rw[e]at hb;cases hb
 obtain⟨l,hl⟩:∃l,o.length=l+1:=⟨o.length-1,by omega⟩;have hl1:o.length-1=l:=qo;have hbl:o[l]?=some b:=by rw[←hb,List.getLast?_eq_getElem?,hl1]
 have hgz:g<w.heap.size:=(h.own.lt g rfl).2;have hgl:¬(gD o.length d).ownBlock=some g:=h.lv g rfl;rw[P9 hb];have hlen:(o.set (o.length-1) (b.1,b.2.1,b.2.2++s)).length=o.length:=by rw[List.length_set]
 have hnew:∀x,x<w.heap.size→¬(gD o.length d).ownBlock=some x→¬(Value.slice A' (d.m (o.length-1)+1) c').ownBlock=some x:=fun x h1 h2 h3=>by
  rcases hat with e|e
  ·exact h2 (e.symm.trans h3)
  ·rw[e]at h3
   injection h3 with h3;omega
 have hgn:=hnew g hgz hgl;have hlv:gD (o.set (o.length-1) (b.1,b.2.1,b.2.2++s)).length (d.add (o.length-1) A' c')=.slice A' (d.m (o.length-1)+1) c':=by
  rw[hlen]
  simp[gD,eK.add]
 have hcs:∀j b',(o.set (o.length-1) (b.1,b.2.1,b.2.2++s))[j]?=some b'→(j≠l∧o[j]?=some b')∨(j=l∧b'=(b.1,b.2.1,b.2.2++s)):=fun j b' hj=>by
  rw[List.getElem?_set,hl1]at hj
  by_cases e:l=j
  ·rw[if_pos e,if_pos qo]at hj
   injection hj with hj;exact .inr ⟨e.symm,hj.symm⟩
  ·rw[if_neg e]at hj
   exact .inl ⟨fun e'=>e e'.symm,hj⟩
 have hset:∀x,x≠g→(w'.setCell ⟨g,(o.length-1)*3+2,none⟩ (.slice A' (d.m (o.length-1)+1) c')).heap[x]?=w'.heap[x]?:=fun x hx=>Below.heap_setCell w' _ _ x hx;have hown2:w'.ownsRow B 91 6 (.slice A' (d.m (o.length-1)+1) c') (d.m (o.length-1)+1) (ints (b.2.2++s)):=by rw[aT];exact hown
 refine⟨?_,fun j b' hj=>?_,fun j b' hj=>?_,fun j b' hj=>?_,fun j b' hj x hx=>?_,fun j b' hj x hx=>?_,fun b' hb'=>?_,fun x hx=>?_,fun j b' hj x hx=>?_,fun j b' hj x hx=>?_⟩
 ·rw[hlen]
  have h1:w'.ownsRow B 113 3 (.slice (some ⟨g,0,none⟩) o.length cap) o.length ((List.range (o.length*3)).map (nN o d)):=cU h.own fun x hx=>hf.block x (h.own.lt x hx).2 fun e=>h.lv x hx e;have h2:=(h1.stored ((o.length-1)*3+2) (.slice A' (d.m (o.length-1)+1) c')).1;have e:(List.range (o.length*3)).map (nN (o.set (o.length-1) (b.1,b.2.1,b.2.2++s)) (d.add (o.length-1) A' c'))=((List.range (o.length*3)).map (nN o d)).set ((o.length-1)*3+2) (.slice A' (d.m (o.length-1)+1) c'):=by
   apply List.ext_getElem?
   intro i;rw[List.getElem?_set]
   by_cases hi:i<o.length*3
   ·rw[List.getElem?_map,List.getElem?_range hi,Option.map_some]
    by_cases e:(o.length-1)*3+2=i
    ·rw[if_pos e,if_pos (by simp;omega)]
     have e3:i/3=o.length-1:=qo;have e4:i%3=2:=qo
     simp only[nN,e3,e4,eK.add,if_true]
     simp
    ·rw[if_neg e,List.getElem?_map,List.getElem?_range hi,Option.map_some]
     congr 1
     have hg3:(o.set (o.length-1) (b.1,b.2.1,b.2.2++s)).getD (i/3) (0,[],[])=if i/3=l then(b.1,b.2.1,b.2.2++s)else o.getD (i/3) (0,[],[]):=by
      rw[hl1]
      simp only[List.getD,List.getElem?_set]
      by_cases e5:l=i/3
      ·rw[if_pos e5,if_pos qo,if_pos e5.symm]
       rfl
      ·rw[if_neg e5,if_neg fun e=>e5 e.symm]
     by_cases e5:i/3=l
     ·have e6:i%3=0∨i%3=1:=qo
      simp only[nN,hg3,if_pos e5,eK.add]
      rw[e5,zY hbl]
      rcases e6 with e6|e6
      ·simp[e6]
      ·simp[e6]
     ·rw[hl1]at hg3
      simp only[nN,hl1,hg3,if_neg e5,eK.add]
   ·rw[if_neg qo,List.getElem?_eq_none (by simp;omega),List.getElem?_eq_none (by simp;omega)]
  rw[e];exact h2
 ·rcases hcs j b' hj with⟨hjl,hj⟩|⟨rfl,rfl⟩
  ·exact(aQ _ _ _).1 _ _ ((aQ _ _ _).fr (h.rw j b' hj) hf fun x hx he=>(h.fw j b' hj x hx).2 he) fun x hx=>hset x fun e=>(h.fw j b' hj x hx).1 (by rw[e];rfl)
  ·exact(aQ _ _ _).1 _ _ ((aQ _ _ _).fr (h.rw j b hbl) hf fun x hx he=>(h.fw j b hbl x hx).2 he) fun x hx=>hset x fun e=>(h.fw j b hbl x hx).1 (by rw[e];rfl)
 ·rcases hcs j b' hj with⟨hjl,hj⟩|⟨rfl,rfl⟩
  ·simp only[eK.add,if_neg (show j≠o.length-1 by omega)]
   exact h.ln j b' hj
  ·simp only[eK.add,if_pos hl1.symm,List.length_append,h.ln j b hbl,hs]
   omega
 ·rcases hcs j b' hj with⟨hjl,hj⟩|⟨rfl,rfl⟩
  ·simp only[eK.add,if_neg (show j≠o.length-1 by omega)]
   have hjlt:j<o.length:=(List.getElem?_eq_some_iff.1 hj).1;exact(aQ _ _ _).1 _ _ ((aQ _ _ _).fr (h.rs j b' hj) hf fun x hx he=>(h.fs j b' hj x hx).2 qo he) fun x hx=>hset x fun e=>(h.fs j b' hj x hx).1 (by rw[e];rfl)
  ·simp only[eK.add,if_pos hl1.symm]
   have h1:=aaB hown2;rw[hl1]at h1;refine(aQ _ _ _).1 _ _ h1 fun x hx=>hset x fun e=>?_;obtain⟨_,a,rfl,rfl⟩:=hx;exact hgn (by rw[←e];rfl)
 ·rw[hlv]
  rcases hcs j b' hj with⟨hjl,hj⟩|⟨rfl,rfl⟩
  ·exact⟨(h.fw j b' hj x hx).1,hnew x ((aQ _ _ _).2 w x (h.rw j b' hj) hx) (h.fw j b' hj x hx).2⟩
  ·exact⟨(h.fw j b hbl x hx).1,hnew x ((aQ _ _ _).2 w x (h.rw j b hbl) hx) (h.fw j b hbl x hx).2⟩
 ·rw[hlv,hlen]
  rcases hcs j b' hj with⟨hjl,hj⟩|⟨rfl,rfl⟩
  ·simp only[eK.add,if_neg (show j≠o.length-1 by omega)]at hx
   exact⟨(h.fs j b' hj x hx).1,fun hlt=>hnew x ((aQ _ _ _).2 w x (h.rs j b' hj) hx) ((h.fs j b' hj x hx).2 hlt)⟩
  ·simp only[eK.add,if_pos hl1.symm]at hx
   obtain⟨_,a,rfl,rfl⟩:=hx;refine⟨fun e=>?_,fun hlt=>by omega⟩;have e:some g=some a.block:=e;exact hgn (by rw[e];rfl)
 ·rw[hlv,hlen]
  have e:b'=(b.1,b.2.1,b.2.2++s):=by
   rw[List.getLast?_eq_getElem?,hlen,hl1,List.getElem?_set_self qo]at hb';injection hb' with hb';exact hb'.symm
  subst e
  simp only[eK.add,if_true]
  exact cU hown2 fun x hx=>hset x fun e=>hgn (by rw[←e];exact hx)
 ·rw[hlv]
  have e:some g=some x:=hx;injection e with e;rw[←e];exact hgn
 ·rcases hcs j b' hj with⟨hjl,hj⟩|⟨rfl,rfl⟩
  ·exact h.bw j b' hj x hx
  ·exact h.bw j b hbl x hx
 ·rcases hcs j b' hj with⟨hjl,hj⟩|⟨rfl,rfl⟩
  ·simp only[eK.add,if_neg (show j≠o.length-1 by omega)]at hx
   exact h.bs j b' hj x hx
  ·simp only[eK.add,if_pos hl1.symm]at hx
   obtain⟨_,a,rfl,rfl⟩:=hx;exact(hown2.lt a.block rfl).1
def CD (v:Value)(o:List aV)(d:eK)(x:Nat):Prop:=v.ownBlock=some x∨(gD o.length d).ownBlock=some x∨∃j b,o[j]?=some b∧(Fb (d.W j) b.2.1.length x∨Fb (d.S j) (d.m j*6) x)
theorem iZ.zM (h:iZ B v o d w)(ho:0<o.length){x:Nat}(hx:CD v o d x):x<w.heap.size:=by
 rcases hx with hx|hx|⟨j,b,hj,hx|hx⟩
 ·exact(h.own.lt x hx).2
 ·obtain⟨b,hb⟩:∃b,o.getLast?=some b:=⟨o[o.length-1],by rw[List.getLast?_eq_getElem?,List.getElem?_eq_getElem]⟩
  exact((h.lo b hb).lt x hx).2
 ·exact(aQ _ _ _).2 w x (h.rw j b hj) hx
 ·exact(aQ _ _ _).2 w x (h.rs j b hj) hx
theorem iZ.ahy (h:iZ B v o d w)(ho:0<o.length){x:Nat}(hx:CD v o d x):B≤x:=by
 rcases hx with hx|hx|⟨j,b,hj,hx|hx⟩
 ·exact(h.own.lt x hx).1
 ·obtain⟨b,hb⟩:∃b,o.getLast?=some b:=⟨o[o.length-1],by rw[List.getLast?_eq_getElem?,List.getElem?_eq_getElem]⟩
  exact((h.lo b hb).lt x hx).1
 ·exact h.bw j b hj x hx
 ·exact h.bs j b hj x hx
theorem iZ.keep (h:iZ B v o d w)(ho:0<o.length)(hk:∀x,CD v o d x→w'.heap[x]?=w.heap[x]?):iZ B v o d w':=
 ⟨cU h.own fun x hx=>hk x (.inl hx),
  fun j b hj=>(aQ _ _ _).1 _ _ (h.rw j b hj) fun x hx=>hk x (.inr (.inr ⟨j,b,hj,.inl hx⟩)),
  h.ln,
  fun j b hj=>(aQ _ _ _).1 _ _ (h.rs j b hj) fun x hx=>hk x (.inr (.inr ⟨j,b,hj,.inr hx⟩)),
  h.fw,h.fs,
  fun b hb=>cU (h.lo b hb) fun x hx=>hk x (.inr (.inl hx)),
  h.lv,h.bw,h.bs⟩
theorem iZ.fr {F:Nat→Prop}(h:iZ B v o d w)(ho:0<o.length)(hf:Fr w w' F)(hF:∀x,CD v o d x→¬F x):iZ B v o d w':=
 ⟨cU h.own fun x hx=>hf.block x (h.zM ho (.inl hx)) (hF x (.inl hx)),
  fun j b hj=>(aQ _ _ _).fr (h.rw j b hj) hf fun x hx=>hF x (.inr (.inr ⟨j,b,hj,.inl hx⟩)),
  h.ln,
  fun j b hj=>(aQ _ _ _).fr (h.rs j b hj) hf fun x hx=>hF x (.inr (.inr ⟨j,b,hj,.inr hx⟩)),
  h.fw,h.fs,
  fun b hb=>cU (h.lo b hb) fun x hx=>hf.block x (h.zM ho (.inr (.inl hx))) (hF x (.inr (.inl hx))),
  h.lv,h.bw,h.bs⟩
theorem Lb {b:aV}(hb:o.getLast?=some b){A':Option Addr}{c':Nat}{s:List Int}{x:Nat}(hx:CD v (dV o s) (d.add (o.length-1) A' c') x):(Value.slice A' (d.m (o.length-1)+1) c').ownBlock=some x∨CD v o d x:=by
 have h0:0<o.length:=List.length_pos_iff.2 fun e=>by rw[e]at hb;cases hb
 have hbl:o[o.length-1]?=some b:=by rw[←hb,List.getLast?_eq_getElem?]
 rw[P9 hb]at hx
 rcases hx with hx|hx|⟨j,b',hj,hx⟩
 ·exact .inr (.inl hx)
 ·rw[List.length_set]at hx
  simp only[gD,eK.add,if_true]at hx
  exact .inl hx
 ·rw[List.getElem?_set]at hj
  by_cases e:o.length-1=j
  ·rw[if_pos e,if_pos qo]at hj
   injection hj with hj;subst hj;subst e
   simp only[eK.add,if_true]at hx
   rcases hx with hx|hx
   ·exact .inr (.inr (.inr ⟨_,b,hbl,.inl hx⟩))
   ·obtain⟨_,a,rfl,rfl⟩:=hx
    exact .inl rfl
  ·rw[if_neg e]at hj
   simp only[eK.add,if_neg (fun e'=>e e'.symm:¬j=o.length-1)]at hx
   exact .inr (.inr (.inr ⟨j,b',hj,hx⟩))
end
theorem mS {P:Program}(W:World){ops:Array Oper}{rest:List Oper}{o:Oper}{a:Act}{Q:Exit→Act→World→Prop}(hgd:o.guard=none)(s x:Operand)(t:TypeId)
 (ho:o.op=.call {callee:=.builtin .append,args:=#[s,x],argTypes:=#[t,t]})
 (base:Nat) (e:TypeId) (i:TypeInfo) (z:Value) (size bytes:Nat) (ht:P.underlying t=some (.slice e)) (hi:P.info? e=some i) (hz:i.zero=some z)
 (hsize:i.size=size) (hby:i.bytes=bytes) (hzs:z.cells.size=size) (hsz:0<size)
 (v:Value) (n:Nat) (xs:List Value) (hs:a.eval s=v) (hown:W.ownsRow base e size v n xs)
 (te:TypeId) (m c:Nat) (news:List Value) (q:Nat) (hq:q=W.heap.size) (hx:a.eval x=.slice (some ⟨q,0,none⟩) m c) (hl:news.length=m*size) (h1:∀u∈news,u.oneCell'=true)
 (h63:n+m≤maxLen) (hbytes:(n+m)*bytes≤140737488355328) (hbase:base≤W.heap.size)
 (h:∀v' w',w'.ownsRow base e size v' (n+m) (xs++news)→Fr W w' (fun b=>v.ownBlock=some b)→(v'.ownBlock=v.ownBlock∨v'.ownBlock=some (q+1))→wpList P ops Q rest (a.put o.dst v') w'):
 wpList P ops Q (o::rest) a (W.alloc (.cells news.toArray te)):=by
 subst hq;exact cB W hgd s x t ho base e i z size bytes ht hi hz hsize hby hzs hsz v n xs hs hown te m c news hx hl h1 h63 hbytes hbase h
theorem tq:(Tryz.prog.info? 113).map (fun i=>(i.zero,i.size,i.bytes))=some (some (.agg #[.int .i64 0,.slice none 0 0,.slice none 0 0]),3,56):=by kernel_rfl
theorem sw:(Tryz.prog.info? 91).map (fun i=>(i.zero,i.size,i.bytes))=some (some (.agg #[.int .i64 0,.int .i64 0,.int .i64 0,.int .i64 0,.int .i64 0,.int .i64 0]),6,48):=by kernel_rfl
def Vu (w:World)(r:Option (List aV))(e:Ending)(w':World):Prop:=Below w.heap.size w w'∧match r with
 |none=>e=.returned (.tuple #[.slice none 0 0,.int .i64 5])
 |some o=>∃A c d,e=.returned (.tuple #[.slice A o.length c,.int .i64 0])∧iZ w.heap.size (.slice A o.length c) o d w'
theorem CB (w:World):iZ w.heap.size (.slice (some ⟨w.heap.size,0,none⟩) 1 1) [(0,[],[])] ⟨fun _=>none,fun _=>none,fun _=>0,fun _=>0,fun _=>0⟩ (w.alloc (.cells #[.int .i64 0,.slice none 0 0,.slice none 0 0] 113)):=by
 have hc:∀j b,([((0:Int),([]:List Int),([]:List Int))]:List aV)[j]?=some b→j=0∧b=(0,[],[]):=fun j b h=>by
  rcases j with _|j
  ·simp at h
   exact⟨rfl,h.symm⟩
  ·simp at h
 refine⟨?_,fun j b hj=>?_,fun j b hj=>?_,fun j b hj=>?_,fun j b hj x hx=>?_,fun j b hj x hx=>?_,fun b hb=>?_,fun x hx=>?_,fun j b hj x hx=>?_,fun j b hj x hx=>?_⟩
 ·exact World.ownsRow_lit (base:=w.heap.size) (e:=113) (size:=3) w #[.int .i64 0,.slice none 0 0,.slice none 0 0] 1 ql qm rfl
 ·obtain⟨_,rfl⟩:=hc j b hj
  intro h0
  cases h0
 ·obtain⟨_,rfl⟩:=hc j b hj
  rfl
 ·obtain⟨_,rfl⟩:=hc j b hj
  intro h0
  simp at h0
 ·obtain⟨h0,_⟩:=hx
  obtain⟨_,rfl⟩:=hc j b hj
  cases h0
 ·obtain⟨h0,_⟩:=hx
  simp at h0
 ·simp at hb
  subst hb;exact World.ownsRow_nil _ _ _ _
 ·intro e
  cases e
 ·obtain⟨h0,_⟩:=hx
  obtain⟨_,rfl⟩:=hc j b hj
  cases h0
 ·obtain⟨h0,_⟩:=hx
  simp at h0
theorem Y2 {z:Nat→Int}{N:Nat}(hv:(cnt z 0 N).isSome=true){k:Nat}(hk:k<N):gJ (z (k*6)) (z (k*6+1)) (z (k*6+2)) (z (k*6+3)) (z (k*6+4)) (z (k*6+5)) (fZ z k)=true∧fZ z (k+1)=bD (z (k*6)) (z (k*6+2)) (fZ z k)∧0≤fZ z k∧fZ z k≤12:=by
 obtain⟨m0,hm0⟩:∃m,cnt z 0 k=some m:=by
  cases h2:cnt z 0 k with
  |none=>rw[rM z 0 qo h2]at hv;cases hv
  |some m=>exact⟨m,rfl⟩
 have WR:gJ (z (k*6)) (z (k*6+1)) (z (k*6+2)) (z (k*6+3)) (z (k*6+4)) (z (k*6+5)) m0=true∧bD (z (k*6)) (z (k*6+2)) m0≤12:=Decidable.byContradiction fun hn=>by
  have h2:=F6 hm0 hn;rw[rM z 0 (show k+1≤N by omega) h2]at hv
  cases hv
 have hb:=F8 hm0;have h3:=MR hm0 WR.1 WR.2
 simp only[fZ,hm0,h3,Option.getD_some]
 exact⟨WR.1,trivial,hb.1,hb.2⟩
theorem vW {z:Nat→Int}{N:Nat}(hv:(cnt z 0 N).isSome=true){k:Nat}(hk:k≤N):0≤fZ z k∧fZ z k≤12:=by
 obtain⟨m0,hm0⟩:∃m,cnt z 0 k=some m:=by
  cases h2:cnt z 0 k with
  |none=>rw[rM z 0 qo h2]at hv;cases hv
  |some m=>exact⟨m,rfl⟩
 simp only[fZ,hm0,Option.getD_some]
 exact F8 hm0
theorem Ba (z:Nat→Int)(k:Nat):(kZ z k).length≤k:=by
 induction k with
 |zero=>exact Nat.le_refl _
 |succ k ih=>
  simp only[kZ]
  split
  ·have:=G.sM (kZ z k++[NW z k])
   rw[List.length_append,List.length_singleton]at this;omega
  ·exact Nat.zero_le _
theorem og {o:List aV}{s:List Int}{b:aV}(h:b∈dV o s):∃b0∈o,b=b0∨b.2.2=b0.2.2++s:=by
 unfold dV at h
 cases hl:o.getLast? with
 |none=>rw[hl]at h;cases h
 |some b0=>
  rw[hl]at h
  rcases List.mem_append.1 h with h|h
  ·exact⟨b,(by rw[List.dropLast_eq_take]at h;exact List.mem_of_mem_take h),.inl rfl⟩
  ·rw[List.mem_singleton.1 h]
   exact⟨b0,List.mem_of_getLast? hl,.inr rfl⟩
theorem T3 {n:Int}{W:List Int}{o o':List aV}(h:flush n W o=some o'){b:aV}(hb:b∈o'):b∈o∨b.2.2=[]:=by
 unfold flush at h
 split at h
 ·cases h
 ·split at h
  ·injection h with h
   rw[←h]at hb;exact .inl hb
  ·injection h with h
   rw[←h]at hb
   rcases List.mem_append.1 hb with hb|hb
   ·exact .inl hb
   ·rw[List.mem_singleton.1 hb]
    exact .inr rfl
theorem Y8 {z:Nat→Int}{k:Nat}{o:List aV}(h:j8 z k=some o):∀b∈o,b.2.2.length≤k*6:=by
 induction k generalizing o with
 |zero=>
  injection h with h;rw[←h];intro b hb;rw[List.mem_singleton.1 hb]
  simp
 |succ k ih=>
  simp only[j8]at h
  split at h
  ·intro b hb
   have:=ih h b hb;omega
  ·cases hk:j8 z k with
   |none=>rw[hk]at h;cases h
   |some o1=>
    rw[hk]at h
    simp only[Option.bind_some]at h
    cases hf:flush (fZ z k) (kZ z k) o1 with
    |none=>rw[hf]at h;cases h
    |some o2=>
     rw[hf]at h;injection h with h;intro b hb;rw[←h]at hb;obtain⟨b0,hb0,he⟩:=og hb;have h0:b0.2.2.length≤k*6:=by
      rcases T3 hf hb0 with h1|h1
      ·exact ih hk b0 h1
      ·rw[h1]
       simp
     rcases he with rfl|he
     ·omega
     ·rw[he,List.length_append]
      simp[pF]
      omega
theorem WC {c x:Int}(h:c=1∨c= -1)(hx:0≤x∧x≤100):IntKind.i64.wrap (c*x)=c*x∧ -100≤c*x∧c*x≤100:=by
 rcases h with rfl|rfl
 ·rw[Int.one_mul]
  exact⟨IntWalk.i64_in _ qo,by omega,by omega⟩
 ·rw[Int.neg_one_mul]
  exact⟨IntWalk.i64_in _ qo,by omega,by omega⟩
theorem UC (A:OA)(N c:Nat)(z:Nat→Int)(w:World)(ha:Rd w A (N*6) (fun j=>.int .i64 (z j)))(hN:N≤2000)(hv:(cnt z 0 N).isSome=true):
 Calls Tryz.prog 74 #[.slice A N c] w (Vu w (iI z N)):=by
 obtain⟨i0,hi,iz,is,ib⟩:=info_parts info64;obtain⟨j0,hj0,jz,js,jb⟩:=info_parts tq;obtain⟨k0,hk0,kz,ks,kb⟩:=info_parts sw;have HA:=qh ha;have HV:=qh hv;have bZ:=qh ((CB w).below ((Below.refl _ _).alloc ql (.cells #[] 2)));have B7:=qh (CB w);have HB1:=qh (((Below.refl w.heap.size w).alloc ql (.cells #[.int .i64 0,.slice none 0 0,.slice none 0 0] 113)).alloc qj (.cells #[] 2));have HW1:=qh (World.ownsRow_made (base:=w.heap.size) (e:=2) (size:=1) (w.alloc (.cells #[.int .i64 0,.slice none 0 0,.slice none 0 0] 113)) #[] 0 qj qm rfl);clear ha hv
 go_enter Tryz.func74,Tryz.ntmps74
 go_wp2_with fail
 go_loopw [4,5,6,7,8,9] (fun ov nv wv x _ _ wr=>∃(k:Nat) (o:List aV) (d:eK) (A4:OA) (c4:Nat),k≤N∧x=.int .i64 k∧Hq (j8 z k=some o)∧ov=.slice A4 o.length c4∧nv=.int .i64 (fZ z k)∧Hq (iZ w.heap.size (.slice A4 o.length c4) o d wr)∧Hq (wr.ownsRow w.heap.size 2 1 wv (kZ z k).length (ints (kZ z k)))∧Hq (∀x,wv.ownBlock=some x→¬CD (.slice A4 o.length c4) o d x)∧Hq (Below w.heap.size w wr)) (fun _ _ _ x _ _ _=>N-(intOf x).toNat)
 case atStart=>exact⟨0,[(0,[],[])],_,_,_,Nat.zero_le _,rfl,qh rfl,rfl,rfl,bZ,qh (by have h:=HW1.o;simp only[World.size_alloc]at h;exact h),qh (fun x hx hi=>by
  have h1:=B7.o.zM (Nat.zero_lt_one) hi;injection hx with hx;rw[World.size_alloc]at h1
  simp at hx
  omega),HB1⟩
 case round=>
  clear bZ B7 HB1 HW1;obtain⟨k,o,d,A4,c4,hk,rfl,HT,rfl,rfl,HM,qE,E0,HB⟩:=hrel;have hlo:=yw HT.o;have E9:=qh (vW HV.o hk);have hwl:=Ba z k;have wV:=qh (ED HV.o hk)
  by_cases hlt:k<N
  ·obtain⟨ga,off,rfl,hg,hr⟩:=HA.o qo
   have r0:=aD HB.o hg (hr (k*6) qo);have r1:=aD HB.o hg (hr (k*6+1) qo);have r2:=aD HB.o hg (hr (k*6+2) qo);have r3:=aD HB.o hg (hr (k*6+3) qo);have r4:=aD HB.o hg (hr (k*6+4) qo);have r5:=aD HB.o hg (hr (k*6+5) qo);have oT:=qh (Y2 HV.o hlt);have dC:=qh (show NW z k=z (k*6+2)*(z (k*6+1)+1)from rfl);have AW:=qh (show kZ z (k+1)=if z (k*6)=1 then G.red (kZ z k++[NW z k])else []from rfl);have wW:=qh (show j8 z (k+1)=if z (k*6)=1 then j8 z k else(j8 z k).bind fun o=>(flush (fZ z k) (kZ z k) o).map fun o'=>dV o' (pF z k)from rfl);have L8:=qh (show pF z k=[z (k*6),z (k*6+1),z (k*6+2),z (k*6+3),z (k*6+4),z (k*6+5)]from rfl);rw[HT.o]at wW;obtain⟨z0,hz0⟩:=qx (z (k*6));obtain⟨z1,hz1⟩:=qx (z (k*6+1));obtain⟨z2,hz2⟩:=qx (z (k*6+2));obtain⟨z3,hz3⟩:=qx (z (k*6+3));obtain⟨z4,jF⟩:=qx (z (k*6+4));obtain⟨z5,DN⟩:=qx (z (k*6+5))
   simp only[←hz0,←Nat.add_assoc]at r0
   simp only[←hz1,←Nat.add_assoc]at r1
   simp only[←hz2,←Nat.add_assoc]at r2
   simp only[←hz3,←Nat.add_assoc]at r3
   simp only[←jF,←Nat.add_assoc]at r4
   simp only[←DN,←Nat.add_assoc]at r5
   rw[←hz0,←hz1,←hz2,←hz3,←jF,←DN]at oT L8;rw[←hz1,←hz2]at dC;rw[←hz0]at AW wW;clear hr hz0 hz1 hz2 hz3 jF DN;obtain⟨n,hn⟩:=qx (fZ z k);obtain⟨L,hL⟩:=qx (kZ z k);rw[←hn]at oT wW E9 wV ⊢;rw[←hL]at AW wW qE hwl wV;clear hn hL;have hcn:=E9.o;have b1:(0:Int)≤(k:Int):=qo;have b2:(k:Int)<(N:Int):=qo;have hBW:=HB.o.size;have Ai:=qh (HB.o.alloc hBW (.cells #[.int .i64 z0,.int .i64 z1,.int .i64 z2,.int .i64 z3,.int .i64 z4,.int .i64 z5] 91));have Vm:=qh ((Below.refl wr.heap.size wr).alloc ql (.cells #[.int .i64 z0,.int .i64 z1,.int .i64 z2,.int .i64 z3,.int .i64 z4,.int .i64 z5] 91));have Po:=qh (HM.o.below Vm.o);have zo:=qh (own_below qE.o Vm.o)
   by_cases hc1:z0=1
   ·subst hc1
    obtain⟨p0,p1,p2⟩:=C8 oT.o.1;obtain⟨s1,s2,s3⟩:=WC (c:=z2) (x:=z1+1) p2 qo;obtain⟨X,hX⟩:=qx (z2*(z1+1));rw[←hX]at dC s1 s2 s3;rw[if_pos rfl,dC.o]at AW;rw[if_pos rfl]at wW;have j9:=qh (show fZ z (k+1)=n by rw[oT.o.2.1];simp[bD]);have HX:=qh hX;rw[hX]at s1;clear hX
    go_wp2_with (at_builtin;go_must (refine mS (wr.alloc (.cells #[.int .i64 1,.int .i64 z1,.int .i64 z2,.int .i64 z3,.int .i64 z4,.int .i64 z5] 91)) rfl (.tmp 27) (.tmp 34) _ rfl w.heap.size 2 i0 _ 1 8 Tryz.underlying34 hi iz is ib rfl qo u6 L.length _ rfl zo.o _ 1 1 [.int .i64 (z2*(z1+1))] (wr.heap.size+1) qj rfl rfl (by simp[Value.oneCell']) qm qo Ai.o.size ?_);intro v' w' hown' hf' hat';have HOWN':=qh hown';have gX:=qh hf';clear hown' hf' hat')
    have iR:=qh (Po.o.fr qo gX.o (fun x hx he=>E0.o x he hx));have HB2:=qh (Ai.o.trans (gX.o.own zo.o Ai.o.size));obtain⟨A7,c7,rfl⟩:=aF HOWN'.o;have l8:=qh (show cX w' A7 (L++[X])from iD (n:=L.length+1) (c:=c7) (B:=w.heap.size) (by rw[aT,HX.o];exact HOWN'.o));have iJ:=qh (UP (L++[X]) A7 c7 w' l8.o (by rw[List.length_append,List.length_singleton];omega) (fun y hy=>by
     rcases List.mem_append.1 hy with hy|hy
     ·have:=wV.o y hy
      omega
     ·rw[List.mem_singleton.1 hy]
      omega))
    rw[List.length_append,List.length_singleton]at iJ;clear HOWN' gX
    go_wp2_with fail
    refine iJ.o.mono ?_;rintro e w3 h3;obtain⟨A8,c8,rfl,tJ,_,qC⟩:=h3.rd;have PQ:=qh (eF tJ HB2.o.size);have HM8:=qh (iR.o.below qC);have eW:=HB2.st qC;have HS8:=qh (show∀x,(Value.slice A8 (G.red (L++[X])).length c8).ownBlock=some x→¬CD (.slice A4 o.length c4) o d x from fun x hx hi=>by
     have h1:=(tJ.lt x hx).1;have h2:=iR.o.zM qo hi;omega)
    clear h3 tJ qC
    go_wp2_with fail
    go_roundw
    case rel=>exact⟨k+1,o,d,A4,c4,by omega,qg,wW,rfl,by rw[j9.o],HM8,qh (by rw[AW.o];exact PQ.o),HS8,eW⟩
    case measure=>exact qs
   ·have hwn:kZ z (k+1)=[]:=AW.o.trans (if_neg hc1)
    have htn:=wW.o.trans (if_neg hc1);rw[Option.bind_some]at htn;have RC:=qh hwn;have FH:=qh htn;have hcb:(z0==1)=false:=by rw[beq_eq_false_iff_ne];exact hc1
    have rE:=qh (aB.at_ (g':=wr.heap.size) wr 91 #[.int .i64 z0,.int .i64 z1,.int .i64 z2,.int .i64 z3,.int .i64 z4,.int .i64 z5] rfl);obtain⟨A6,c6,rfl⟩:=aF zo.o;have BA:=qh (fun x hx=>HM.o.zM (by omega:0<o.length) (x:=x) hx);have HST:=qh (Y8 HT.o);clear hwn htn AW wW dC HM qE
    by_cases hlen:40<L.length
    ·have kK:=qh (show iI z N=none from YA (j:=k+1) hlt (by rw[FH.o];unfold flush;rw[if_pos hlen];rfl))
     have hl2:(40:Int)<(L.length:Int):=qo
     go_wp2_with fail
     go_ret2
     exact⟨Ai.o,by rw[kK.o];rfl⟩
    have hl2:¬(40:Int)<(L.length:Int):=qo;obtain⟨nn,rfl⟩:∃nn:Nat,n=nn:=⟨n.toNat,(Int.toNat_of_nonneg E9.o.1).symm⟩;have J1:=qh (show Calls Tryz.prog 106 #[.int .i64 nn,.slice A6 L.length c6,.slice none 0 0] (wr.alloc (.cells #[.int .i64 z0,.int .i64 z1,.int .i64 z2,.int .i64 z3,.int .i64 z4,.int .i64 z5] 91)) _ from zK (n:=nn) L [] A6 none c6 0 _ (iD zo.o) (fun h0=>absurd h0 (Nat.lt_irrefl 0)) qo wV.o (fun x hx=>by cases hx) qo qj)
    go_wp2_with fail
    refine J1.o.mono ?_;rintro e w2 ⟨rfl,hb2⟩;rw[BO];have HB2:=Ai.st hb2;have dW:=qh (Po.o.below hb2);have tO:=qh (rE.o.below hb2 rE.o.lt);have HW2:=qh (own_below zo.o hb2);clear hb2 J1 Ai Po rE zo Vm
    by_cases ht:triv nn L=true
    ·rw[ht]
     have aO:=qh (show flush nn L o=some o by unfold flush;rw[if_neg hlen];exact if_pos ht);obtain⟨wy,pC⟩:=qx (w2);subst pC;obtain⟨o1,ho1⟩:=qx (o);subst ho1;obtain⟨d1,hd1⟩:=qx (d);subst hd1;have J6:=qh (show∀b∈o1,b.2.2.length≤k*6 from HST.o);have dP:=qh (show¬(gD o1.length d1).ownBlock=some wr.heap.size from fun e=>Nat.lt_irrefl _ (BA.o _ (.inr (.inl e))));have H9:=qh (show∀g,(Value.slice A4 o1.length c4).ownBlock=some g→g≠wr.heap.size from fun g hg e=>Nat.lt_irrefl _ (e▸BA.o g (.inl hg)));have kW:=dW;have jO:=HB2;have HKY:=tO;clear dW HB2 tO HW2 E0;have HT1:=qh (show j8 z (k+1)=some (dV o1 (pF z k))by rw[FH.o,aO.o];rfl);obtain⟨q,hq⟩:∃q,o1.length=q+1:=⟨o1.length-1,by omega⟩;obtain⟨b,hb⟩:∃b,o1[q]?=some b:=⟨_,List.getElem?_eq_getElem qo⟩;have jA:=qh (show o1.getLast?=some b by rw[List.getLast?_eq_getElem?,hq];exact hb);obtain⟨g5,c5,hv5,hg5,CY⟩:=kW.o.form qo;injection hv5 with hv5 _ oM;subst hv5 oM;have sZ:=qh (kW.o.below ((Below.refl _ _).alloc ql (.cells #[] 2)));have t6:=qh (HKY.o.alloc (.cells #[] 2));have Q3:=qh (jO.o.alloc jO.o.size (.cells #[] 2));have Oo:=qh (World.ownsRow_made (base:=w.heap.size) (e:=2) (size:=1) wy #[] 0 jO.o.size qm rfl);have PJ:=qh (show(wy.alloc (.cells #[] 2)).heap.size=wy.heap.size+1 by simp);have E8:=qh (fun x hx=>kW.o.zM (by omega:0<o1.length) (x:=x) hx);have hq1:q≤3000:=qo;have b4:(0:Int)≤(q:Int):=qo;have b5:(q:Int)<((q+1:Nat):Int):=qo;have e7:((q+1:Nat):Int)-1=(q:Int):=qo;rw[hq]
     go_wp2_with fail
     obtain⟨wz,hwz⟩:=qx (wy.alloc (.cells #[] 2));rw[←hwz]at sZ t6 Q3 Oo PJ ⊢;obtain⟨_,_,m2⟩:=DX sZ.o hb;have t0:=t6.o.cell 0;have t1:=t6.o.cell 1;have t2:=t6.o.cell 2;have t3:=t6.o.cell 3;have t4:=t6.o.cell 4;have t5:=t6.o.cell 5;have t0:wz.cell? ⟨wr.heap.size,0,none⟩=some (.int .i64 z0):=t0;have t1:wz.cell? ⟨wr.heap.size,1,none⟩=some (.int .i64 z1):=t1;have t2:wz.cell? ⟨wr.heap.size,2,none⟩=some (.int .i64 z2):=t2;have t3:wz.cell? ⟨wr.heap.size,3,none⟩=some (.int .i64 z3):=t3;have t4:wz.cell? ⟨wr.heap.size,4,none⟩=some (.int .i64 z4):=t4;have t5:wz.cell? ⟨wr.heap.size,5,none⟩=some (.int .i64 z5):=t5;clear hwz;refine cN (S:=fun w'=>w'.cell? ⟨g5,q*3+2,none⟩=some (.slice (d1.S q) (d1.m q) (d1.cs q))∧w'.cell? ⟨wr.heap.size,0,none⟩=some (.int .i64 z0)∧w'.cell? ⟨wr.heap.size,1,none⟩=some (.int .i64 z1)∧w'.cell? ⟨wr.heap.size,2,none⟩=some (.int .i64 z2)∧w'.cell? ⟨wr.heap.size,3,none⟩=some (.int .i64 z3)∧w'.cell? ⟨wr.heap.size,4,none⟩=some (.int .i64 z4)∧w'.cell? ⟨wr.heap.size,5,none⟩=some (.int .i64 z5)) _ qj qk qk ⟨m2,t0,t1,t2,t3,t4,t5⟩ (fun hHeld=>?_)
     simp only[List.dropLast,List.getLast_cons_cons,List.getLast_singleton,List.length_cons,List.length_nil]
     refine qt 0 hHeld ?_;refine qt 1 hHeld ?_;refine qt 2 hHeld ?_;refine qt 3 hHeld ?_;refine qt 4 hHeld ?_;refine qt 5 hHeld ?_
     simp only[List.getElem_toArray,List.getElem_cons_succ,List.getElem_cons_zero,Act.put,List.setIfInBounds_toArray,List.set_cons_zero,List.set_cons_succ]
     refine wpAnyH_ready (rs:=[6]) qk qj ?_;refine AllReadyH.cons rfl (fun K hK=>?_) AllReadyH.nil
     simp only[List.getElem_toArray,List.getElem_cons_succ,List.getElem_cons_zero]
     go_simp
     refine hK.out _ _ (by go_keep) (fun fY=>?_);clear hK K hHeld;refine wpAnyH_ready (rs:=[7]) qk qj ?_;refine AllReadyH.cons rfl (fun K hK=>?_) AllReadyH.nil
     simp only[List.getElem_toArray,List.getElem_cons_succ,List.getElem_cons_zero]
     have hlo1:=sZ.o.lo b jA.o;have hq2:o1.length-1=q:=qo;have hlv:gD o1.length d1=.slice (d1.S q) (d1.m q) (d1.cs q):=by unfold gD;rw[hq2]
     rw[hlv,hq2]at hlo1;have Yj:d1.m q≤3000:=by
      have h1:=sZ.o.ln q b hb;have h2:=J6.o b (List.mem_of_getElem? hb);omega
     refine pT wz.drew (by rfl) (.tmp 61) (.tmp 63) _ (by rfl) w.heap.size 91 k0 _ 6 48 Tryz.underlying49 hk0 kz ks kb rfl qo (.slice (d1.S q) (d1.m q) (d1.cs q)) (d1.m q) (ints b.2.2) (by rfl) hlo1 _ 1 1 [.int .i64 z0,.int .i64 z1,.int .i64 z2,.int .i64 z3,.int .i64 z4,.int .i64 z5] (by rfl) rfl (by simp[Value.oneCell']) qm qo Q3.o.size ?_;intro v8 w8 gE bL iA;obtain⟨A8,c8,rfl⟩:=aF gE;have hge:=H9.o g5 rfl;have kP:=dP.o;rw[hlv]at kP;have hl5:¬(Value.slice (d1.S q) (d1.m q) (d1.cs q)).ownBlock=some g5:=fun e=>sZ.o.lv g5 rfl (by rw[hlv];exact e);have DN:g5<wz.heap.size:=by rw[PJ.o];omega
     have DM:wr.heap.size<wz.heap.size:=t6.o.lt;have u2:=(bL.cells (g:=g5) DN hl5 (q*3+2)).trans m2;have v0:=(bL.cells DM kP 0).trans t0;have v1:=(bL.cells DM kP 1).trans t1;have v2:=(bL.cells DM kP 2).trans t2;have v3:=(bL.cells DM kP 3).trans t3;have v4:=(bL.cells DM kP 4).trans t4;have v5:=(bL.cells DM kP 5).trans t5;have f5:w8.frozen? ⟨g5,q*3+2,none⟩=false:=(World.frozen?_of_block (w:=wz.drew) (a:=⟨g5,q*3+2,none⟩) (bL.block g5 DN hl5)).trans (sZ.o.own.frozenAt (q*3+2));refine hK.out _ _ ⟨u2,v0,v1,v2,v3,v4,v5⟩ (fun bU=>?_);clear hK K fY;have mF:=qh ((sZ.o.drewN 1).add jA.o (A':=A8) (c':=c8) (s:=[z0,z1,z2,z3,z4,z5]) rfl (by rw[hq2];exact gE) (by rw[hlv];exact bL) (by rw[hlv,hq2];exact iA));rw[hq2]at mF;have tR:=qh (Below.setCell (p:=⟨g5,q*3+2,none⟩) (Q3.o.drew.trans (bL.own (w:=wz.drew) hlo1 Q3.o.size)) hg5 (.slice A8 (d1.m q+1) c8));have E7:=qh ((show aB w8 wr.heap.size 91 #[.int .i64 z0,.int .i64 z1,.int .i64 z2,.int .i64 z3,.int .i64 z4,.int .i64 z5]from aB.fr (w:=wz.drew) (t6.o.drewN 1) bL kP).far (p:=⟨g5,q*3+2,none⟩) (fun e=>hge e.symm) (.slice A8 (d1.m q+1) c8));have YQ:=qh (show(w8.setCell ⟨g5,q*3+2,none⟩ (.slice A8 (d1.m q+1) c8)).ownsRow w.heap.size 2 1 (.slice (some ⟨wy.heap.size,0,none⟩) 0 0) 0 []from cU Oo.o fun x hx=>by
      injection hx with hx;have hx:wy.heap.size=x:=hx;subst hx;refine(Below.heap_setCell w8 _ _ _ (fun e=>by have e:wy.heap.size=g5:=e;omega)).trans (bL.block _ (by have h4:wz.drew.heap.size=wz.heap.size:=rfl;have h5:=PJ.o;omega) (fun e=>by
       have h1:=E8.o _ (.inr (.inl (by rw[hlv];exact e)));omega)))
     have HSA:=qh (show∀x,(Value.slice (some ⟨wy.heap.size,0,none⟩) 0 0).ownBlock=some x→¬CD (.slice (some ⟨g5,0,none⟩) o1.length c4) (dV o1 [z0,z1,z2,z3,z4,z5]) (d1.add q A8 c8) x from fun x hx hi=>by
      injection hx with hx;have hx:wy.heap.size=x:=hx;subst hx;rw[←hq2]at hi
      rcases Lb jA.o hi with h1|h1
      ·rw[hq2]at h1
       rcases iA with h2|h2
       ·have h3:=E8.o _ (.inr (.inl (by rw[hlv];exact h2.symm.trans h1)))
        omega
       ·rw[h2]at h1
        injection h1 with h1;have h4:wz.drew.heap.size=wz.heap.size:=rfl;have h5:=PJ.o;omega
      ·have h3:=E8.o _ h1
       omega)
     have ZW:=qh (zJ z0 z1 z2 z3 z4 z5 nn wr.heap.size 0 (w8.setCell ⟨g5,q*3+2,none⟩ (.slice A8 (d1.m q+1) c8)) (qh ⟨E7.o.cell 0,E7.o.cell 1,E7.o.cell 2,E7.o.cell 3,E7.o.cell 4,E7.o.cell 5⟩) qo);rw[oT.o.1]at ZW;refine qt 8 bU ?_;refine qt 9 bU ?_
     simp only[List.getElem_toArray,List.getElem_cons_succ,List.getElem_cons_zero,Act.put,List.setIfInBounds_toArray,List.set_cons_zero,List.set_cons_succ]
     refine wpAnyH_done qk ?_ _;refine d8.of ?_
     go_simp
     clear bU v0 v1 v2 v3 v4 v5 u2 f5 bL gE iA hlo1
     go_wp2_with fail
     refine ZW.o.mono ?_;rintro e w9 ⟨v9,q9,rfl,Lf,rfl⟩;rw[Lf rfl]
     go_wp2_with fail
     go_roundw
     case rel=>exact⟨k+1,dV o1 (pF z k),d1.add q A8 c8,some ⟨g5,0,none⟩,c4,by omega,qg,HT1,by rw[cA,hq],by rw[oT.o.2.1],qh (by rw[cA,L8.o];exact mF.o.drewN q9),qh (by rw[RC.o];exact own_drewN YQ.o q9),qh (by rw[cA,L8.o];exact HSA.o),qh (Below.drewN' tR.o q9)⟩
     case measure=>exact qs
    ·rw[Bool.not_eq_true]at ht
     rw[ht];have OG:¬triv nn L=true:=by rw[ht];exact Bool.false_ne_true
     have aO:=qh (show flush nn L o=some (o++[((nn:Int),L,[])])by unfold flush;rw[if_neg hlen];exact if_neg OG)
     go_wp2_with (at_builtin;go_must (refine mS w2 rfl (.tmp 44) (.tmp 49) _ rfl w.heap.size 113 j0 _ 3 56 Tryz.underlying68 hj0 jz js jb rfl qo (.slice A4 o.length c4) o.length _ rfl dW.o.own _ 1 1 [.int .i64 nn,.slice A6 L.length c6,.slice none 0 0] w2.heap.size rfl rfl rfl (by simp[Value.oneCell']) qm qo HB2.o.size ?_);intro v' w' hown' hf' hat';have HOWN':=qh hown';have gX:=qh hf';have nE:=qh hat';clear hown' hf' hat')
     obtain⟨A7,c7,rfl⟩:=aF HOWN'.o;have L4:=qh (dW.o.push (A:=A6) (W:=L) (c:=c6) (n:=nn) (iD HW2.o) (fun x hx e=>by
      obtain⟨_,a,rfl,rfl⟩:=hx;exact E0.o _ rfl (.inl e)) (fun x hx=>by obtain⟨_,a,rfl,rfl⟩:=hx;exact(HW2.o.lt _ rfl).1) HOWN'.o gX.o nE.o)
     have jO:=qh (HB2.o.trans (gX.o.own dW.o.own HB2.o.size));have HKY:=qh (tO.o.fr gX.o (fun e=>Nat.lt_irrefl _ (BA.o _ (.inl e))));have J6:=qh (show∀b∈o++[((nn:Int),L,[])],b.2.2.length≤k*6 from fun b hb=>by
      rcases List.mem_append.1 hb with hb|hb
      ·exact HST.o b hb
      ·rw[List.mem_singleton.1 hb]
       exact Nat.zero_le _)
     have dP:=qh (show¬(gD (o++[((nn:Int),L,[])]).length (d.push o.length A6 c6)).ownBlock=some wr.heap.size from fun e=>by
      simp[gD,eK.push,Value.ownBlock]at e)
     have H9:=qh (show∀g,(Value.slice A7 (o.length+1) c7).ownBlock=some g→g≠wr.heap.size from fun g hg e=>by
      rcases nE.o with h1|h1
      ·exact Nat.lt_irrefl _ (e▸BA.o g (.inl (h1.symm.trans hg)))
      ·rw[h1]at hg
       injection hg with hg;have h2:=tO.o.lt;omega)
     have hol:(o++[((nn:Int),L,[])]).length=o.length+1:=by simp
     obtain⟨d1,hd1⟩:=qx (d.push o.length A6 c6);obtain⟨o1,ho1⟩:=qx (o++[((nn:Int),L,[])]);have kW:=qh (show iZ w.heap.size (.slice A7 o1.length c7) o1 d1 w' from by rw[hd1,ho1,hol];exact L4.o);rw[←ho1]at aO J6 dP hol;rw[←hd1]at dP;rw[←hol]at H9;clear ho1 hd1 L4 HOWN' gX nE dW HB2 tO HW2 E0;obtain⟨wy,pC⟩:=qx (w');subst pC;have HT1:=qh (show j8 z (k+1)=some (dV o1 (pF z k))by rw[FH.o,aO.o];rfl);obtain⟨q,hq⟩:∃q,o1.length=q+1:=⟨o1.length-1,by omega⟩;obtain⟨b,hb⟩:∃b,o1[q]?=some b:=⟨_,List.getElem?_eq_getElem qo⟩;have jA:=qh (show o1.getLast?=some b by rw[List.getLast?_eq_getElem?,hq];exact hb);obtain⟨g5,c5,hv5,hg5,CY⟩:=kW.o.form qo;injection hv5 with hv5 _ oM;subst hv5 oM;have sZ:=qh (kW.o.below ((Below.refl _ _).alloc ql (.cells #[] 2)));have t6:=qh (HKY.o.alloc (.cells #[] 2));have Q3:=qh (jO.o.alloc jO.o.size (.cells #[] 2));have Oo:=qh (World.ownsRow_made (base:=w.heap.size) (e:=2) (size:=1) wy #[] 0 jO.o.size qm rfl);have PJ:=qh (show(wy.alloc (.cells #[] 2)).heap.size=wy.heap.size+1 by simp);have E8:=qh (fun x hx=>kW.o.zM (by omega:0<o1.length) (x:=x) hx);have hq1:q≤3000:=qo;have b4:(0:Int)≤(q:Int):=qo;have b5:(q:Int)<((q+1:Nat):Int):=qo;have e7:((q+1:Nat):Int)-1=(q:Int):=qo;rw[show o.length+1=q+1 by omega]
     go_wp2_with fail
     obtain⟨wz,hwz⟩:=qx (wy.alloc (.cells #[] 2));rw[←hwz]at sZ t6 Q3 Oo PJ ⊢;obtain⟨_,_,m2⟩:=DX sZ.o hb;have t0:=t6.o.cell 0;have t1:=t6.o.cell 1;have t2:=t6.o.cell 2;have t3:=t6.o.cell 3;have t4:=t6.o.cell 4;have t5:=t6.o.cell 5;have t0:wz.cell? ⟨wr.heap.size,0,none⟩=some (.int .i64 z0):=t0;have t1:wz.cell? ⟨wr.heap.size,1,none⟩=some (.int .i64 z1):=t1;have t2:wz.cell? ⟨wr.heap.size,2,none⟩=some (.int .i64 z2):=t2;have t3:wz.cell? ⟨wr.heap.size,3,none⟩=some (.int .i64 z3):=t3;have t4:wz.cell? ⟨wr.heap.size,4,none⟩=some (.int .i64 z4):=t4;have t5:wz.cell? ⟨wr.heap.size,5,none⟩=some (.int .i64 z5):=t5;clear hwz;refine cN (S:=fun w'=>w'.cell? ⟨g5,q*3+2,none⟩=some (.slice (d1.S q) (d1.m q) (d1.cs q))∧w'.cell? ⟨wr.heap.size,0,none⟩=some (.int .i64 z0)∧w'.cell? ⟨wr.heap.size,1,none⟩=some (.int .i64 z1)∧w'.cell? ⟨wr.heap.size,2,none⟩=some (.int .i64 z2)∧w'.cell? ⟨wr.heap.size,3,none⟩=some (.int .i64 z3)∧w'.cell? ⟨wr.heap.size,4,none⟩=some (.int .i64 z4)∧w'.cell? ⟨wr.heap.size,5,none⟩=some (.int .i64 z5)) _ qj qk qk ⟨m2,t0,t1,t2,t3,t4,t5⟩ (fun hHeld=>?_)
     simp only[List.dropLast,List.getLast_cons_cons,List.getLast_singleton,List.length_cons,List.length_nil]
     refine qt 0 hHeld ?_;refine qt 1 hHeld ?_;refine qt 2 hHeld ?_;refine qt 3 hHeld ?_;refine qt 4 hHeld ?_;refine qt 5 hHeld ?_
     simp only[List.getElem_toArray,List.getElem_cons_succ,List.getElem_cons_zero,Act.put,List.setIfInBounds_toArray,List.set_cons_zero,List.set_cons_succ]
     refine wpAnyH_ready (rs:=[6]) qk qj ?_;refine AllReadyH.cons rfl (fun K hK=>?_) AllReadyH.nil
     simp only[List.getElem_toArray,List.getElem_cons_succ,List.getElem_cons_zero]
     go_simp
     refine hK.out _ _ (by go_keep) (fun fY=>?_);clear hK K hHeld;refine wpAnyH_ready (rs:=[7]) qk qj ?_;refine AllReadyH.cons rfl (fun K hK=>?_) AllReadyH.nil
     simp only[List.getElem_toArray,List.getElem_cons_succ,List.getElem_cons_zero]
     have hlo1:=sZ.o.lo b jA.o;have hq2:o1.length-1=q:=qo;have hlv:gD o1.length d1=.slice (d1.S q) (d1.m q) (d1.cs q):=by unfold gD;rw[hq2]
     rw[hlv,hq2]at hlo1;have Yj:d1.m q≤3000:=by
      have h1:=sZ.o.ln q b hb;have h2:=J6.o b (List.mem_of_getElem? hb);omega
     refine pT wz.drew (by rfl) (.tmp 61) (.tmp 63) _ (by rfl) w.heap.size 91 k0 _ 6 48 Tryz.underlying49 hk0 kz ks kb rfl qo (.slice (d1.S q) (d1.m q) (d1.cs q)) (d1.m q) (ints b.2.2) (by rfl) hlo1 _ 1 1 [.int .i64 z0,.int .i64 z1,.int .i64 z2,.int .i64 z3,.int .i64 z4,.int .i64 z5] (by rfl) rfl (by simp[Value.oneCell']) qm qo Q3.o.size ?_;intro v8 w8 gE bL iA;obtain⟨A8,c8,rfl⟩:=aF gE;have hge:=H9.o g5 rfl;have kP:=dP.o;rw[hlv]at kP;have hl5:¬(Value.slice (d1.S q) (d1.m q) (d1.cs q)).ownBlock=some g5:=fun e=>sZ.o.lv g5 rfl (by rw[hlv];exact e);have DN:g5<wz.heap.size:=by rw[PJ.o];omega
     have DM:wr.heap.size<wz.heap.size:=t6.o.lt;have u2:=(bL.cells (g:=g5) DN hl5 (q*3+2)).trans m2;have v0:=(bL.cells DM kP 0).trans t0;have v1:=(bL.cells DM kP 1).trans t1;have v2:=(bL.cells DM kP 2).trans t2;have v3:=(bL.cells DM kP 3).trans t3;have v4:=(bL.cells DM kP 4).trans t4;have v5:=(bL.cells DM kP 5).trans t5;have f5:w8.frozen? ⟨g5,q*3+2,none⟩=false:=(World.frozen?_of_block (w:=wz.drew) (a:=⟨g5,q*3+2,none⟩) (bL.block g5 DN hl5)).trans (sZ.o.own.frozenAt (q*3+2));refine hK.out _ _ ⟨u2,v0,v1,v2,v3,v4,v5⟩ (fun bU=>?_);clear hK K fY;have mF:=qh ((sZ.o.drewN 1).add jA.o (A':=A8) (c':=c8) (s:=[z0,z1,z2,z3,z4,z5]) rfl (by rw[hq2];exact gE) (by rw[hlv];exact bL) (by rw[hlv,hq2];exact iA));rw[hq2]at mF;have tR:=qh (Below.setCell (p:=⟨g5,q*3+2,none⟩) (Q3.o.drew.trans (bL.own (w:=wz.drew) hlo1 Q3.o.size)) hg5 (.slice A8 (d1.m q+1) c8));have E7:=qh ((show aB w8 wr.heap.size 91 #[.int .i64 z0,.int .i64 z1,.int .i64 z2,.int .i64 z3,.int .i64 z4,.int .i64 z5]from aB.fr (w:=wz.drew) (t6.o.drewN 1) bL kP).far (p:=⟨g5,q*3+2,none⟩) (fun e=>hge e.symm) (.slice A8 (d1.m q+1) c8));have YQ:=qh (show(w8.setCell ⟨g5,q*3+2,none⟩ (.slice A8 (d1.m q+1) c8)).ownsRow w.heap.size 2 1 (.slice (some ⟨wy.heap.size,0,none⟩) 0 0) 0 []from cU Oo.o fun x hx=>by
      injection hx with hx;have hx:wy.heap.size=x:=hx;subst hx;refine(Below.heap_setCell w8 _ _ _ (fun e=>by have e:wy.heap.size=g5:=e;omega)).trans (bL.block _ (by have h4:wz.drew.heap.size=wz.heap.size:=rfl;have h5:=PJ.o;omega) (fun e=>by
       have h1:=E8.o _ (.inr (.inl (by rw[hlv];exact e)));omega)))
     have HSA:=qh (show∀x,(Value.slice (some ⟨wy.heap.size,0,none⟩) 0 0).ownBlock=some x→¬CD (.slice (some ⟨g5,0,none⟩) o1.length c7) (dV o1 [z0,z1,z2,z3,z4,z5]) (d1.add q A8 c8) x from fun x hx hi=>by
      injection hx with hx;have hx:wy.heap.size=x:=hx;subst hx;rw[←hq2]at hi
      rcases Lb jA.o hi with h1|h1
      ·rw[hq2]at h1
       rcases iA with h2|h2
       ·have h3:=E8.o _ (.inr (.inl (by rw[hlv];exact h2.symm.trans h1)))
        omega
       ·rw[h2]at h1
        injection h1 with h1;have h4:wz.drew.heap.size=wz.heap.size:=rfl;have h5:=PJ.o;omega
      ·have h3:=E8.o _ h1
       omega)
     have ZW:=qh (zJ z0 z1 z2 z3 z4 z5 nn wr.heap.size 0 (w8.setCell ⟨g5,q*3+2,none⟩ (.slice A8 (d1.m q+1) c8)) (qh ⟨E7.o.cell 0,E7.o.cell 1,E7.o.cell 2,E7.o.cell 3,E7.o.cell 4,E7.o.cell 5⟩) qo);rw[oT.o.1]at ZW;refine qt 8 bU ?_;refine qt 9 bU ?_
     simp only[List.getElem_toArray,List.getElem_cons_succ,List.getElem_cons_zero,Act.put,List.setIfInBounds_toArray,List.set_cons_zero,List.set_cons_succ]
     refine wpAnyH_done qk ?_ _;refine d8.of ?_
     go_simp
     clear bU v0 v1 v2 v3 v4 v5 u2 f5 bL gE iA hlo1
     go_wp2_with fail
     refine ZW.o.mono ?_;rintro e w9 ⟨v9,q9,rfl,Lf,rfl⟩;rw[Lf rfl]
     go_wp2_with fail
     go_roundw
     case rel=>exact⟨k+1,dV o1 (pF z k),d1.add q A8 c8,some ⟨g5,0,none⟩,c7,by omega,qg,HT1,by rw[cA,hq],by rw[oT.o.2.1],qh (by rw[cA,L8.o];exact mF.o.drewN q9),qh (by rw[RC.o];exact own_drewN YQ.o q9),qh (by rw[cA,L8.o];exact HSA.o),qh (Below.drewN' tR.o q9)⟩
     case measure=>exact qs
  ·obtain rfl:N=k:=qo
   have xF:=qh (show iI z N=(flush (fZ z N) (kZ z N) o).bind fun o=>if o.length≤60 then some o else none from by unfold iI;rw[HT.o];rfl);have BA:=qh (fun x hx=>HM.o.zM (by omega:0<o.length) (x:=x) hx);obtain⟨n,hn⟩:=qx (fZ z N);obtain⟨L,hL⟩:=qx (kZ z N);rw[←hn]at E9 wV xF ⊢;rw[←hL]at qE hwl wV xF;clear hn hL;have hcn:=E9.o;obtain⟨A6,c6,rfl⟩:=aF qE.o
   by_cases hlen:40<L.length
   ·have kK:=qh (show iI z N=none from by rw[xF.o];unfold flush;rw[if_pos hlen];rfl)
    have hl2:(40:Int)<(L.length:Int):=qo
    go_wp2_with fail
    go_ret2
    exact⟨HB.o,by rw[kK.o];rfl⟩
   have hl2:¬(40:Int)<(L.length:Int):=qo;obtain⟨nn,rfl⟩:∃nn:Nat,n=nn:=⟨n.toNat,(Int.toNat_of_nonneg E9.o.1).symm⟩;have J1:=qh (show Calls Tryz.prog 106 #[.int .i64 nn,.slice A6 L.length c6,.slice none 0 0] wr _ from zK (n:=nn) L [] A6 none c6 0 _ (iD qE.o) (fun h0=>absurd h0 (Nat.lt_irrefl 0)) qo wV.o (fun x hx=>by cases hx) qo qj)
   go_wp2_with fail
   refine J1.o.mono ?_;rintro e w2 ⟨rfl,hb2⟩;rw[BO];have HB2:=HB.st hb2;have dW:=qh (HM.o.below hb2);have HW2:=qh (own_below qE.o hb2);clear hb2 J1 HB HM qE
   by_cases ht:triv nn L=true
   ·rw[ht]
    have aO:=qh (show flush nn L o=some o by unfold flush;rw[if_neg hlen];exact if_pos ht)
    by_cases h60:60<o.length
    ·have kK:=qh (show iI z N=none from by rw[xF.o,aO.o,Option.bind_some];exact if_neg qo)
     have h61:(60:Int)<(o.length:Int):=qo
     go_wp2_with fail
     go_ret2
     exact⟨HB2.o,by rw[kK.o];rfl⟩
    ·have kK:=qh (show iI z N=some o from by rw[xF.o,aO.o,Option.bind_some];exact if_pos qo)
     have h61:¬(60:Int)<(o.length:Int):=qo
     go_wp2_with fail
     go_ret2
     exact⟨HB2.o,by rw[kK.o];exact⟨A4,c4,d,rfl,dW.o⟩⟩
   ·have hol:(o++[((nn:Int),L,[])]).length=o.length+1:=by simp
    have HOL:=qh hol;clear hol
    by_cases h60:60<o.length+1
    ·have h62:(60:Int)<(o.length:Int)+1:=qo
     rw[Bool.not_eq_true]at ht;rw[ht];have OG:¬triv nn L=true:=by rw[ht];exact Bool.false_ne_true
     have aO:=qh (show flush nn L o=some (o++[((nn:Int),L,[])])by unfold flush;rw[if_neg hlen];exact if_neg OG)
     go_wp2_with (at_builtin;go_must (refine mS w2 rfl (.tmp 79) (.tmp 84) _ rfl w.heap.size 113 j0 _ 3 56 Tryz.underlying68 hj0 jz js jb rfl qo (.slice A4 o.length c4) o.length _ rfl dW.o.own _ 1 1 [.int .i64 nn,.slice A6 L.length c6,.slice none 0 0] w2.heap.size rfl rfl rfl (by simp[Value.oneCell']) qm qo HB2.o.size ?_);intro v' w' hown' hf' hat';obtain⟨A7,c7,rfl⟩:=aF hown';have HOWN':=qh hown';have gX:=qh hf';have nE:=qh hat';clear hown' hf' hat')
     have L4:=qh (dW.o.push (A:=A6) (W:=L) (c:=c6) (n:=nn) (iD HW2.o) (fun x hx e=>by
      obtain⟨_,a,rfl,rfl⟩:=hx;exact E0.o _ rfl (.inl e)) (fun x hx=>by obtain⟨_,a,rfl,rfl⟩:=hx;exact(HW2.o.lt _ rfl).1) HOWN'.o gX.o nE.o)
     have jO:=qh (HB2.o.trans (gX.o.own dW.o.own HB2.o.size));have kK:=qh (show iI z N=none from by rw[xF.o,aO.o,Option.bind_some];exact if_neg (by have:=HOL.o;omega))
     go_wp2_with fail
     go_ret2
     exact⟨jO.o,by rw[kK.o];rfl⟩
    ·have h62:¬(60:Int)<(o.length:Int)+1:=qo
     rw[Bool.not_eq_true]at ht;rw[ht];have OG:¬triv nn L=true:=by rw[ht];exact Bool.false_ne_true
     have aO:=qh (show flush nn L o=some (o++[((nn:Int),L,[])])by unfold flush;rw[if_neg hlen];exact if_neg OG)
     go_wp2_with (at_builtin;go_must (refine mS w2 rfl (.tmp 79) (.tmp 84) _ rfl w.heap.size 113 j0 _ 3 56 Tryz.underlying68 hj0 jz js jb rfl qo (.slice A4 o.length c4) o.length _ rfl dW.o.own _ 1 1 [.int .i64 nn,.slice A6 L.length c6,.slice none 0 0] w2.heap.size rfl rfl rfl (by simp[Value.oneCell']) qm qo HB2.o.size ?_);intro v' w' hown' hf' hat';obtain⟨A7,c7,rfl⟩:=aF hown';have HOWN':=qh hown';have gX:=qh hf';have nE:=qh hat';clear hown' hf' hat')
     have L4:=qh (dW.o.push (A:=A6) (W:=L) (c:=c6) (n:=nn) (iD HW2.o) (fun x hx e=>by
      obtain⟨_,a,rfl,rfl⟩:=hx;exact E0.o _ rfl (.inl e)) (fun x hx=>by obtain⟨_,a,rfl,rfl⟩:=hx;exact(HW2.o.lt _ rfl).1) HOWN'.o gX.o nE.o)
     have jO:=qh (HB2.o.trans (gX.o.own dW.o.own HB2.o.size));have kK:=qh (show iI z N=some (o++[((nn:Int),L,[])])from by rw[xF.o,aO.o,Option.bind_some];exact if_pos (by have:=HOL.o;omega))
     go_wp2_with fail
     go_ret2
     exact⟨jO.o,by rw[kK.o];exact⟨A7,c7,d.push o.length A6 c6,(by rw[HOL.o];rfl),by rw[HOL.o];exact L4.o⟩⟩
theorem GR (z0 z1:Int)(w:World):
 Calls Tryz.prog 65 #[.agg #[.int .i64 z0,.int .i64 z1]] w fun e w'=>e=.returned (.agg #[.int .i64 z0,.int .i64 z1])∧Below w.heap.size w w':=by
 go_enter Tryz.func65,Tryz.ntmps65
 go_wp2
 refine bodyPost_ret (v:=.agg #[.int .i64 z0,.int .i64 z1]) (by simp[results,Tryz.results65,go_sem]) rfl ⟨rfl,?_⟩;exact qz
theorem GV (A:OA)(n c L:Nat)(w:World)(hn:n≤maxLen)(hL:L≤1048576):
 Calls Tryz.prog 7 #[.slice A n c,.int .i64 L] w fun e w'=>∃r:Int,(r<0∨(n≤L∧r=L-n))∧e=.returned (.int .i64 r)∧w=w':=by
 unfold maxLen at hn
 by_cases hle:n≤L
 ·go_enter Tryz.func7,Tryz.ntmps7
  go_wp2
  go_ret
  exact⟨(L:Int)-n,.inr ⟨hle,rfl⟩,rfl,rfl⟩
 ·go_enter Tryz.func7,Tryz.ntmps7
  go_wp2
  go_ret
  exact⟨-1,.inl qo,rfl,rfl⟩
theorem Qq (z0 z1 z2 z3 z4 z5 z6 z7:Int)(w:World):
 Calls Tryz.prog 35 #[.agg #[.int .i64 z0,.int .i64 z1,.int .i64 z2,.int .i64 z3,.int .i64 z4,.int .i64 z5,.int .i64 z6,.int .i64 z7]] w fun e w'=>e=.returned (.agg #[.int .i64 z0,.int .i64 z1,.int .i64 z2,.int .i64 z3,.int .i64 z4,.int .i64 z5,.int .i64 z6,.int .i64 z7])∧Below w.heap.size w w':=by
 go_enter Tryz.func35,Tryz.ntmps35
 go_wp2_with fail
 refine(GR z2 z3 _).mono ?_;rintro e w1 ⟨rfl,hb1⟩;have A1:=qh (aB.below (((aB.at_ w 75 #[.int .i64 z0,.int .i64 z1,.int .i64 z2,.int .i64 z3,.int .i64 z4,.int .i64 z5,.int .i64 z6,.int .i64 z7] rfl).alloc _).alloc _) hb1 (by first|(simp;done)|(simp;omega)|omega));have B1:=qh (aB.below ((aB.at_ (g':=w.heap.size+1) _ 67 #[.int .i64 0,.int .i64 0,.int .i64 0,.int .i64 0,.int .i64 0,.int .i64 0,.int .i64 0,.int .i64 0] qj).alloc _) hb1 (by first|(simp;done)|(simp;omega)|omega));have C1:=qh (aB.below (aB.at_ (g':=w.heap.size+1+1) _ 67 #[.int .i64 z0,.int .i64 z1,.int .i64 0,.int .i64 0,.int .i64 0,.int .i64 0,.int .i64 0,.int .i64 0] qj) hb1 (by first|(simp;done)|(simp;omega)|omega));have hz1:w.heap.size+1+1<w1.heap.size:=blt hb1 qj;have HB1:=qh hb1;have x1:=fun o=>A1.out.cell o;have z1':=fun o=>C1.out.cell o;have z1f:=fun o=>C1.out.frozen o;clear hb1
 go_wp2_with fail
 refine(GR z4 z5 _).mono ?_;rintro e w2 ⟨rfl,hb2⟩;have A2:=qh (aB.below ((A1.out.far (p:=⟨w.heap.size+1+1,2,none⟩) (by simp;omega) _).far (p:=⟨w.heap.size+1+1,3,none⟩) (by simp;omega) _) hb2 (by first|(simp;done)|(simp;omega)|omega));have B2:=qh (aB.below ((B1.out.far (p:=⟨w.heap.size+1+1,2,none⟩) qj _).far (p:=⟨w.heap.size+1+1,3,none⟩) qj _) hb2 (by first|(simp;done)|(simp;omega)|omega));have C2:=qh (aB.below ((C1.out.bJ 2 _).bJ 3 _) hb2 (by first|(simp;done)|(simp;omega)|omega));have HB2:=qh hb2;have x2:=fun o=>A2.out.cell o;have y2f:=fun o=>B2.out.frozen o;have z2':=fun o=>C2.out.cell o;have z2f:=fun o=>C2.out.frozen o;have y2:=fun o=>B2.out.cell o;clear hb2 x1 z1' z1f
 go_wp2
 refine bodyPost_ret (v:=.agg #[.int .i64 z0,.int .i64 z1,.int .i64 z2,.int .i64 z3,.int .i64 z4,.int .i64 z5,.int .i64 z6,.int .i64 z7]) (by simp[results,Tryz.results35,go_sem,y2]) rfl ⟨rfl,?_⟩;have hb1:=HB1.o;have hb2:=HB2.o;exact qz
theorem aaZ:(Tryz.prog.info? 67).map (fun i=>(i.zero,i.size,i.bytes))=some (some (.agg #[.int .i64 0,.int .i64 0,.int .i64 0,.int .i64 0,.int .i64 0,.int .i64 0,.int .i64 0,.int .i64 0]),8,64):=by kernel_rfl
def afI (w:World)(n N:Nat)(f:Nat→Value)(e:Ending)(w':World):Prop:=∃A c,e=.returned (.slice A n c)∧n≤c∧New w w' A N f
theorem jY (A:OA)(n c:Nat)(z:Nat→Int)(w:World)(ha:Rd w A (n*8) (fun j=>.int .i64 (z j)))(hn:n≤1048576):
 Calls Tryz.prog 9 #[.slice A n c] w (afI w n (n*8) (fun j=>.int .i64 (z j))):=by
 have HA:=qh ha;clear ha;obtain⟨i0,hi,hz0,hz1,hz2⟩:=info_parts aaZ
 go_enter Tryz.func9,Tryz.ntmps9
 go_wp2_with (at_make;refine wpList_make_full _ rfl _ _ 28 rfl w.heap.size 67 i0 (.agg #[.int .i64 0,.int .i64 0,.int .i64 0,.int .i64 0,.int .i64 0,.int .i64 0,.int .i64 0,.int .i64 0]) 8 Tryz.underlying28 hi hz0 hz1 .i64 .i64 n n n rfl rfl rfl rfl (by rw[hz2];omega) qm ql ?_;intro w1 hown hg1)
 have hb1:=(Below.refl w.heap.size w).grown hg1 ql (fun k e=>by cases e);have hw1:=dS.kM hown;have hg1:w.heap.size<w1.heap.size:=(hown.lt _ rfl).2;have HB:=qh hb1;have HW:=qh hw1;clear hb1 hw1 hown
 go_loopw [4] (fun i wr=>∃k:Nat,k≤n∧i=.int .i64 k∧Below w.heap.size w wr∧w.heap.size<wr.heap.size∧dS wr w.heap.size 0 (n*8)∧bI wr w.heap.size 0 (k*8) (fun j=>.int .i64 (z j))) (fun i _=>n-(intOf i).toNat)
 case atStart=>exact⟨0,Nat.zero_le _,rfl,HB.o,hg1,HW.o,fun j hj=>absurd hj qo⟩
 case round=>
  obtain⟨k,hk,rfl,hb,hgr,hw,hr⟩:=hrel;have HB:=qh hb;have HW:=qh hw;have HR:=qh hr;clear hb hw hr
  by_cases hlt:k<n
  ·obtain⟨g,o,rfl,hg,hra⟩:=HA.o qo
   have hc0:=((aA HB.o).1 _ _ hg).trans (hra (k*8+0) qo);obtain⟨x0,hx0⟩:=qx (z (k*8))
   simp only[←hx0,Nat.add_zero]at hc0
   have HX0:=qh hx0;clear hx0;have hc1:=((aA HB.o).1 _ _ hg).trans (hra (k*8+1) qo);obtain⟨x1,hx1⟩:=qx (z (k*8+1))
   simp only[←hx1,←Nat.add_assoc]at hc1
   have dN:=qh hx1;clear hx1;have hc2:=((aA HB.o).1 _ _ hg).trans (hra (k*8+2) qo);obtain⟨x2,hx2⟩:=qx (z (k*8+2))
   simp only[←hx2,←Nat.add_assoc]at hc2
   have eI:=qh hx2;clear hx2;have hc3:=((aA HB.o).1 _ _ hg).trans (hra (k*8+3) qo);obtain⟨x3,hx3⟩:=qx (z (k*8+3))
   simp only[←hx3,←Nat.add_assoc]at hc3
   have CE:=qh hx3;clear hx3;have hc4:=((aA HB.o).1 _ _ hg).trans (hra (k*8+4) qo);obtain⟨x4,hx4⟩:=qx (z (k*8+4))
   simp only[←hx4,←Nat.add_assoc]at hc4
   have Om:=qh hx4;clear hx4;have oM:=((aA HB.o).1 _ _ hg).trans (hra (k*8+5) qo);obtain⟨x5,hx5⟩:=qx (z (k*8+5))
   simp only[←hx5,←Nat.add_assoc]at oM
   have Ol:=qh hx5;clear hx5;have hc6:=((aA HB.o).1 _ _ hg).trans (hra (k*8+6) qo);obtain⟨x6,hx6⟩:=qx (z (k*8+6))
   simp only[←hx6,←Nat.add_assoc]at hc6
   have IW:=qh hx6;clear hx6;have Yo:=((aA HB.o).1 _ _ hg).trans (hra (k*8+7) qo);obtain⟨x7,hx7⟩:=qx (z (k*8+7))
   simp only[←hx7,←Nat.add_assoc]at Yo
   have GA:=qh hx7;clear hx7;clear hra
   go_wp2_with fail
   refine(Qq x0 x1 x2 x3 x4 x5 x6 x7 _).mono ?_;rintro e w2 ⟨rfl,hb2⟩;have hw2:=HW.o.below (hb2.mono ql);have HR2:=qh (HR.o.below hgr hb2);have HB2:=HB.st hb2;have ahJ:w.heap.size<w2.heap.size:=blt hb2 hgr;obtain⟨⟨u0,hu0⟩,hf0⟩:=hw2 (k*8+0) qo
   simp only[Nat.zero_add,Nat.add_zero]at hu0 hf0
   obtain⟨⟨u1,hu1⟩,hf1⟩:=hw2 (k*8+1) qo
   simp only[Nat.zero_add]at hu1 hf1
   obtain⟨⟨u2,hu2⟩,hf2⟩:=hw2 (k*8+2) qo
   simp only[Nat.zero_add]at hu2 hf2
   obtain⟨⟨u3,hu3⟩,hf3⟩:=hw2 (k*8+3) qo
   simp only[Nat.zero_add]at hu3 hf3
   obtain⟨⟨u4,hu4⟩,fW⟩:=hw2 (k*8+4) qo
   simp only[Nat.zero_add]at hu4 fW
   obtain⟨⟨u5,tu⟩,rY⟩:=hw2 (k*8+5) qo
   simp only[Nat.zero_add]at tu rY
   obtain⟨⟨u6,hu6⟩,nG⟩:=hw2 (k*8+6) qo
   simp only[Nat.zero_add]at hu6 nG
   obtain⟨⟨u7,hu7⟩,wN⟩:=hw2 (k*8+7) qo
   simp only[Nat.zero_add]at hu7 wN
   have HW2:=qh hw2;clear hw2 hb2 hc0 hc1 hc2 hc3 hc4 oM hc6 Yo
   go_wp2
   go_roundw
   case rel=>
    refine⟨k+1,by omega,qg,by exact((((((((HB2.o.setCell ql _).setCell ql _).setCell ql _).setCell ql _).setCell ql _).setCell ql _).setCell ql _).setCell ql _),by simp[World.setCell];exact ahJ,by exact((((((((HW2.o.set _ _).set _ _).set _ _).set _ _).set _ _).set _ _).set _ _).set _ _),?_⟩;have h0:=HR2.o;have h1:=h0.step (a:=k*8+0) (u:=.int .i64 x0) (HW2.o) qo qo (by rw[HX0.o]);have h2:=h1.step (a:=k*8+1) (u:=.int .i64 x1) ((HW2.o.set _ _)) qo qo (by rw[dN.o]);have h3:=h2.step (a:=k*8+2) (u:=.int .i64 x2) (((HW2.o.set _ _).set _ _)) qo qo (by rw[eI.o]);have h4:=h3.step (a:=k*8+3) (u:=.int .i64 x3) ((((HW2.o.set _ _).set _ _).set _ _)) qo qo (by rw[CE.o]);have h5:=h4.step (a:=k*8+4) (u:=.int .i64 x4) (((((HW2.o.set _ _).set _ _).set _ _).set _ _)) qo qo (by rw[Om.o]);have h6:=h5.step (a:=k*8+5) (u:=.int .i64 x5) ((((((HW2.o.set _ _).set _ _).set _ _).set _ _).set _ _)) qo qo (by rw[Ol.o]);have h7:=h6.step (a:=k*8+6) (u:=.int .i64 x6) (((((((HW2.o.set _ _).set _ _).set _ _).set _ _).set _ _).set _ _)) qo qo (by rw[IW.o]);have h8:=h7.step (a:=k*8+7) (u:=.int .i64 x7) ((((((((HW2.o.set _ _).set _ _).set _ _).set _ _).set _ _).set _ _).set _ _)) qo qo (by rw[GA.o]);exact bI.cast qo h8
   case measure=>exact qs
  ·obtain rfl:k=n:=qo
   go_wp2
   go_ret
   exact⟨_,_,rfl,Nat.le_refl _,New.ab7 HB.o ql hgr HW.o HR.o⟩
theorem GQ (A:OA)(n c:Nat)(z:Nat→Int)(w:World)(ha:Rd w A (n*8) (fun j=>.int .i64 (z j)))(hn:n≤1048576):
 Calls Tryz.prog 9 #[.slice A n c] w (ahV w n (n*8) (fun j=>.int .i64 (z j))):=
 (jY A n c z w ha hn).mono fun _ _ ⟨A,c,he,_,hp⟩=>⟨A,c,he,hp⟩
theorem IP (x y:Int)(w:World):
 Calls Tryz.prog 71 #[.agg #[.int .i64 x,.int .i64 y],.agg #[.int .i64 x,.int .i64 y]] w fun e w'=>e=.returned (.bool true)∧Below w.heap.size w w':=by
 go_enter Tryz.func71,Tryz.ntmps71
 go_wp2
 go_ret
 exact⟨rfl,qz⟩
theorem Tk (z0 z1 z2 z3 z4 z5 z6 z7:Int)(w:World):
 Calls Tryz.prog 42 #[.agg #[.int .i64 z0,.int .i64 z1,.int .i64 z2,.int .i64 z3,.int .i64 z4,.int .i64 z5,.int .i64 z6,.int .i64 z7],.agg #[.int .i64 z0,.int .i64 z1,.int .i64 z2,.int .i64 z3,.int .i64 z4,.int .i64 z5,.int .i64 z6,.int .i64 z7]] w fun e w'=>e=.returned (.bool true)∧Below w.heap.size w w':=by
 go_enter Tryz.func42,Tryz.ntmps42
 have hL:Below w.heap.size w ((w.alloc (.cells #[.int .i64 z0,.int .i64 z1,.int .i64 z2,.int .i64 z3,.int .i64 z4,.int .i64 z5,.int .i64 z6,.int .i64 z7] 67)).alloc (.cells #[.int .i64 z0,.int .i64 z1,.int .i64 z2,.int .i64 z3,.int .i64 z4,.int .i64 z5,.int .i64 z6,.int .i64 z7] 67)):=(qb).alloc qj _;have HL:=qh hL;have X:=qh (vJ w #[.int .i64 z0,.int .i64 z1,.int .i64 z2,.int .i64 z3,.int .i64 z4,.int .i64 z5,.int .i64 z6,.int .i64 z7] 67);clear hL
 go_wp2_with fail
 refine(IP z2 z3 _).mono ?_;rintro e w1 ⟨rfl,hb1⟩;have x1:∀o,w1.cell? ⟨w.heap.size,o,none⟩=(#[.int .i64 z0,.int .i64 z1,.int .i64 z2,.int .i64 z3,.int .i64 z4,.int .i64 z5,.int .i64 z6,.int .i64 z7]:Array Value)[o]?:=(R7 _ _ qj).below ((R7 w.heap.size #[.int .i64 z0,.int .i64 z1,.int .i64 z2,.int .i64 z3,.int .i64 z4,.int .i64 z5,.int .i64 z6,.int .i64 z7] qj).below X.out (qb)) hb1;have y1:∀o,w1.cell? ⟨w.heap.size+1,o,none⟩=(#[.int .i64 z0,.int .i64 z1,.int .i64 z2,.int .i64 z3,.int .i64 z4,.int .i64 z5,.int .i64 z6,.int .i64 z7]:Array Value)[o]?:=fun o=>((aA hb1).1 (w.heap.size+1) o qj).trans (rH qj o);have hz1:w.heap.size+1<w1.heap.size:=blt hb1 qj;have X1:=qh x1;have Y1:=qh y1;have HB1:=HL.st hb1;clear hb1
 go_wp2_with fail
 refine(IP z4 z5 _).mono ?_;rintro e w2 ⟨rfl,hb2⟩;have x2:=fun o=>((aA hb2).1 w.heap.size o qo).trans (X1.out o);have y2:=fun o=>((aA hb2).1 (w.heap.size+1) o qo).trans (Y1.out o);have HB2:=HB1.st hb2;clear hb2 x1 y1
 go_wp2_with fail
 go_ret
 exact⟨rfl,HB2.o⟩
theorem IN (A A':OA)(n c c':Nat)(z:Nat→Int)(w:World)(ha:Rd w A (n*8) (fun j=>.int .i64 (z j)))(hb:Rd w A' (n*8) (fun j=>.int .i64 (z j)))(hn:n≤1000000000):
 Calls Tryz.prog 12 #[.slice A n c,.slice A' n c'] w fun e w'=>e=.returned (.bool true)∧Below w.heap.size w w':=by
 have HA:=qh ha;have HB:=qh hb;clear ha hb
 go_enter Tryz.func12,Tryz.ntmps12
 go_wp2
 go_loopw [5] (fun i wr=>∃k:Nat,k≤n∧i=.int .i64 k∧Below w.heap.size w wr) (fun i _=>n-(intOf i).toNat)
 case atStart=>exact⟨0,Nat.zero_le _,rfl,Below.refl _ _⟩
 case round=>
  obtain⟨k,hk,rfl,hbl⟩:=hrel;have HL:=qh hbl;clear hbl
  by_cases hlt:k<n
  ·obtain⟨g,o,rfl,hg,hc⟩:=HA.o qo
   obtain⟨g',o',rfl,hg',hc'⟩:=HB.o qo;have a0:=((aA HL.o).1 g _ hg).trans (hc (k*8+0) qo);have b0:=((aA HL.o).1 g' _ hg').trans (hc' (k*8+0) qo);have a1:=((aA HL.o).1 g _ hg).trans (hc (k*8+1) qo);have b1:=((aA HL.o).1 g' _ hg').trans (hc' (k*8+1) qo);have a2:=((aA HL.o).1 g _ hg).trans (hc (k*8+2) qo);have b2:=((aA HL.o).1 g' _ hg').trans (hc' (k*8+2) qo);have a3:=((aA HL.o).1 g _ hg).trans (hc (k*8+3) qo);have b3:=((aA HL.o).1 g' _ hg').trans (hc' (k*8+3) qo);have a4:=((aA HL.o).1 g _ hg).trans (hc (k*8+4) qo);have b4:=((aA HL.o).1 g' _ hg').trans (hc' (k*8+4) qo);have a5:=((aA HL.o).1 g _ hg).trans (hc (k*8+5) qo);have b5:=((aA HL.o).1 g' _ hg').trans (hc' (k*8+5) qo);have a6:=((aA HL.o).1 g _ hg).trans (hc (k*8+6) qo);have b6:=((aA HL.o).1 g' _ hg').trans (hc' (k*8+6) qo);have a7:=((aA HL.o).1 g _ hg).trans (hc (k*8+7) qo);have b7:=((aA HL.o).1 g' _ hg').trans (hc' (k*8+7) qo)
   simp only[←Nat.add_assoc]at a0 b0 a1 b1 a2 b2 a3 b3 a4 b4 a5 b5 a6 b6 a7 b7
   obtain⟨y0,hy0⟩:=qx (z (k*8+0));obtain⟨y1,hy1⟩:=qx (z (k*8+1));obtain⟨y2,hy2⟩:=qx (z (k*8+2));obtain⟨y3,hy3⟩:=qx (z (k*8+3));obtain⟨y4,hy4⟩:=qx (z (k*8+4));obtain⟨y5,KM⟩:=qx (z (k*8+5));obtain⟨y6,hy6⟩:=qx (z (k*8+6));obtain⟨y7,hy7⟩:=qx (z (k*8+7))
   simp only[Nat.add_zero]at a0 b0 hy0
   simp only[←hy0,←hy1,←hy2,←hy3,←hy4,←KM,←hy6,←hy7]at a0 b0 a1 b1 a2 b2 a3 b3 a4 b4 a5 b5 a6 b6 a7 b7
   clear hy0 hy1 hy2 hy3 hy4 KM hy6 hy7 hc hc';have hgr:g<wr.heap.size:=blt HL.o hg;have Eh:g'<wr.heap.size:=blt HL.o hg'
   go_wp2
   go_region_held3 (fun w'=>w'.cell? ⟨g,o+k*8,none⟩=some (.int .i64 y0)∧w'.cell? ⟨g',o'+k*8,none⟩=some (.int .i64 y0)∧w'.cell? ⟨g,o+k*8+1,none⟩=some (.int .i64 y1)∧w'.cell? ⟨g',o'+k*8+1,none⟩=some (.int .i64 y1)∧w'.cell? ⟨g,o+k*8+2,none⟩=some (.int .i64 y2)∧w'.cell? ⟨g',o'+k*8+2,none⟩=some (.int .i64 y2)∧w'.cell? ⟨g,o+k*8+3,none⟩=some (.int .i64 y3)∧w'.cell? ⟨g',o'+k*8+3,none⟩=some (.int .i64 y3)∧w'.cell? ⟨g,o+k*8+4,none⟩=some (.int .i64 y4)∧w'.cell? ⟨g',o'+k*8+4,none⟩=some (.int .i64 y4)∧w'.cell? ⟨g,o+k*8+5,none⟩=some (.int .i64 y5)∧w'.cell? ⟨g',o'+k*8+5,none⟩=some (.int .i64 y5)∧w'.cell? ⟨g,o+k*8+6,none⟩=some (.int .i64 y6)∧w'.cell? ⟨g',o'+k*8+6,none⟩=some (.int .i64 y6)∧w'.cell? ⟨g,o+k*8+7,none⟩=some (.int .i64 y7)∧w'.cell? ⟨g',o'+k*8+7,none⟩=some (.int .i64 y7)) (go_keep) (first|(go_at_call 42;refine(Tk y0 y1 y2 y3 y4 y5 y6 y7 _).mono ?_;rintro e w1 ⟨rfl,hb1⟩;have hk1:=fun x=>(aA hb1).1 g x (by simpa using hgr);have hk2:=fun x=>(aA hb1).1 g' x (by simpa using Eh)))
   go_wp2
   go_roundw
   case rel=>exact⟨k+1,by omega,qg,(Below.drewN' HL.o 1).trans (hb1.mono HL.o.size)⟩
   case measure=>exact qs
  ·obtain rfl:k=n:=qo
   go_wp2
   go_ret
   exact⟨rfl,HL.o⟩
theorem KI (A:OA)(n c:Nat)(k:Int)(w:World)(h:Wr w A (n*8))(hn:n≤1000000000)(h0:0≤k)(hk:k≤2000000000):
 Calls Tryz.prog 16 #[.slice A n c,.int .i64 k] w (q8 w A (n*8) (k+n*8) (fun j=>.int .i64 (k+j))):=by
 by_cases hz:n=0
 ·subst hz
  go_enter Tryz.func16,Tryz.ntmps16
  go_wp2
  go_loop [1,5] (fun kk i=>kk=.int .i64 k∧i=.int .i64 0) (fun _ _=>0)
  case atStart=>exact⟨rfl,rfl⟩
  case round=>
   obtain⟨rfl,rfl⟩:=hrel
   go_wp2
   go_ret
   exact⟨QF qj,Nat.le_refl _,fun _=>rfl,fun _ _ _ h=>absurd h qo⟩
 ·obtain⟨g,o,rfl,hw⟩:=h qo
  clear h;have hg:=hw.lt qo;have HW:=qh hw;clear hw
  go_enter Tryz.func16,Tryz.ntmps16
  go_wp2
  go_loopw [1,5] (fun kk i wr=>∃q:Nat,q≤n∧i=.int .i64 q∧kk=.int .i64 (k+q*8)∧g<wr.heap.size∧Only w wr g∧dS wr g o (n*8)∧bI wr g o (q*8) (fun j=>.int .i64 (k+j))) (fun _ i _=>n-(intOf i).toNat)
  case atStart=>exact⟨0,Nat.zero_le _,rfl,by simp,hg,Only.refl _ _,HW.o,fun j hj=>absurd hj qo⟩
  case round=>
   obtain⟨q,hq,rfl,rfl,hgr,ho,hw,hr⟩:=hrel;have HO:=qh ho;have l7:=qh hw;have HR:=qh hr;clear ho hw hr
   by_cases hlt:q<n
   ·obtain⟨⟨u100,hu0⟩,hf0⟩:=l7.o (q*8+0) qo
    obtain⟨⟨u101,hu1⟩,hf1⟩:=l7.o (q*8+1) qo;obtain⟨⟨u102,hu2⟩,hf2⟩:=l7.o (q*8+2) qo;obtain⟨⟨u103,hu3⟩,hf3⟩:=l7.o (q*8+3) qo;obtain⟨⟨u104,hu4⟩,fW⟩:=l7.o (q*8+4) qo;obtain⟨⟨u105,tu⟩,rY⟩:=l7.o (q*8+5) qo;obtain⟨⟨u106,hu6⟩,nG⟩:=l7.o (q*8+6) qo;obtain⟨⟨u107,hu7⟩,wN⟩:=l7.o (q*8+7) qo
    simp only[←Nat.add_assoc,Nat.add_zero]at hu0 hf0 hu1 hf1 hu2 hf2 hu3 hf3 hu4 fW tu rY hu6 nG hu7 wN
    go_wp2
    go_roundw
    case rel=>
     refine⟨q+1,by omega,qg,qg,by simp;exact hgr,((((((((HO.o.set _ _).set _ _).set _ _).set _ _).set _ _).set _ _).set _ _).set _ _),((((((((l7.o.set _ _).set _ _).set _ _).set _ _).set _ _).set _ _).set _ _).set _ _),?_⟩;have r0:=bI.step (m:=q*8) (a:=o+q*8) (u:=.int .i64 (k+q*8)) HR.o l7.o qo qo (by simp only[Value.int.injEq,true_and];omega);have r1:=bI.step (m:=q*8+1) (a:=o+q*8+1) (u:=.int .i64 (k+q*8+1)) r0 (l7.o.set ⟨g,o+q*8,none⟩ (.int .i64 (k+q*8))) qo qo (by simp only[Value.int.injEq,true_and];omega);have r2:=bI.step (m:=q*8+2) (a:=o+q*8+2) (u:=.int .i64 (k+q*8+1+1)) r1 ((l7.o.set ⟨g,o+q*8,none⟩ (.int .i64 (k+q*8))).set ⟨g,o+q*8+1,none⟩ (.int .i64 (k+q*8+1))) qo qo (by simp only[Value.int.injEq,true_and];omega);have r3:=bI.step (m:=q*8+3) (a:=o+q*8+3) (u:=.int .i64 (k+q*8+1+1+1)) r2 (((l7.o.set ⟨g,o+q*8,none⟩ (.int .i64 (k+q*8))).set ⟨g,o+q*8+1,none⟩ (.int .i64 (k+q*8+1))).set ⟨g,o+q*8+2,none⟩ (.int .i64 (k+q*8+1+1))) qo qo (by simp only[Value.int.injEq,true_and];omega);have r4:=bI.step (m:=q*8+4) (a:=o+q*8+4) (u:=.int .i64 (k+q*8+1+1+1+1)) r3 ((((l7.o.set ⟨g,o+q*8,none⟩ (.int .i64 (k+q*8))).set ⟨g,o+q*8+1,none⟩ (.int .i64 (k+q*8+1))).set ⟨g,o+q*8+2,none⟩ (.int .i64 (k+q*8+1+1))).set ⟨g,o+q*8+3,none⟩ (.int .i64 (k+q*8+1+1+1))) qo qo (by simp only[Value.int.injEq,true_and];omega);have r5:=bI.step (m:=q*8+5) (a:=o+q*8+5) (u:=.int .i64 (k+q*8+1+1+1+1+1)) r4 (((((l7.o.set ⟨g,o+q*8,none⟩ (.int .i64 (k+q*8))).set ⟨g,o+q*8+1,none⟩ (.int .i64 (k+q*8+1))).set ⟨g,o+q*8+2,none⟩ (.int .i64 (k+q*8+1+1))).set ⟨g,o+q*8+3,none⟩ (.int .i64 (k+q*8+1+1+1))).set ⟨g,o+q*8+4,none⟩ (.int .i64 (k+q*8+1+1+1+1))) qo qo (by simp only[Value.int.injEq,true_and];omega);have r6:=bI.step (m:=q*8+6) (a:=o+q*8+6) (u:=.int .i64 (k+q*8+1+1+1+1+1+1)) r5 ((((((l7.o.set ⟨g,o+q*8,none⟩ (.int .i64 (k+q*8))).set ⟨g,o+q*8+1,none⟩ (.int .i64 (k+q*8+1))).set ⟨g,o+q*8+2,none⟩ (.int .i64 (k+q*8+1+1))).set ⟨g,o+q*8+3,none⟩ (.int .i64 (k+q*8+1+1+1))).set ⟨g,o+q*8+4,none⟩ (.int .i64 (k+q*8+1+1+1+1))).set ⟨g,o+q*8+5,none⟩ (.int .i64 (k+q*8+1+1+1+1+1))) qo qo (by simp only[Value.int.injEq,true_and];omega);have r7:=bI.step (m:=q*8+7) (a:=o+q*8+7) (u:=.int .i64 (k+q*8+1+1+1+1+1+1+1)) r6 (((((((l7.o.set ⟨g,o+q*8,none⟩ (.int .i64 (k+q*8))).set ⟨g,o+q*8+1,none⟩ (.int .i64 (k+q*8+1))).set ⟨g,o+q*8+2,none⟩ (.int .i64 (k+q*8+1+1))).set ⟨g,o+q*8+3,none⟩ (.int .i64 (k+q*8+1+1+1))).set ⟨g,o+q*8+4,none⟩ (.int .i64 (k+q*8+1+1+1+1))).set ⟨g,o+q*8+5,none⟩ (.int .i64 (k+q*8+1+1+1+1+1))).set ⟨g,o+q*8+6,none⟩ (.int .i64 (k+q*8+1+1+1+1+1+1))) qo qo (by simp only[Value.int.injEq,true_and];omega);exact bI.cast qo r7
    case measure=>exact qs
   ·obtain rfl:q=n:=qo
    go_wp2
    go_ret
    exact⟨rfl,HO.o.size,fun h=>absurd h qo,fun g' o' e _=>by injection e with e;injection e with e1 e2;subst e1 e2;exact⟨HO.o,l7.o,HR.o⟩⟩
end Go.Proofs.YtdnmhhohcedjbaaGreat
namespace Go.Proofs.YtdnmhhohcedjbaaGreat
open Go.RowKit Go.WideShapes Go.ChangeShapes Go.Deep Go.Joins Go.ChangeAt
theorem own:ownKnob Tryz.prog.godebug=none:=by kernel_rfl
theorem laidOut:laidOutB Tryz.prog=true:=by kernel_rfl
theorem GO {H:Type}{enc:TypeId×Value→H}{P:Program}(hl:laidOutB P=true){W W':World}(hb:Below W.heap.size W W'):
 ∀(ts:List TypeId) (vs:List Value) (ds:List (DataW H)) (ps:List MemPlace),(∀t∈ts,P.readableRec t=true∧t<P.types.size)→(∀x∈ps,x.block<W.heap.size)→
  DataW.TrodAll enc P W 0 (fun _=>true) true ts vs ds ps→DataW.TrodAll enc P W' 0 (fun b=>decide (b<W.heap.size)) true ts vs ds ps
 |[],vs,ds,ps,_,_,h=>by
  obtain⟨rfl,rfl,rfl⟩:=trodAll_nil h;exact trodAll_mk0
 |t::ts,vs,ds,ps,ht,hlt,h=>by
  obtain⟨v,vs',d,ds',p,q,rfl,rfl,rfl,h0,h1⟩:=trodAll_cons h;exact trodAll_cons_mk (Below.trod hl (ht t (by simp)).1 (ht t (by simp)).2 h0 hb (fun x hx=>hlt x (by simp[hx])))
   (GO hl hb ts vs' ds' q (fun u hu=>ht u (by simp[hu])) (fun x hx=>hlt x (by simp[hx])) h1)
theorem LS {H:Type}{enc:TypeId×Value→H}{P:Program}(hl:laidOutB P=true){f:Func}{s:ChangeSpec}{W W':World}{args:Array Value}{ds:List (DataW H)}{before:List MemPlace}{tb:TypeId}
 (hv:s.vars=[]) (hfn:s.fn H (ds++[])={results:=[.lit (.bool true)],args:=ds}) (hrt:f.resultTypes=#[tb]) (htb:P.underlying tb=some .bool)
 (hread:∀t∈f.params.toList,P.readableRec t=true∧t<P.types.size)
 (hW:DataW.Whole enc P f.params.toList s.vars false W args.toList ds [] before) (hb:Below W.heap.size W W'):
 ∃v,Ending.returned (.bool true)=.returned v∧s.post enc P f false true false false W args v W':=by
 have hlt:∀p∈before,p.block<W.heap.size:=fun p hp=>hW.lt p hp;have hW':=hW;obtain⟨p,q,hA,hV,rfl,hfz,hnd⟩:=hW';rw[hv]at hV;obtain⟨_,rfl⟩:=trodVars_none hV;refine⟨_,rfl,ds,[],_,[],p,[],hW,?_,?_,?_,hb.frame _,fun h=>by cases h⟩
 ·rw[hfn,hrt]
  exact trodAll_mk1 (shut_bool htb _)
 ·rw[hfn]
  exact GO hl hb _ _ _ _ hread (fun x hx=>hlt x (by simp[hx])) hA
 ·rw[hfn,hv]
  rfl
section
variable {H:Type}{enc:TypeId×Value→H}{P:Program}{w:World}{base:Nat}{spare:Nat→Bool}{held:Bool}
end
section
variable {H:Type}{enc:TypeId×Value→H}{P:Program}{w:World}{base:Nat}{spare:Nat→Bool}{held:Bool}
theorem Ci {r:Reach}{b0:Nat}{t:TypeId}{f0 f1:Field}{v:Value}{d:DataW H}{p:List MemPlace}(hs:P.underlying t=some (.struct #[f0,f1]))(hone:oneCellFields P #[f0,f1]=true)(hC:P.cellsOf t=2)
 (hv:Value.okWide P w r b0 t v) (h:DataW.Trod enc P w base spare held t v d p):
 ∃(v0 v1:Value) (y0 y1:DataW H×List MemPlace) (n:Nat),v=.agg #[v0,v1]∧d=.agg [y0.1,y1.1]∧p=y0.2++y1.2∧
  DataW.trod enc P w base spare held n f0.type [v0]=some y0∧DataW.trod enc P w base spare held n f1.type [v1]=some y1:=by
 obtain⟨cs,rfl,hsz⟩:=okWide_struct hs hv;obtain⟨l⟩:=cs
 match l,hsz.trans hC with
 |[c0,c1],_=>
  obtain⟨fuel,hf⟩:=h;obtain⟨xs,n,_,hx,_,hlen,hg⟩:=DataW.trod_struct hs hf;obtain⟨o0,k0⟩:=hone_of hone 0 f0 rfl;obtain⟨o1,k1⟩:=hone_of hone 1 f1 rfl
  match xs,hlen with
  |[y0,y1],_=>
   simp only[Prod.mk.injEq]at hx
   exact⟨c0,c1,y0,y1,n,rfl,by simpa using hx.1,by simpa using hx.2,by simpa [Value.cells,o0,k0]using hg 0 f0 rfl,by simpa [Value.cells,o1,k1]using hg 1 f1 rfl⟩
end
theorem Ia {w:World}{a:Addr}{v:Value}(h:w.cell? a=some v):∃g o,a=⟨g,o,none⟩:=by
 obtain⟨g,o,sp⟩:=a;obtain rfl:sp=none:=by simpa using World.cell?_spot h
 exact⟨g,o,rfl⟩
end Go.Proofs.YtdnmhhohcedjbaaGreat
namespace Go.Proofs.YtdnmhhohcedjbaaGreat
open Go.RowKit Go.WideShapes Go.ChangeShapes Go.Deep Go.Joins Go.ChangeAt
variable {H:Type}{enc:TypeId×Value→H}{P:Program}{W:World}{spare:Nat→Bool}{held:Bool}
theorem aaG {e en:TypeId}{f0 f1 f2 f3 f4 f5 g0 g1:Field}{m:Nat}{cs:List Value}{x:DataW H×List MemPlace}(he:P.underlying e=some (.struct #[f0,f1,f2,f3,f4,f5]))(hC:P.cellsOf e=8)
 (ho:[f0.offset,f1.offset,f2.offset,f3.offset,f4.offset,f5.offset]=[0,1,2,4,6,7]) (hk:[P.cellsOf f0.type,P.cellsOf f1.type,P.cellsOf en,P.cellsOf f4.type,P.cellsOf f5.type]=[1,1,2,1,1])
 (h0:P.underlying f0.type=some (.int .i64)) (h1:P.underlying f1.type=some (.int .i64)) (h2:f2.type=en) (h3:f3.type=en) (h4:P.underlying f4.type=some (.int .i64)) (h5:P.underlying f5.type=some (.int .i64))
 (hn:P.underlying en=some (.struct #[g0,g1])) (hon:oneCellFields P #[g0,g1]=true) (hg0:P.underlying g0.type=some (.int .i64)) (hg1:P.underlying g1.type=some (.int .i64))
 (h:DataW.trod enc P W 0 spare held m e cs=some x):
 ∃z0 z1 z2 z3 z4 z5 z6 z7:Int,cs=[.int .i64 z0,.int .i64 z1,.int .i64 z2,.int .i64 z3,.int .i64 z4,.int .i64 z5,.int .i64 z6,.int .i64 z7]:=by
 obtain⟨xs,n,_,_,hcl,hxl,hf⟩:=DataW.trod_struct he h
 simp only[List.cons.injEq,and_true]at ho hk
 obtain⟨o0,o1,o2,o3,o4,o5⟩:=ho;obtain⟨k0,k1,k2,k4,k5⟩:=hk;obtain⟨p0,q0⟩:=hone_of hon 0 g0 rfl;obtain⟨p1,q1⟩:=hone_of hon 1 g1 rfl
 match cs,hcl.trans hC,xs,hxl with
 |[c0,c1,c2,c3,c4,c5,c6,c7],_,[y0,y1,y2,y3,y4,y5],_=>
  have t0:=hf 0 f0 rfl;have t1:=hf 1 f1 rfl;have t2:=hf 2 f2 rfl;have t3:=hf 3 f3 rfl;have t4:=hf 4 f4 rfl;have t5:=hf 5 f5 rfl;rw[o0,k0]at t0;rw[o1,k1]at t1;rw[o2,h2,k2]at t2;rw[o3,h3,k2]at t3;rw[o4,k4]at t4;rw[o5,k5]at t5;obtain⟨u0,u1,n2,_,_,s0,s1⟩:=trod_struct2 hn (show DataW.trod enc P W 0 spare held n en [c2,c3]=some y2 from t2);obtain⟨v0,v1,n3,_,_,r0,r1⟩:=trod_struct2 hn (show DataW.trod enc P W 0 spare held n en [c4,c5]=some y3 from t3);rw[p0,q0]at s0 r0;rw[p1,q1]at s1 r1;obtain⟨z0,e0,_,_⟩:=DataW.trod_int h0 (show DataW.trod enc P W 0 spare held n f0.type [c0]=some y0 from t0);obtain⟨z1,e1,_,_⟩:=DataW.trod_int h1 (show DataW.trod enc P W 0 spare held n f1.type [c1]=some y1 from t1);obtain⟨z2,e2,_,_⟩:=DataW.trod_int hg0 (show DataW.trod enc P W 0 spare held n2 g0.type [c2]=some u0 from s0);obtain⟨z3,e3,_,_⟩:=DataW.trod_int hg1 (show DataW.trod enc P W 0 spare held n2 g1.type [c3]=some u1 from s1);obtain⟨z4,e4,_,_⟩:=DataW.trod_int hg0 (show DataW.trod enc P W 0 spare held n3 g0.type [c4]=some v0 from r0);obtain⟨z5,e5,_,_⟩:=DataW.trod_int hg1 (show DataW.trod enc P W 0 spare held n3 g1.type [c5]=some v1 from r1);obtain⟨z6,e6,_,_⟩:=DataW.trod_int h4 (show DataW.trod enc P W 0 spare held n f4.type [c6]=some y4 from t4);obtain⟨z7,e7,_,_⟩:=DataW.trod_int h5 (show DataW.trod enc P W 0 spare held n f5.type [c7]=some y5 from t5)
  simp at e0 e1 e2 e3 e4 e5 e6 e7
  subst e0 e1 e2 e3 e4 e5 e6 e7;exact⟨z0,z1,z2,z3,z4,z5,z6,z7,rfl⟩
theorem iw {t e en:TypeId}{f0 f1 f2 f3 f4 f5 g0 g1:Field}{fuel:Nat}{u:Value}{x:DataW H×List MemPlace}(ht:P.underlying t=some (.slice e))(he:P.underlying e=some (.struct #[f0,f1,f2,f3,f4,f5]))(hC:P.cellsOf e=8)
 (ho:[f0.offset,f1.offset,f2.offset,f3.offset,f4.offset,f5.offset]=[0,1,2,4,6,7]) (hk:[P.cellsOf f0.type,P.cellsOf f1.type,P.cellsOf en,P.cellsOf f4.type,P.cellsOf f5.type]=[1,1,2,1,1])
 (h0:P.underlying f0.type=some (.int .i64)) (h1:P.underlying f1.type=some (.int .i64)) (h2:f2.type=en) (h3:f3.type=en) (h4:P.underlying f4.type=some (.int .i64)) (h5:P.underlying f5.type=some (.int .i64))
 (hn:P.underlying en=some (.struct #[g0,g1])) (hon:oneCellFields P #[g0,g1]=true) (hg0:P.underlying g0.type=some (.int .i64)) (hg1:P.underlying g1.type=some (.int .i64))
 (hf:DataW.trod enc P W 0 spare held fuel t [u]=some x):
 ∃(A:OA) (n q:Nat) (z:Nat→Int),u=.slice A n q∧Rd W A (n*8) (fun j=>.int .i64 (z j))∧n≤maxLen:=by
 rcases open_slice ht hf with⟨hcs,_⟩|⟨a,len,cap,m,k,D,Pl,hcs,_,hl,hm,hmm,_,hel⟩
 ·simp at hcs
  subst hcs;exact⟨none,0,0,fun _=>0,rfl,fun h=>absurd h qo,by simp⟩
 ·simp at hcs
  subst hcs;have hle:len≤m:=by rw[hmm];split<;>omega
  have hall:∀q,∃z:Int,q<len*8→W.cell? (a.add q)=some (.int .i64 z):=by
   intro q
   by_cases hq:q<len*8
   ·obtain⟨cs',hcells,htr⟩:=hel (q/8) qo
    obtain⟨z0,z1,z2,z3,z4,z5,z6,z7,rfl⟩:=aaG he hC ho hk h0 h1 h2 h3 h4 h5 hn hon hg0 hg1 htr;rw[hC]at hcells;obtain⟨_,_,hat⟩:=World.cells?_some hcells;have:=hat (q%8) qo;rw[Go.Deep.add_add,show q/8*8+q%8=q by omega]at this;rw[this]
    rcases(show q%8=0∨q%8=1∨q%8=2∨q%8=3∨q%8=4∨q%8=5∨q%8=6∨q%8=7 by omega)with h|h|h|h|h|h|h|h<;>rw[h]<;>exact⟨_,fun _=>rfl⟩
   ·exact⟨0,fun h=>absurd h hq⟩
  obtain⟨z,hz⟩:=Classical.axiomOfChoice hall;refine⟨some a,len,cap,z,rfl,fun hN=>?_,by omega⟩;have h00:=hz 0 qo;obtain⟨g,o,rfl⟩:∃g o,a=⟨g,o,none⟩:=by
   rw[show a.add 0=a by simp[Addr.add]]at h00;exact Ia h00
  refine⟨g,o,rfl,by simpa [Addr.add_lit]using World.block_lt_of_cell? W _ h00,fun q hq=>?_⟩;have:=hz q hq;rw[Addr.add_lit]at this;exact this
end Go.Proofs.YtdnmhhohcedjbaaGreat
namespace Go.Proofs.YtdnmhhohcedjbaaGreat
open Go.ChangeShapes Go.WideShapes Go.ChangeAt Go.RowKit Go.Deep Go.Joins
section
variable {H:Type}{enc:TypeId×Value→H}{P:Program}{W:World}{spare:Nat→Bool}{held:Bool}
theorem LV {r:Reach}{b0:Nat}{t e en:TypeId}{f0 f1 f2 f3 f4 f5 g0 g1:Field}{v:Value}{d:DataW H}{p:List MemPlace}(ht:P.underlying t=some (.slice e))(he:P.underlying e=some (.struct #[f0,f1,f2,f3,f4,f5]))(hC:P.cellsOf e=8)
 (ho:[f0.offset,f1.offset,f2.offset,f3.offset,f4.offset,f5.offset]=[0,1,2,4,6,7]) (hk:[P.cellsOf f0.type,P.cellsOf f1.type,P.cellsOf en,P.cellsOf f4.type,P.cellsOf f5.type]=[1,1,2,1,1])
 (h0:P.underlying f0.type=some (.int .i64)) (h1:P.underlying f1.type=some (.int .i64)) (h2:f2.type=en) (h3:f3.type=en) (h4:P.underlying f4.type=some (.int .i64)) (h5:P.underlying f5.type=some (.int .i64))
 (hn:P.underlying en=some (.struct #[g0,g1])) (hon:oneCellFields P #[g0,g1]=true) (hg0:P.underlying g0.type=some (.int .i64)) (hg1:P.underlying g1.type=some (.int .i64))
 (hv:Value.okWide P W r b0 t v) (h:DataW.Trod enc P W 0 spare held t v d p):
 ∃(A:OA) (n q:Nat) (z:Nat→Int),v=.slice A n q∧Rd W A (n*8) (fun j=>.int .i64 (z j))∧n≤maxLen:=by
 obtain⟨a0,aht,cap0,rfl⟩:=okWide_slice ht hv;obtain⟨fuel,hf⟩:=h;exact iw ht he hC ho hk h0 h1 h2 h3 h4 h5 hn hon hg0 hg1 (show DataW.trod enc P W 0 spare held fuel t [.slice a0 aht cap0]=some _ by simpa [Value.cells]using hf)
end
end Go.Proofs.YtdnmhhohcedjbaaGreat
