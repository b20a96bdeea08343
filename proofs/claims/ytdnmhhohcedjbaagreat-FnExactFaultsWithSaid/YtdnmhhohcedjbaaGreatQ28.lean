/- Walks and plain lemmas. -/
import Derived.Test.YtdnmhhohcedjbaaGreatQ19
import Derived.Test.YtdnmhhohcedjbaaGreatQ17
import Derived.Test.YtdnmhhohcedjbaaGreatQ22
set_option linter.unusedVariables false
set_option linter.unusedSimpArgs false
set_option maxHeartbeats 4000000
set_option maxRecDepth 20000
namespace Go.Proofs.YtdnmhhohcedjbaaGreat
open Go.RowKit
open Classical in
noncomputable def triv (n:Nat)(w:List Int):Bool:=decide (G.acts n (0,[]) w=(0,[]))
open Classical in
noncomputable def mP (n:Nat)(a b:List Int):Bool:=decide (G.acts n (0,[]) a=G.acts n (0,[]) b)
theorem V9 (n:Nat):triv n []=true:=by simp[triv,G.acts]
theorem BO (n:Nat)(w:List Int):mP n w []=triv n w:=rfl
def NW (z:Nat→Int)(k:Nat):Int:=z (k*6+2)*(z (k*6+1)+1)
def DD (z:Nat→Int):Nat→List Int
 |0=>[]
 |k+1=>if z (k*6)=1 then DD z k++[NW z k]else []
def kZ (z:Nat→Int):Nat→List Int
 |0=>[]
 |k+1=>if z (k*6)=1 then G.red (kZ z k++[NW z k])else []
theorem aap (z:Nat→Int)(k:Nat):G.red (DD z k)=kZ z k:=by
 induction k with
 |zero=>rfl
 |succ k ih=>
  simp only[DD,kZ]
  by_cases h:z (k*6)=1
  ·rw[if_pos h,if_pos h,←ih,G.Qy]
  ·rw[if_neg h,if_neg h]
   rfl
abbrev aV:=Int×List Int×List Int
def pF (z:Nat→Int)(k:Nat):List Int:=[z (k*6),z (k*6+1),z (k*6+2),z (k*6+3),z (k*6+4),z (k*6+5)]
def dV (o:List aV)(s:List Int):List aV:=match o.getLast? with
 |some b=>o.dropLast++[(b.1,b.2.1,b.2.2++s)]
 |none=>[]
def fZ (z:Nat→Int)(k:Nat):Int:=(cnt z 0 k).getD 0
noncomputable def flush (n:Int)(w:List Int)(o:List aV):Option (List aV):=if 40<w.length then none else if triv n.toNat w=true then some o else some (o++[(n,w,[])])
noncomputable def j8 (z:Nat→Int):Nat→Option (List aV)
 |0=>some [(0,[],[])]
 |k+1=>if z (k*6)=1 then j8 z k else(j8 z k).bind fun o=>(flush (fZ z k) (kZ z k) o).map fun o'=>dV o' (pF z k)
noncomputable def iI (z:Nat→Int)(n:Nat):Option (List aV):=((j8 z n).bind fun o=>flush (fZ z n) (kZ z n) o).bind fun o=>if o.length≤60 then some o else none
theorem C7 {n:Int}{w:List Int}{o o':List aV}(h:flush n w o=some o'):o.length≤o'.length∧o'.length≤o.length+1:=by
 unfold flush at h
 split at h
 ·cases h
 ·split at h
  ·injection h with h
   rw[←h];omega
  ·injection h with h
   rw[←h]
   simp
theorem cA (o:List aV)(s:List Int):(dV o s).length=o.length:=by
 unfold dV
 cases h:o.getLast? with
 |none=>
  have:=List.getLast?_eq_none_iff.1 h
  simp[this]
 |some b=>
  have:0<o.length:=List.length_pos_iff.2 fun e=>by rw[e]at h;cases h
  simp
  omega
theorem yw {z:Nat→Int}{k:Nat}{o:List aV}(h:j8 z k=some o):1≤o.length∧o.length≤k+1:=by
 induction k generalizing o with
 |zero=>injection h with h;rw[←h];simp
 |succ k ih=>
  simp only[j8]at h
  split at h
  ·have:=ih h
   omega
  ·cases hk:j8 z k with
   |none=>rw[hk]at h;cases h
   |some o1=>
    rw[hk]at h
    simp only[Option.bind_some]at h
    cases hf:flush (fZ z k) (kZ z k) o1 with
    |none=>rw[hf]at h;cases h
    |some o2=>
     rw[hf]at h;injection h with h;rw[←h,cA];have:=ih hk;have:=C7 hf;omega
theorem Y9 {z:Nat→Int}{j k:Nat}(hjk:j≤k){o:List aV}(h:j8 z k=some o):∃o1,j8 z j=some o1∧o1.length≤o.length:=by
 induction k generalizing o with
 |zero=>
  obtain rfl:j=0:=qo;exact⟨o,h,Nat.le_refl _⟩
 |succ k ih=>
  by_cases hj:j=k+1
  ·subst hj
   exact⟨o,h,Nat.le_refl _⟩
  ·simp only[j8]at h
   split at h
   ·exact ih qo h
   ·cases hk:j8 z k with
    |none=>rw[hk]at h;cases h
    |some o1=>
     rw[hk]at h
     simp only[Option.bind_some]at h
     cases hf:flush (fZ z k) (kZ z k) o1 with
     |none=>rw[hf]at h;cases h
     |some o2=>
      rw[hf]at h;injection h with h;obtain⟨o3,h3,h4⟩:=ih qo hk;refine⟨o3,h3,?_⟩;rw[←h,cA];have:=C7 hf;omega
theorem Ud {z:Nat→Int}{j k:Nat}(hjk:j≤k)(h:j8 z j=none):j8 z k=none:=by
 cases hk:j8 z k with
 |none=>rfl
 |some o=>
  obtain⟨o1,h1,_⟩:=Y9 hjk hk;rw[h]at h1
  cases h1
theorem YA {z:Nat→Int}{j n:Nat}(hj:j≤n)(h:j8 z j=none):iI z n=none:=by
 unfold iI;rw[Ud hj h]
 rfl
theorem Ue {z:Nat→Int}{j n:Nat}(hj:j≤n){o:List aV}(h:j8 z j=some o)(ho:60<o.length):iI z n=none:=by
 unfold iI
 cases hk:j8 z n with
 |none=>rfl
 |some o1=>
  obtain⟨o2,h2,h3⟩:=Y9 hj hk;rw[h]at h2;injection h2 with h2;subst h2
  simp only[Option.bind_some]
  cases hf:flush (fZ z n) (kZ z n) o1 with
  |none=>rfl
  |some o3=>
   have:=C7 hf
   simp only[Option.bind_some]
   rw[if_neg qo]
theorem C8 {p c b y d n:Int}(h:gJ 1 p c b y d n=true):0≤p∧p≤n-2∧(c=1∨c= -1):=by
 unfold gJ at h
 by_cases hp:p<0
 ·rw[if_pos hp]at h
  cases h
 ·rw[if_neg hp,if_pos rfl]at h
  simp only[Bool.and_eq_true,decide_eq_true_eq,Bool.or_eq_true]at h
  exact⟨by omega,h.1.1,h.1.2⟩
theorem zQ28x0 {p:Prop}(h:p:=by
 cases h2:cnt z 0 k with
 |none=>rw[rM z 0 qo h2]at hv;cases hv
 |some m=>exact⟨m,rfl⟩):p:=h
theorem ED {z:Nat→Int}{n:Nat}(hv:(cnt z 0 n).isSome=true){k:Nat}(hk:k≤n):G.Word (fZ z k).toNat (kZ z k):=by
 induction k with
 |zero=>intro x hx;cases hx
 |succ k ih=>
  have h1:=ih qo
  simp only[kZ]
  by_cases h:z (k*6)=1
  ·rw[if_pos h]
   obtain⟨m,hm⟩:∃m,cnt z 0 (k+1)=some m:=by
    cases h2:cnt z 0 (k+1)with
    |none=>rw[rM z 0 hk h2]at hv;cases hv
    |some m=>exact⟨m,rfl⟩
   obtain⟨m0,hm0⟩:∃m,cnt z 0 k=some m:=by
    exact zQ28x0
   have WR:gJ (z (k*6)) (z (k*6+1)) (z (k*6+2)) (z (k*6+3)) (z (k*6+4)) (z (k*6+5)) m0=true∧bD (z (k*6)) (z (k*6+2)) m0≤12:=Decidable.byContradiction fun hn=>by
    rw[F6 hm0 hn]at hm
    cases hm
   have hm2:=MR hm0 WR.1 WR.2;rw[hm]at hm2;injection hm2 with hm2;have hmm:m=m0:=by rw[hm2,h];simp[bD]
   have e1:fZ z (k+1)=m0:=by simp[fZ,hm,hmm]
   have e0:fZ z k=m0:=by simp[fZ,hm0]
   rw[e1];rw[e0]at h1;intro x hx
   rcases List.mem_append.1 (G.QG hx)with hx|hx
   ·exact h1 x hx
   ·rw[List.mem_singleton.1 hx]
    have h3:=WR.1;rw[h]at h3;obtain⟨h4,h5,h6⟩:=C8 h3;unfold NW
    rcases h6 with h6|h6
    ·rw[h6]
     omega
    ·rw[h6]
     omega
  ·rw[if_neg h]
   intro x hx
   cases hx
end Go.Proofs.YtdnmhhohcedjbaaGreat
namespace Go.Proofs.YtdnmhhohcedjbaaGreat
open Go.RowKit
theorem LH {n:Nat}{W:List Int}(h:G.Word n W):2≤n∨W=[]:=by
 rcases W with _|⟨x,W⟩
 ·exact .inr rfl
 ·have:=h x List.mem_cons_self
  left
  omega
theorem Ql {n:Nat}{W:List Int}(h:G.Word n W)(hn:n≤1000):FD W:=fun x hx=>by
 have:=h x hx;omega
theorem Qn {n:Nat}{V W:List Int}(h1:G.Word n V)(h2:G.Word n W):G.Word n (V++W):=fun x hx=>by
 rcases List.mem_append.1 hx with h|h
 ·exact h1 x h
 ·exact h2 x h
theorem Ig {n:Nat}{a b:List Int}(hb:G.Word n b){P:Int}{F:List (G.PM n)}(h:G.acts n (0,[]) (a++G.inv b)=(P,F)):mP n a b=(decide (P=0)&&decide (F.length=0)):=by
 have h1:=G.same_iff (a:=a) hb;rw[h]at h1;unfold mP;rw[Bool.eq_iff_iff]
 simp only[decide_eq_true_eq,Bool.and_eq_true,List.length_eq_zero_iff]
 rw[←h1]
 simp
theorem zK {n:Nat}(V W:List Int)(A B:OA)(c c':Nat)(w:World)(ha:cX w A V)(hb:cX w B W)(hn:n≤1000)(hv:G.Word n V)(hw:G.Word n W)(hlv:V.length≤10000)(wm:W.length≤10000):
 Calls Tryz.prog 106 #[.int .i64 n,.slice A V.length c,.slice B W.length c'] w fun e w'=>e=.returned (.bool (mP n V W))∧Below w.heap.size w w':=by
 obtain⟨i0,hi,iz,is,ib⟩:=info_parts info64;have HA:=qh ha;have dX:=qh hb;have HV:=qh hv;have HW:=qh hw;clear ha hb hv hw
 go_enter Tryz.func106,Tryz.ntmps106
 go_wp2_with fail
 refine(CW A c V w HA.o qo).mono ?_;rintro e w1 h1;obtain⟨A1,c1,rfl,ho1,_,hb1⟩:=h1.rd;have aO:=qh ho1;have HB1:=qh hb1;clear h1 ho1 hb1
 go_wp2_with fail
 refine(QU W B c' w1 (dX.o.below HB1.o) qo (Ql HW.o hn)).mono ?_;rintro e w2 h2;obtain⟨A2,c2,rfl,_,hr2,hb2⟩:=h2.rd;have aH:=qh (own_below aO.o hb2);have HB2:=HB1.st hb2;have HR2:=qh (show Rd w2 A2 W.length (fun j=>.int .i64 ((G.inv W).getD j 0))from by
  have h1:=hr2;unfold cX at h1;rwa[pY]at h1)
 have hil:=pY W;clear h2 hr2 hb2 aO HB1
 go_wp2_with (at_builtin;go_must (refine cW w2 rfl (.tmp 10) (.tmp 12) _ rfl w.heap.size 2 i0 _ 1 8 Tryz.underlying34 hi iz is ib rfl qo (.slice A1 V.length c1) V.length _ rfl aH.o A2 W.length c2 (fun j=>.int .i64 ((G.inv W).getD j 0)) rfl (by rw[Nat.mul_one];exact HR2.o) (fun j=>rfl) qm qo HB2.o.size ?_);intro v' w' hown' hfr;have HOWN':=qh hown';have iL:=qh hfr;clear hown' hfr)
 have HB3:=qh (HB2.o.trans (iL.o.own aH.o HB2.o.size));have bS:=qh (show w'.ownsRow w.heap.size 2 1 v' (V++G.inv W).length (ints (V++G.inv W))from by
  have ho:=HOWN'.o;rw[Nat.mul_one,zL (G.inv W) _ (pY W)]at ho;rw[List.length_append,pY,show ints (V++G.inv W)=ints V++ints (G.inv W)by simp[ints]];exact ho)
 obtain⟨A3,c3,rfl⟩:=aF bS.o;have HR3:=qh (iD bS.o);have wV:=qh (Qn HV.o (G.V5 HW.o));obtain⟨s,hs⟩:=qx (G.acts n (0,[]) (V++G.inv W));obtain⟨P,F⟩:=s;have IZ:=qh (Ig HW.o hs.symm);have HNM:=qh (UM (V++G.inv W) A3 c3 w' HR3.o (LH wV.o) hn wV.o (by rw[List.length_append];omega));rw[←hs]at HNM;clear HOWN' iL hs
 go_wp2_with fail
 refine HNM.o.mono ?_;rintro e w4 ⟨v4,Cs,es,he,hl4,hb4⟩;have he:e=.returned (.agg #[.int .i64 n,.int .i64 P,v4]):=he;have hl4:eQ w'.heap.size v4 (F.map G.pl) Cs es w4:=hl4;subst he;obtain⟨A4,c4,rfl⟩:=wH hl4;have aR:=qh ((HB3.o.trans (hb4.mono HB3.o.size)).alloc (by have h1:=HB3.o.size;have h2:=hb4.size;omega) (.cells #[.int .i64 n,.int .i64 P,.slice A4 F.length c4] 141));clear hl4 hb4
 by_cases hp:P=0
 ·subst hp
  have hd:decide ((0:Int)=0)=true:=rfl
  by_cases hf:F.length=0
  ·have hf2:((F.length:Int)==0)=true:=by simp[hf]
   have hf3:(F.length:Int)=0:=qo
   go_wp2
   go_ret
   exact⟨by rw[IZ.o];simp[hf],by have h1:=aR.o;rwa[hf]at h1⟩
  ·have hf2:((F.length:Int)==0)=false:=by rw[beq_eq_false_iff_ne];omega
   have hf3:¬(F.length:Int)=0:=qo
   go_wp2
   go_ret
   exact⟨by rw[IZ.o];simp[hf],aR.o⟩
 ·have hp2:(P==0)=false:=by rw[beq_eq_false_iff_ne];exact hp
  go_wp2
  go_ret
  exact⟨by rw[IZ.o];simp[hp],aR.o⟩
def six (L:List Int)(k:Nat):List Int:=[L.getD (k*6) 0,L.getD (k*6+1) 0,L.getD (k*6+2) 0,L.getD (k*6+3) 0,L.getD (k*6+4) 0,L.getD (k*6+5) 0]
theorem zD {L:List Int}{k:Nat}(h:k*6+6≤L.length):L.take ((k+1)*6)=L.take (k*6)++six L k:=by
 rw[show(k+1)*6=k*6+6 by omega,List.take_add]
 congr 1
 have hd:∀j,j<6→(L.drop (k*6))[j]?=some (L.getD (k*6+j) 0):=fun j hj=>by
  rw[List.getElem?_drop]
  simp[List.getD,show k*6+j<L.length by omega]
 apply List.ext_getElem?
 intro i;rw[List.getElem?_take]
 rcases i with _|_|_|_|_|_|i
 ·exact hd 0 qo
 ·exact hd 1 qo
 ·exact hd 2 qo
 ·exact hd 3 qo
 ·exact hd 4 qo
 ·exact hd 5 qo
 ·rw[if_neg qo]
  simp[six]
theorem Ni (x0 x1 x2 x3 x4 x5 y0 y1 y2 y3 y4 y5:Int)(w:World):(binOp .neq 91 (.agg #[.int .i64 x0,.int .i64 x1,.int .i64 x2,.int .i64 x3,.int .i64 x4,.int .i64 x5]) (.agg #[.int .i64 y0,.int .i64 y1,.int .i64 y2,.int .i64 y3,.int .i64 y4,.int .i64 y5])).run Tryz.prog w=.ok (.bool (!decide ([x0,x1,x2,x3,x4,x5]=[y0,y1,y2,y3,y4,y5]))) w:=by
 rw[run_neq_struct,run_equalIn_agg _ _ _ _ _ qk qk]
 simp[Program.fieldsOf,Tryz.underlying91,Op.eqFields,go_sem]
 repeat' split
 all_goals simp_all
theorem oV (A B:OA)(c c' m m':Nat)(L M:List Int)(w:World)(hL:L.length=m*6)(hM:M.length=m'*6)(ha:Rd w A (m*6) (fun j=>.int .i64 (L.getD j 0)))(hb:Rd w B (m'*6) (fun j=>.int .i64 (M.getD j 0)))(hm:m≤1000000)(hm':m'≤1000000):
 Calls Tryz.prog 94 #[.slice A m c,.slice B m' c'] w fun e w'=>e=.returned (.bool (decide (L=M)))∧∃q,w'=w.drewN q:=by
 have HA:=qh ha;have HB:=qh hb;have lA:=qh hL;have CJ:=qh hM;clear ha hb hL hM
 by_cases hl:m=m'
 case neg=>
  have HD:=qh (show decide (L=M)=false from decide_eq_false fun e=>hl (by have h1:=lA.o;have h2:=CJ.o;rw[e]at h1;omega));have hlb:((m:Int)==(m':Int))=false:=by rw[beq_eq_false_iff_ne];omega
  have hlc:¬(m:Int)=(m':Int):=qo
  go_enter Tryz.func94,Tryz.ntmps94
  go_wp2
  go_ret
  exact⟨by rw[HD.o];rfl,0,rfl⟩
 subst hl
 go_enter Tryz.func94,Tryz.ntmps94
 go_wp2_with fail
 go_loopw [5] (fun x wr=>∃k q:Nat,k≤m∧x=.int .i64 k∧wr=w.drewN q∧Hq (L.take (k*6)=M.take (k*6))) (fun x _=>m-(intOf x).toNat)
 case atStart=>exact⟨0,0,Nat.zero_le _,rfl,rfl,qh qj⟩
 case round=>
  obtain⟨k,q,hk,rfl,rfl,HX⟩:=hrel
  by_cases hlt:k<m
  ·obtain⟨ga,o,rfl,hg,hr⟩:=HA.o qo
   obtain⟨gb,o',rfl,hg',hr'⟩:=HB.o qo;have r0:=hr (k*6) qo;have r1:=hr (k*6+1) qo;have r2:=hr (k*6+2) qo;have r3:=hr (k*6+3) qo;have r4:=hr (k*6+4) qo;have r5:=hr (k*6+5) qo;have t0:=hr' (k*6) qo;have t1:=hr' (k*6+1) qo;have t2:=hr' (k*6+2) qo;have t3:=hr' (k*6+3) qo;have t4:=hr' (k*6+4) qo;have t5:=hr' (k*6+5) qo;have IY:=qh (zD (L:=L) (k:=k) (by have:=lA.o;omega));have sX:=qh (zD (L:=M) (k:=k) (by have:=CJ.o;omega));unfold six at IY sX;obtain⟨x0,hx0⟩:=qx (L.getD (k*6) 0);obtain⟨x1,hx1⟩:=qx (L.getD (k*6+1) 0);obtain⟨x2,hx2⟩:=qx (L.getD (k*6+2) 0);obtain⟨x3,hx3⟩:=qx (L.getD (k*6+3) 0);obtain⟨x4,hx4⟩:=qx (L.getD (k*6+4) 0);obtain⟨x5,hx5⟩:=qx (L.getD (k*6+5) 0);obtain⟨y0,hy0⟩:=qx (M.getD (k*6) 0);obtain⟨y1,hy1⟩:=qx (M.getD (k*6+1) 0);obtain⟨y2,hy2⟩:=qx (M.getD (k*6+2) 0);obtain⟨y3,hy3⟩:=qx (M.getD (k*6+3) 0);obtain⟨y4,hy4⟩:=qx (M.getD (k*6+4) 0);obtain⟨y5,KM⟩:=qx (M.getD (k*6+5) 0)
   simp only[←hx0]at r0
   simp only[←hx1,←Nat.add_assoc]at r1
   simp only[←hx2,←Nat.add_assoc]at r2
   simp only[←hx3,←Nat.add_assoc]at r3
   simp only[←hx4,←Nat.add_assoc]at r4
   simp only[←hx5,←Nat.add_assoc]at r5
   simp only[←hy0]at t0
   simp only[←hy1,←Nat.add_assoc]at t1
   simp only[←hy2,←Nat.add_assoc]at t2
   simp only[←hy3,←Nat.add_assoc]at t3
   simp only[←hy4,←Nat.add_assoc]at t4
   simp only[←KM,←Nat.add_assoc]at t5
   rw[←hx0,←hx1,←hx2,←hx3,←hx4,←hx5]at IY;rw[←hy0,←hy1,←hy2,←hy3,←hy4,←KM]at sX;clear hx0 hx1 hx2 hx3 hx4 hx5 hy0 hy1 hy2 hy3 hy4 KM hr hr';have b1:(0:Int)≤(k:Int):=qo;have b2:(k:Int)<(m:Int):=qo
   by_cases he:[x0,x1,x2,x3,x4,x5]=[y0,y1,y2,y3,y4,y5]
   ·injection he with h0 he
    injection he with h1 he;injection he with h2 he;injection he with h3 he;injection he with h4 he;injection he with h5 he;subst h0 h1 h2 h3 h4 h5;clear he
    go_wp2_with fail
    go_quiet (fail)
    go_wp2_with fail
    go_roundw
    case rel=>exact⟨k+1,_,by omega,qg,rfl,qh (by rw[IY.o,sX.o,HX.o])⟩
    case measure=>exact qs
   ·have HD:=qh (show decide (L=M)=false from decide_eq_false fun e=>he (by
     have h1:=IY.o;have h2:=sX.o;rw[e]at h1;rw[h2]at h1;exact(List.append_inj_right' h1 rfl).symm))
    have mE:=fun W=>Ni x0 x1 x2 x3 x4 x5 y0 y1 y2 y3 y4 y5 W;rw[decide_eq_false he]at mE;clear he
    go_wp2_with fail
    go_quiet (fail)
    go_wp2_with fail
    go_ret
    exact⟨by rw[HD.o];rfl,_,World.drewN_drewN _ _ _⟩
  ·obtain rfl:m=k:=qo
   have HD:=qh (show decide (L=M)=true from decide_eq_true (by
    have h:=HX.o;rwa[List.take_of_length_le (by have:=lA.o;omega),List.take_of_length_le (by have:=CJ.o;omega)]at h))
   go_wp2
   go_ret
   exact⟨by rw[HD.o];rfl,q,rfl⟩
structure JL (w:World)(g o:Nat)(b:aV)(W S:OA)(cw cs m:Nat):Prop where
 c0:w.cell? ⟨g,o,none⟩=some (.int .i64 b.1)
 c1:w.cell? ⟨g,o+1,none⟩=some (.slice W b.2.1.length cw)
 c2:w.cell? ⟨g,o+2,none⟩=some (.slice S m cs)
 rw:cX w W b.2.1
 ln:b.2.2.length=m*6
 rs:Rd w S (m*6) (fun j=>.int .i64 (b.2.2.getD j 0))
theorem JL.lt {w:World}{g o:Nat}{b:aV}{W S:Option Addr}{cw cs m:Nat}(h:JL w g o b W S cw cs m):g<w.heap.size:=World.block_lt_of_cell? w _ h.c0
theorem JL.below {w w':World}{g o:Nat}{b:aV}{W S:Option Addr}{cw cs m:Nat}(h:JL w g o b W S cw cs m)(hb:Below w.heap.size w w'):JL w' g o b W S cw cs m:=
 ⟨aD hb h.lt h.c0,aD hb h.lt h.c1,aD hb h.lt h.c2,h.rw.below hb,h.ln,h.rs.below hb⟩
theorem JL.drewN {w:World}{g o:Nat}{b:aV}{W S:Option Addr}{cw cs m:Nat}(h:JL w g o b W S cw cs m)(q:Nat):JL (w.drewN q) g o b W S cw cs m:=⟨h.c0,h.c1,h.c2,h.rw,h.ln,h.rs⟩
noncomputable def G0 (a b:aV):Bool:=decide (a.1=b.1)&&(decide (a.2.2=b.2.2)&&mP a.1.toNat a.2.1 b.2.1)
structure BOk (b:aV)(m:Nat):Prop where
 n0:0≤b.1
 n1:b.1≤1000
 wd:G.Word b.1.toNat b.2.1
 wl:b.2.1.length≤10000
 ml:m≤1000000
theorem WH (g o g' o':Nat)(a b:aV)(W S W' S':OA)(cw cs m P6 cs' m':Nat)(w:World)(h1:JL w g o a W S cw cs m)(h2:JL w g' o' b W' S' P6 cs' m')(k1:BOk a m)(k2:BOk b m'):
 Calls Tryz.prog 119 #[.pointer (some ⟨g,o,none⟩),.pointer (some ⟨g',o',none⟩)] w fun e w'=>e=.returned (.bool (G0 a b))∧Below w.heap.size w w':=by
 have H1:=qh h1;have H2:=qh h2;have K1:=qh k1;have K2:=qh k2;have c0:=h1.c0;have c1:=h1.c1;have c2:=h1.c2;have d0:=h2.c0;have d1:=h2.c1;have d2:=h2.c2;obtain⟨n,V,T⟩:=a;obtain⟨n',V',T'⟩:=b
 simp only at c0 c1 c2 d0 d1 d2
 have mO:=qh (show G0 (n,V,T) (n',V',T')=(decide (n=n')&&(decide (T=T')&&mP n.toNat V V'))from rfl);clear h1 h2 k1 k2
 by_cases hn:n=n'
 case neg=>
  have hnb:(n==n')=false:=by rw[beq_eq_false_iff_ne];exact hn
  rw[decide_eq_false hn,Bool.false_and]at mO
  go_enter Tryz.func119,Tryz.ntmps119
  go_wp2_with fail
  go_quiet (fail)
  go_wp2_with fail
  go_ret
  exact⟨by rw[mO.o];rfl,Below.drewN' (Below.refl _ _) nq⟩
 subst hn;rw[decide_eq_true rfl,Bool.true_and]at mO;have GC:=qh (fun W0 (x1:Rd W0 S (m*6) (fun j=>.int .i64 (T.getD j 0))) (x2:Rd W0 S' (m'*6) (fun j=>.int .i64 (T'.getD j 0)))=>oV S S' cs cs' m m' T T' W0 H1.o.ln H2.o.ln x1 x2 K1.out.ml K2.out.ml)
 by_cases ht:T=T'
 case neg=>
  rw[decide_eq_false ht,Bool.false_and]at mO;rw[decide_eq_false ht]at GC
  go_enter Tryz.func119,Tryz.ntmps119
  go_wp2_with fail
  go_quiet ((go_at_call 94;exact Calls.quiet_of (GC.o _ (H1.o.rs.drewN _) (H2.o.rs.drewN _))))
  go_wp2_with fail
  go_ret
  exact⟨by rw[mO.o];rfl,Below.drewN' (Below.refl _ _) nq⟩
 subst ht;rw[decide_eq_true rfl,Bool.true_and]at mO;rw[decide_eq_true rfl]at GC;obtain⟨N,rfl⟩:∃N:Nat,n=N:=⟨n.toNat,(Int.toNat_of_nonneg K1.out.n0).symm⟩;have hN:=K1.out.n1;have J8:=qh (fun W0 (x1:cX W0 W V) (x2:cX W0 W' V')=>zK V V' W W' cw P6 W0 x1 x2 (by omega:N≤1000) K1.out.wd K2.out.wd K1.out.wl K2.out.wl)
 go_enter Tryz.func119,Tryz.ntmps119
 go_wp2_with fail
 go_region_held3 (fun w'=>w'.cell? ⟨g,o,none⟩=some (.int .i64 N)∧w'.cell? ⟨g,o+1,none⟩=some (.slice W V.length cw)∧w'.cell? ⟨g,o+2,none⟩=some (.slice S m cs)∧w'.cell? ⟨g',o',none⟩=some (.int .i64 N)∧w'.cell? ⟨g',o'+1,none⟩=some (.slice W' V'.length P6)∧w'.cell? ⟨g',o'+2,none⟩=some (.slice S' m' cs')) (go_keep) (first
  |(go_at_call 94;refine(GC.o _ (H1.o.rs.drewN 1) (H2.o.rs.drewN 1)).mono ?_;rintro e w4 ⟨rfl,q4,rfl⟩)
  |(go_at_call 106;refine(J8.o _ (H1.o.rw.drewN (1+q4)) (H2.o.rw.drewN (1+q4))).mono ?_;rintro e w5 ⟨rfl,hb5⟩;have hb6:Below w.heap.size w w5:=(Below.drewN' (Below.refl _ w) (1+q4)).trans hb5;have bG:=qh hb6;have c0:=aD hb6 H1.o.lt c0;have c1:=aD hb6 H1.o.lt c1;have c2:=aD hb6 H1.o.lt c2;have d0:=aD hb6 H2.o.lt d0;have d1:=aD hb6 H2.o.lt d1;have d2:=aD hb6 H2.o.lt d2;clear hb5 hb6))
 rename_i hHeld
 clear hHeld
 go_wp2_with fail
 go_ret
 exact⟨by rw[mO.o];rfl,bG.o⟩
structure eK where
 W:Nat→Option Addr
 S:Nat→Option Addr
 cw:Nat→Nat
 cs:Nat→Nat
 m:Nat→Nat
def G7 (w:World)(A:OA)(o:List aV)(d:eK):Prop:=0<o.length→∃g off,A=some ⟨g,off,none⟩∧g<w.heap.size∧∀j b,o[j]?=some b→JL w g (off+j*3) b (d.W j) (d.S j) (d.cw j) (d.cs j) (d.m j)
theorem G7.below {w w':World}{A:Option Addr}{o:List aV}{d:eK}(h:G7 w A o d)(hb:Below w.heap.size w w'):G7 w' A o d:=fun h0=>by
 obtain⟨g,off,e,hg,hr⟩:=h h0;exact⟨g,off,e,Nat.lt_of_lt_of_le hg hb.size,fun j b hj=>(hr j b hj).below hb⟩
theorem G7.drewN {w:World}{A:Option Addr}{o:List aV}{d:eK}(h:G7 w A o d)(q:Nat):G7 (w.drewN q) A o d:=fun h0=>by
 obtain⟨g,off,e,hg,hr⟩:=h h0;exact⟨g,off,e,hg,fun j b hj=>(hr j b hj).drewN q⟩
def Oi (o:List aV)(d:eK):Prop:=o.length≤1000000∧∀j b,o[j]?=some b→BOk b (d.m j)
noncomputable def cZ:List aV→List aV→Nat→Int
 |[],[],_=>-1
 |a::L,b::M,i=>if G0 a b=true then cZ L M (i+1)else i
 |[],_::_,i=>i
 |_::_,[],i=>i
theorem yM {L M:List aV}{i:Nat}(h:(L=[]∧M≠[])∨(L≠[]∧M=[])):cZ L M i=i:=by
 rcases L with _|⟨a,L⟩<;>rcases M with _|⟨b,M⟩<;>simp_all [cZ]
theorem zQ28x1 {p:Prop}(h:p:=by
 go_wp2_with fail
 go_quiet (fail)
 go_wp2_with fail
 go_ret
 exact⟨by rw[eI.o];rfl,Below.drewN' cS.o nq⟩):p:=h
theorem WG (L M:List aV)(A B:OA)(c c':Nat)(d d':eK)(w:World)(ha:G7 w A L d)(hb:G7 w B M d')(k1:Oi L d)(k2:Oi M d'):
 Calls Tryz.prog 93 #[.slice A L.length c,.slice B M.length c'] w fun e w'=>e=.returned (.int .i64 (cZ L M 0))∧Below w.heap.size w w':=by
 have HA:=qh ha;have HB:=qh hb;have K1:=qh k1;have K2:=qh k2;have hl:=k1.1;have hm:=k2.1;clear ha hb k1 k2
 go_enter Tryz.func93,Tryz.ntmps93
 go_wp2_with fail
 go_loopw [5] (fun x wr=>∃k:Nat,k≤L.length+M.length∧x=.int .i64 k∧Hq (cZ L M 0=cZ (L.drop k) (M.drop k) k)∧Hq (Below w.heap.size w wr)) (fun x _=>L.length+M.length+1-(intOf x).toNat)
 case atStart=>exact⟨0,Nat.zero_le _,rfl,qh rfl,qh (Below.refl _ _)⟩
 case round=>
  obtain⟨k,hk,rfl,HX,cS⟩:=hrel
  by_cases h1:k<L.length
  ·by_cases h2:k<M.length
   ·obtain⟨g,o,rfl,hg,hr⟩:=(HA.o.below cS.o) qo
    obtain⟨g',o',rfl,hg',hr'⟩:=(HB.o.below cS.o) qo;obtain⟨a,ha⟩:∃a,L[k]?=some a:=⟨_,List.getElem?_eq_getElem h1⟩;obtain⟨b,hb⟩:∃b,M[k]?=some b:=⟨_,List.getElem?_eq_getElem h2⟩;have HQ:=qh (WH g (o+k*3) g' (o'+k*3) a b _ _ _ _ _ _ _ _ _ _ wr.drew ((hr k a ha).drewN 1) ((hr' k b hb).drewN 1) (K1.out.2 k a ha) (K2.out.2 k b hb));have HD:=qh (show cZ (L.drop k) (M.drop k) k=if G0 a b=true then cZ (L.drop (k+1)) (M.drop (k+1)) (k+1)else k by
     rw[List.drop_eq_getElem_cons h1,List.drop_eq_getElem_cons h2];rw[List.getElem?_eq_getElem h1]at ha;rw[List.getElem?_eq_getElem h2]at hb;injection ha with ha;injection hb with hb;rw[ha,hb]
     rfl)
    have b1:(0:Int)≤(k:Int):=qo;have b2:(k:Int)<(L.length:Int):=qo;have b3:(k:Int)<(M.length:Int):=qo;have b4:¬(L.length:Int)≤(k:Int):=qo;have b5:¬(M.length:Int)≤(k:Int):=qo;have e4:decide (L.length≤k)=false:=decide_eq_false qo;have e5:decide (M.length≤k)=false:=decide_eq_false qo;clear hr hr' ha hb
    go_wp2_with fail
    go_region_held3 (fun _=>True) (trivial) ((go_at_call 119;refine HQ.o.mono ?_;rintro e w5 ⟨rfl,hb5⟩;have bG:=qh (cS.o.trans (((Below.refl wr.heap.size wr).drew.trans hb5).mono cS.o.size));clear hb5))
    rename_i hHeld
    clear hHeld
    by_cases hq:G0 a b=true
    ·have eI:=qh (HX.o.trans (HD.o.trans (if_pos hq)))
     rw[hq]
     go_wp2_with fail
     go_roundw
     case rel=>exact⟨k+1,by omega,qg,eI,bG⟩
     case measure=>exact qs
    ·have eI:=qh (HX.o.trans (HD.o.trans (if_neg hq)))
     rw[Bool.not_eq_true]at hq;rw[hq]
     go_wp2_with fail
     go_ret
     exact⟨by rw[eI.o];rfl,bG.o⟩
   ·have eI:=qh (HX.o.trans (yM (.inr ⟨by rw[Ne,List.drop_eq_nil_iff];omega,by rw[List.drop_eq_nil_iff];omega⟩)))
    have b2:(k:Int)<(L.length:Int):=qo;have b3:¬(k:Int)<(M.length:Int):=qo;have b4:¬(L.length:Int)≤(k:Int):=qo;have b5:(M.length:Int)≤(k:Int):=qo;have e4:decide (L.length≤k)=false:=decide_eq_false qo;have e5:decide (M.length≤k)=true:=decide_eq_true qo
    exact zQ28x1
  ·by_cases h2:k<M.length
   ·have eI:=qh (HX.o.trans (yM (.inl ⟨by rw[List.drop_eq_nil_iff];omega,by rw[Ne,List.drop_eq_nil_iff];omega⟩)))
    have b2:¬(k:Int)<(L.length:Int):=qo;have b3:(k:Int)<(M.length:Int):=qo;have b4:(L.length:Int)≤(k:Int):=qo;have b5:¬(M.length:Int)≤(k:Int):=qo;have e4:decide (L.length≤k)=true:=decide_eq_true qo;have e5:decide (M.length≤k)=false:=decide_eq_false qo
    exact zQ28x1
   ·have eI:=qh (show cZ L M 0= -1 by
     rw[HX.o,List.drop_eq_nil_of_le qo,List.drop_eq_nil_of_le qo]
     rfl)
    have b2:¬(k:Int)<(L.length:Int):=qo;have b3:¬(k:Int)<(M.length:Int):=qo
    go_wp2_with fail
    go_ret
    exact⟨by rw[eI.o];rfl,cS.o⟩
def nN (o:List aV)(d:eK)(i:Nat):Value:=if i%3=0 then .int .i64 (o.getD (i/3) (0,[],[])).1 else if i%3=1 then .slice (d.W (i/3)) (o.getD (i/3) (0,[],[])).2.1.length (d.cw (i/3))else .slice (d.S (i/3)) (d.m (i/3)) (d.cs (i/3))
def gD (N:Nat)(d:eK):Value:=.slice (d.S (N-1)) (d.m (N-1)) (d.cs (N-1))
structure iZ (B:Nat)(v:Value)(o:List aV)(d:eK)(w:World):Prop where
 own:w.ownsRow B 113 3 v o.length ((List.range (o.length*3)).map (nN o d))
 rw:∀j b,o[j]?=some b→cX w (d.W j) b.2.1
 ln:∀j b,o[j]?=some b→b.2.2.length=d.m j*6
 rs:∀j b,o[j]?=some b→Rd w (d.S j) (d.m j*6) (fun i=>.int .i64 (b.2.2.getD i 0))
 fw:∀j b,o[j]?=some b→∀x,Fb (d.W j) b.2.1.length x→¬v.ownBlock=some x∧¬(gD o.length d).ownBlock=some x
 fs:∀j b,o[j]?=some b→∀x,Fb (d.S j) (d.m j*6) x→¬v.ownBlock=some x∧(j+1<o.length→¬(gD o.length d).ownBlock=some x)
 lo:∀b,o.getLast?=some b→w.ownsRow B 91 6 (gD o.length d) (d.m (o.length-1)) (ints b.2.2)
 lv:∀x,v.ownBlock=some x→¬(gD o.length d).ownBlock=some x
 bw:∀j b,o[j]?=some b→∀x,Fb (d.W j) b.2.1.length x→B≤x
 bs:∀j b,o[j]?=some b→∀x,Fb (d.S j) (d.m j*6) x→B≤x
section
variable {B:Nat}{v:Value}{o:List aV}{d:eK}{w w':World}
theorem iZ.below (h:iZ B v o d w)(hb:Below w.heap.size w w'):iZ B v o d w':=
 ⟨own_below h.own hb,fun j b hj=>(h.rw j b hj).below hb,h.ln,fun j b hj=>(h.rs j b hj).below hb,h.fw,h.fs,fun b hl=>own_below (h.lo b hl) hb,h.lv,h.bw,h.bs⟩
theorem iZ.drewN (h:iZ B v o d w)(q:Nat):iZ B v o d (w.drewN q):=⟨h.own,h.rw,h.ln,h.rs,h.fw,h.fs,h.lo,h.lv,h.bw,h.bs⟩
theorem zY {j:Nat}{b:aV}(h:o[j]?=some b):o.getD j (0,[],[])=b:=by simp[List.getD,h]
theorem DX {g cap:Nat}(h:iZ B (.slice (some ⟨g,0,none⟩) o.length cap) o d w){j:Nat}{b:aV}(hj:o[j]?=some b):w.cell? ⟨g,j*3,none⟩=some (.int .i64 b.1)∧w.cell? ⟨g,j*3+1,none⟩=some (.slice (d.W j) b.2.1.length (d.cw j))∧w.cell? ⟨g,j*3+2,none⟩=some (.slice (d.S j) (d.m j) (d.cs j)):=by
 have hlt:j<o.length:=(List.getElem?_eq_some_iff.1 hj).1;have e0:(j*3)/3=j:=qo;have e1:(j*3+1)/3=j:=qo;have e2:(j*3+2)/3=j:=qo;have m0:(j*3)%3=0:=qo;have m1:(j*3+1)%3=1:=qo;have m2:(j*3+2)%3=2:=qo;refine⟨?_,?_,?_⟩
 ·rw[h.own.cellAt _ qo,List.getElem?_map,List.getElem?_range qo,Option.map_some,nN,e0,if_pos m0,zY hj]
 ·rw[h.own.cellAt _ qo,List.getElem?_map,List.getElem?_range qo,Option.map_some,nN,e1,if_neg qo,if_pos m1,zY hj]
 ·rw[h.own.cellAt _ qo,List.getElem?_map,List.getElem?_range qo,Option.map_some,nN,e2,if_neg qo,if_neg qo]
theorem iZ.form (h:iZ B v o d w)(h0:0<o.length):∃g cap,v=.slice (some ⟨g,0,none⟩) o.length cap∧B≤g∧g<w.heap.size:=by
 rcases h.own.2 with⟨_,h1⟩|⟨g,cap,_,e,hB,hc,_⟩
 ·omega
 ·exact⟨g,cap,e,hB,(Array.getElem?_eq_some_iff.1 hc).1⟩
theorem iZ.rdB {A:Option Addr}{c:Nat}(h:iZ B (.slice A o.length c) o d w):G7 w A o d:=fun h0=>by
 obtain⟨g,cap,e,_,hg⟩:=h.form h0;injection e with e1 _ e2;subst e1 e2;refine⟨g,0,rfl,hg,fun j b hj=>?_⟩;obtain⟨c0,c1,c2⟩:=DX h hj;rw[Nat.zero_add];exact⟨c0,c1,c2,h.rw j b hj,h.ln j b hj,h.rs j b hj⟩
def eK.push (d:eK)(k:Nat)(A:OA)(c:Nat):eK:=⟨fun j=>if j=k then A else d.W j,fun j=>if j=k then none else d.S j,fun j=>if j=k then c else d.cw j,fun j=>if j=k then 0 else d.cs j,fun j=>if j=k then 0 else d.m j⟩
theorem nJ {b b':aV}{j:Nat}(h:(o++[b])[j]?=some b'):(j<o.length∧o[j]?=some b')∨(j=o.length∧b'=b):=by
 by_cases hj:j<o.length
 ·rw[List.getElem?_append_left hj]at h
  exact .inl ⟨hj,h⟩
 ·rw[List.getElem?_append_right qo]at h
  by_cases hj2:j-o.length=0
  ·rw[hj2]at h
   simp at h
   exact .inr ⟨by omega,h.symm⟩
  ·rw[List.getElem?_eq_none (by simp;omega)]at h
   cases h
theorem iZ.push (h:iZ B v o d w){A:Option Addr}{W:List Int}{c:Nat}{n:Int}{v':Value}(hA:cX w A W)(hv:∀x,Fb A W.length x→¬v.ownBlock=some x)(hB:∀x,Fb A W.length x→B≤x)
 (hown:w'.ownsRow B 113 3 v' (o.length+1) ((List.range (o.length*3)).map (nN o d)++[.int .i64 n,.slice A W.length c,.slice none 0 0])) (hf:Fr w w' (fun x=>v.ownBlock=some x)) (hat:v'.ownBlock=v.ownBlock∨v'.ownBlock=some (w.heap.size+1)):
 iZ B v' (o++[(n,W,[])]) (d.push o.length A c) w':=by
 have OH:∀x,x<w.heap.size→¬v.ownBlock=some x→¬v'.ownBlock=some x:=fun x h1 h2 h3=>by
  rcases hat with e|e
  ·exact h2 (e.symm.trans h3)
  ·rw[e]at h3
   injection h3 with h3;omega
 have hll:(o++[(n,W,[])]).length=o.length+1:=by simp
 have hlv:(gD (o++[(n,W,[])]).length (d.push o.length A c))=.slice none 0 0:=by
  simp[gD,eK.push]
 have hwl:∀x,Fb A W.length x→x<w.heap.size:=fun x hx=>(aQ _ _ _).2 w x hA hx;refine⟨?_,fun j b hj=>?_,fun j b hj=>?_,fun j b hj=>?_,fun j b hj x hx=>?_,fun j b hj x hx=>?_,fun b hb=>?_,fun x hx=>?_,fun j b hj x hx=>?_,fun j b hj x hx=>?_⟩
 ·rw[hll]
  have e:(List.range ((o.length+1)*3)).map (nN (o++[(n,W,[])]) (d.push o.length A c))=(List.range (o.length*3)).map (nN o d)++[.int .i64 n,.slice A W.length c,.slice none 0 0]:=by
   rw[show(o.length+1)*3=o.length*3+3 by omega,List.range_add,List.map_append]
   congr 1
   ·refine List.map_congr_left fun i hi=>?_
    have hi:=List.mem_range.1 hi;have hi3:i/3<o.length:=qo;have hne:i/3≠o.length:=qo;have hg:(o++[(n,W,[])]).getD (i/3) (0,[],[])=o.getD (i/3) (0,[],[]):=by
     simp only[List.getD]
     rw[List.getElem?_append_left hi3]
    simp only[nN,eK.push,hg,if_neg hne]
   ·have g0:(o++[(n,W,[])]).getD o.length (0,[],[])=(n,W,[]):=by simp[List.getD]
    have a0:(o.length*3)/3=o.length:=qo;have a1:(o.length*3+1)/3=o.length:=qo;have a2:(o.length*3+2)/3=o.length:=qo;have b0:(o.length*3)%3=0:=qo;have b1:(o.length*3+1)%3=1:=qo;have b2:(o.length*3+2)%3=2:=qo
    simp only[List.range,List.range.loop,List.map_cons,List.map_nil,Nat.add_zero,nN,a0,a1,a2,b0,b1,b2,g0,eK.push,if_true]
    simp
  rw[e];exact hown
 ·rcases nJ hj with⟨hlt,hj⟩|⟨rfl,rfl⟩
  ·simp only[eK.push,if_neg (show j≠o.length by omega)]
   exact(aQ _ _ _).fr (h.rw j b hj) hf fun x hx he=>(h.fw j b hj x hx).1 he
  ·simp only[eK.push,if_true]
   exact(aQ _ _ _).fr hA hf fun x hx he=>hv x hx he
 ·rcases nJ hj with⟨hlt,hj⟩|⟨rfl,rfl⟩
  ·simp only[eK.push,if_neg (show j≠o.length by omega)]
   exact h.ln j b hj
  ·simp[eK.push]
 ·rcases nJ hj with⟨hlt,hj⟩|⟨rfl,rfl⟩
  ·simp only[eK.push,if_neg (show j≠o.length by omega)]
   exact(aQ _ _ _).fr (h.rs j b hj) hf fun x hx he=>(h.fs j b hj x hx).1 he
  ·simp only[eK.push,if_true]
   intro h0;omega
 ·rw[hlv]
  refine⟨?_,fun e=>by cases e⟩
  rcases nJ hj with⟨hlt,hj⟩|⟨rfl,rfl⟩
  ·simp only[eK.push,if_neg (show j≠o.length by omega)]at hx
   exact OH x ((aQ _ _ _).2 w x (h.rw j b hj) hx) (h.fw j b hj x hx).1
  ·simp only[eK.push,if_true]at hx
   exact OH x (hwl x hx) (hv x hx)
 ·rw[hlv]
  refine⟨?_,fun _ e=>by cases e⟩
  rcases nJ hj with⟨hlt,hj⟩|⟨rfl,rfl⟩
  ·simp only[eK.push,if_neg (show j≠o.length by omega)]at hx
   exact OH x ((aQ _ _ _).2 w x (h.rs j b hj) hx) (h.fs j b hj x hx).1
  ·simp only[eK.push,if_true]at hx
   obtain⟨h0,_⟩:=hx;omega
 ·rw[hlv]
  have e:b=(n,W,[]):=by simpa using hb.symm
  subst e;have:(d.push o.length A c).m ((o++[(n,W,[])]).length-1)=0:=by simp[eK.push]
  rw[this];exact World.ownsRow_nil _ _ _ _
 ·rw[hlv]
  intro e
  cases e
 ·rcases nJ hj with⟨hlt,hj⟩|⟨rfl,rfl⟩
  ·simp only[eK.push,if_neg (show j≠o.length by omega)]at hx
   exact h.bw j b hj x hx
  ·simp only[eK.push,if_true]at hx
   exact hB x hx
 ·rcases nJ hj with⟨hlt,hj⟩|⟨rfl,rfl⟩
  ·simp only[eK.push,if_neg (show j≠o.length by omega)]at hx
   exact h.bs j b hj x hx
  ·simp only[eK.push,if_true]at hx
   obtain⟨h0,_⟩:=hx;omega
def eK.add (d:eK)(k:Nat)(A:OA)(c:Nat):eK:=⟨d.W,fun j=>if j=k then A else d.S j,d.cw,fun j=>if j=k then c else d.cs j,fun j=>if j=k then d.m j+1 else d.m j⟩
theorem P9 {b:aV}(h:o.getLast?=some b)(s:List Int):dV o s=o.set (o.length-1) (b.1,b.2.1,b.2.2++s):=by
 unfold dV;rw[h];have h0:0<o.length:=List.length_pos_iff.2 fun e=>by rw[e]at h;cases h
 apply List.ext_getElem?
 intro i;rw[List.getElem?_set,List.getElem?_append,List.length_dropLast]
 by_cases h1:i<o.length-1
 ·rw[if_pos h1,if_neg qo,List.getElem?_dropLast,if_pos h1]
 ·rw[if_neg h1]
  by_cases h2:o.length-1=i
  ·subst h2
   rw[if_pos rfl,if_pos qo,Nat.sub_self]
   rfl
  ·rw[if_neg h2,List.getElem?_eq_none (l:=[_]) (by rw[List.length_singleton];omega),List.getElem?_eq_none qo]
theorem aaB {w:World}{A:Option Addr}{n c:Nat}{L:List Int}(ho:w.ownsRow B 91 6 (.slice A n c) n (ints L)):Rd w A (n*6) (fun i=>.int .i64 (L.getD i 0)):=fun h0=>by
 have hl:L.length=n*6:=by have:=ho.1;simpa [ints]using this
 rcases ho.2 with⟨_,h1⟩|⟨g',cap,_,hg,_⟩
 ·omega
 injection hg with hA _ hc;subst hA;refine⟨g',0,rfl,(ho.lt g' rfl).2,fun j hj=>?_⟩;rw[Nat.zero_add,ho.cellAt j qo]
 simp[ints,List.getD,show j<L.length by omega]
theorem iZ.add {g cap:Nat}(h:iZ B (.slice (some ⟨g,0,none⟩) o.length cap) o d w){b:aV}(hb:o.getLast?=some b){A':Option Addr}{c':Nat}{s:List Int}(hs:s.length=6)
 (hown:w'.ownsRow B 91 6 (.slice A' (d.m (o.length-1)+1) c') (d.m (o.length-1)+1) (ints b.2.2++ints s)) (hf:Fr w w' (fun x=>(gD o.length d).ownBlock=some x)) (hat:(Value.slice A' (d.m (o.length-1)+1) c').ownBlock=(gD o.length d).ownBlock∨(Value.slice A' (d.m (o.length-1)+1) c').ownBlock=some (w.heap.size+1)):
 iZ B (.slice (some ⟨g,0,none⟩) o.length cap) (dV o s) (d.add (o.length-1) A' c') (w'.setCell ⟨g,(o.length-1)*3+2,none⟩ (.slice A' (d.m (o.length-1)+1) c')):=by
 have h0:0<o.length:=List.length_pos_iff.2 fun e=>by rw[e]at hb;cases hb
 obtain⟨l,hl⟩:∃l,o.length=l+1:=⟨o.length-1,by omega⟩;have hl1:o.length-1=l:=qo;have hbl:o[l]?=some b:=by rw[←hb,List.getLast?_eq_getElem?,hl1]
 have hgz:g<w.heap.size:=(h.own.lt g rfl).2;have hgl:¬(gD o.length d).ownBlock=some g:=h.lv g rfl;rw[P9 hb];have hlen:(o.set (o.length-1) (b.1,b.2.1,b.2.2++s)).length=o.length:=by rw[List.length_set]
 have hnew:∀x,x<w.heap.size→¬(gD o.length d).ownBlock=some x→¬(Value.slice A' (d.m (o.length-1)+1) c').ownBlock=some x:=fun x h1 h2 h3=>by
  rcases hat with e|e
  ·exact h2 (e.symm.trans h3)
  ·rw[e]at h3
   injection h3 with h3;omega
 have hgn:=hnew g hgz hgl;have hlv:gD (o.set (o.length-1) (b.1,b.2.1,b.2.2++s)).length (d.add (o.length-1) A' c')=.slice A' (d.m (o.length-1)+1) c':=by
  rw[hlen]
  simp[gD,eK.add]
 have hcs:∀j b',(o.set (o.length-1) (b.1,b.2.1,b.2.2++s))[j]?=some b'→(j≠l∧o[j]?=some b')∨(j=l∧b'=(b.1,b.2.1,b.2.2++s)):=fun j b' hj=>by
  rw[List.getElem?_set,hl1]at hj
  by_cases e:l=j
  ·rw[if_pos e,if_pos qo]at hj
   injection hj with hj;exact .inr ⟨e.symm,hj.symm⟩
  ·rw[if_neg e]at hj
   exact .inl ⟨fun e'=>e e'.symm,hj⟩
 have hset:∀x,x≠g→(w'.setCell ⟨g,(o.length-1)*3+2,none⟩ (.slice A' (d.m (o.length-1)+1) c')).heap[x]?=w'.heap[x]?:=fun x hx=>Below.heap_setCell w' _ _ x hx;have hown2:w'.ownsRow B 91 6 (.slice A' (d.m (o.length-1)+1) c') (d.m (o.length-1)+1) (ints (b.2.2++s)):=by rw[aT];exact hown
 refine⟨?_,fun j b' hj=>?_,fun j b' hj=>?_,fun j b' hj=>?_,fun j b' hj x hx=>?_,fun j b' hj x hx=>?_,fun b' hb'=>?_,fun x hx=>?_,fun j b' hj x hx=>?_,fun j b' hj x hx=>?_⟩
 ·rw[hlen]
  have h1:w'.ownsRow B 113 3 (.slice (some ⟨g,0,none⟩) o.length cap) o.length ((List.range (o.length*3)).map (nN o d)):=cU h.own fun x hx=>hf.block x (h.own.lt x hx).2 fun e=>h.lv x hx e;have h2:=(h1.stored ((o.length-1)*3+2) (.slice A' (d.m (o.length-1)+1) c')).1;have e:(List.range (o.length*3)).map (nN (o.set (o.length-1) (b.1,b.2.1,b.2.2++s)) (d.add (o.length-1) A' c'))=((List.range (o.length*3)).map (nN o d)).set ((o.length-1)*3+2) (.slice A' (d.m (o.length-1)+1) c'):=by
   apply List.ext_getElem?
   intro i;rw[List.getElem?_set]
   by_cases hi:i<o.length*3
   ·rw[List.getElem?_map,List.getElem?_range hi,Option.map_some]
    by_cases e:(o.length-1)*3+2=i
    ·rw[if_pos e,if_pos (by simp;omega)]
     have e3:i/3=o.length-1:=qo;have e4:i%3=2:=qo
     simp only[nN,e3,e4,eK.add,if_true]
     simp
    ·rw[if_neg e,List.getElem?_map,List.getElem?_range hi,Option.map_some]
     congr 1
     have hg3:(o.set (o.length-1) (b.1,b.2.1,b.2.2++s)).getD (i/3) (0,[],[])=if i/3=l then(b.1,b.2.1,b.2.2++s)else o.getD (i/3) (0,[],[]):=by
      rw[hl1]
      simp only[List.getD,List.getElem?_set]
      by_cases e5:l=i/3
      ·rw[if_pos e5,if_pos qo,if_pos e5.symm]
       rfl
      ·rw[if_neg e5,if_neg fun e=>e5 e.symm]
     by_cases e5:i/3=l
     ·have e6:i%3=0∨i%3=1:=qo
      simp only[nN,hg3,if_pos e5,eK.add]
      rw[e5,zY hbl]
      rcases e6 with e6|e6
      ·simp[e6]
      ·simp[e6]
     ·rw[hl1]at hg3
      simp only[nN,hl1,hg3,if_neg e5,eK.add]
   ·rw[if_neg qo,List.getElem?_eq_none (by simp;omega),List.getElem?_eq_none (by simp;omega)]
  rw[e];exact h2
 ·rcases hcs j b' hj with⟨hjl,hj⟩|⟨rfl,rfl⟩
  ·exact(aQ _ _ _).1 _ _ ((aQ _ _ _).fr (h.rw j b' hj) hf fun x hx he=>(h.fw j b' hj x hx).2 he) fun x hx=>hset x fun e=>(h.fw j b' hj x hx).1 (by rw[e];rfl)
  ·exact(aQ _ _ _).1 _ _ ((aQ _ _ _).fr (h.rw j b hbl) hf fun x hx he=>(h.fw j b hbl x hx).2 he) fun x hx=>hset x fun e=>(h.fw j b hbl x hx).1 (by rw[e];rfl)
 ·rcases hcs j b' hj with⟨hjl,hj⟩|⟨rfl,rfl⟩
  ·simp only[eK.add,if_neg (show j≠o.length-1 by omega)]
   exact h.ln j b' hj
  ·simp only[eK.add,if_pos hl1.symm,List.length_append,h.ln j b hbl,hs]
   omega
 ·rcases hcs j b' hj with⟨hjl,hj⟩|⟨rfl,rfl⟩
  ·simp only[eK.add,if_neg (show j≠o.length-1 by omega)]
   have hjlt:j<o.length:=(List.getElem?_eq_some_iff.1 hj).1;exact(aQ _ _ _).1 _ _ ((aQ _ _ _).fr (h.rs j b' hj) hf fun x hx he=>(h.fs j b' hj x hx).2 qo he) fun x hx=>hset x fun e=>(h.fs j b' hj x hx).1 (by rw[e];rfl)
  ·simp only[eK.add,if_pos hl1.symm]
   have h1:=aaB hown2;rw[hl1]at h1;refine(aQ _ _ _).1 _ _ h1 fun x hx=>hset x fun e=>?_;obtain⟨_,a,rfl,rfl⟩:=hx;exact hgn (by rw[←e];rfl)
 ·rw[hlv]
  rcases hcs j b' hj with⟨hjl,hj⟩|⟨rfl,rfl⟩
  ·exact⟨(h.fw j b' hj x hx).1,hnew x ((aQ _ _ _).2 w x (h.rw j b' hj) hx) (h.fw j b' hj x hx).2⟩
  ·exact⟨(h.fw j b hbl x hx).1,hnew x ((aQ _ _ _).2 w x (h.rw j b hbl) hx) (h.fw j b hbl x hx).2⟩
 ·rw[hlv,hlen]
  rcases hcs j b' hj with⟨hjl,hj⟩|⟨rfl,rfl⟩
  ·simp only[eK.add,if_neg (show j≠o.length-1 by omega)]at hx
   exact⟨(h.fs j b' hj x hx).1,fun hlt=>hnew x ((aQ _ _ _).2 w x (h.rs j b' hj) hx) ((h.fs j b' hj x hx).2 hlt)⟩
  ·simp only[eK.add,if_pos hl1.symm]at hx
   obtain⟨_,a,rfl,rfl⟩:=hx;refine⟨fun e=>?_,fun hlt=>by omega⟩;have e:some g=some a.block:=e;exact hgn (by rw[e];rfl)
 ·rw[hlv,hlen]
  have e:b'=(b.1,b.2.1,b.2.2++s):=by
   rw[List.getLast?_eq_getElem?,hlen,hl1,List.getElem?_set_self qo]at hb';injection hb' with hb';exact hb'.symm
  subst e
  simp only[eK.add,if_true]
  exact cU hown2 fun x hx=>hset x fun e=>hgn (by rw[←e];exact hx)
 ·rw[hlv]
  have e:some g=some x:=hx;injection e with e;rw[←e];exact hgn
 ·rcases hcs j b' hj with⟨hjl,hj⟩|⟨rfl,rfl⟩
  ·exact h.bw j b' hj x hx
  ·exact h.bw j b hbl x hx
 ·rcases hcs j b' hj with⟨hjl,hj⟩|⟨rfl,rfl⟩
  ·simp only[eK.add,if_neg (show j≠o.length-1 by omega)]at hx
   exact h.bs j b' hj x hx
  ·simp only[eK.add,if_pos hl1.symm]at hx
   obtain⟨_,a,rfl,rfl⟩:=hx;exact(hown2.lt a.block rfl).1
def CD (v:Value)(o:List aV)(d:eK)(x:Nat):Prop:=v.ownBlock=some x∨(gD o.length d).ownBlock=some x∨∃j b,o[j]?=some b∧(Fb (d.W j) b.2.1.length x∨Fb (d.S j) (d.m j*6) x)
theorem iZ.zM (h:iZ B v o d w)(ho:0<o.length){x:Nat}(hx:CD v o d x):x<w.heap.size:=by
 rcases hx with hx|hx|⟨j,b,hj,hx|hx⟩
 ·exact(h.own.lt x hx).2
 ·obtain⟨b,hb⟩:∃b,o.getLast?=some b:=⟨o[o.length-1],by rw[List.getLast?_eq_getElem?,List.getElem?_eq_getElem]⟩
  exact((h.lo b hb).lt x hx).2
 ·exact(aQ _ _ _).2 w x (h.rw j b hj) hx
 ·exact(aQ _ _ _).2 w x (h.rs j b hj) hx
theorem iZ.ahy (h:iZ B v o d w)(ho:0<o.length){x:Nat}(hx:CD v o d x):B≤x:=by
 rcases hx with hx|hx|⟨j,b,hj,hx|hx⟩
 ·exact(h.own.lt x hx).1
 ·obtain⟨b,hb⟩:∃b,o.getLast?=some b:=⟨o[o.length-1],by rw[List.getLast?_eq_getElem?,List.getElem?_eq_getElem]⟩
  exact((h.lo b hb).lt x hx).1
 ·exact h.bw j b hj x hx
 ·exact h.bs j b hj x hx
theorem iZ.keep (h:iZ B v o d w)(ho:0<o.length)(hk:∀x,CD v o d x→w'.heap[x]?=w.heap[x]?):iZ B v o d w':=
 ⟨cU h.own fun x hx=>hk x (.inl hx),
  fun j b hj=>(aQ _ _ _).1 _ _ (h.rw j b hj) fun x hx=>hk x (.inr (.inr ⟨j,b,hj,.inl hx⟩)),
  h.ln,
  fun j b hj=>(aQ _ _ _).1 _ _ (h.rs j b hj) fun x hx=>hk x (.inr (.inr ⟨j,b,hj,.inr hx⟩)),
  h.fw,h.fs,
  fun b hb=>cU (h.lo b hb) fun x hx=>hk x (.inr (.inl hx)),
  h.lv,h.bw,h.bs⟩
theorem iZ.fr {F:Nat→Prop}(h:iZ B v o d w)(ho:0<o.length)(hf:Fr w w' F)(hF:∀x,CD v o d x→¬F x):iZ B v o d w':=
 ⟨cU h.own fun x hx=>hf.block x (h.zM ho (.inl hx)) (hF x (.inl hx)),
  fun j b hj=>(aQ _ _ _).fr (h.rw j b hj) hf fun x hx=>hF x (.inr (.inr ⟨j,b,hj,.inl hx⟩)),
  h.ln,
  fun j b hj=>(aQ _ _ _).fr (h.rs j b hj) hf fun x hx=>hF x (.inr (.inr ⟨j,b,hj,.inr hx⟩)),
  h.fw,h.fs,
  fun b hb=>cU (h.lo b hb) fun x hx=>hf.block x (h.zM ho (.inr (.inl hx))) (hF x (.inr (.inl hx))),
  h.lv,h.bw,h.bs⟩
theorem Lb {b:aV}(hb:o.getLast?=some b){A':Option Addr}{c':Nat}{s:List Int}{x:Nat}(hx:CD v (dV o s) (d.add (o.length-1) A' c') x):(Value.slice A' (d.m (o.length-1)+1) c').ownBlock=some x∨CD v o d x:=by
 have h0:0<o.length:=List.length_pos_iff.2 fun e=>by rw[e]at hb;cases hb
 have hbl:o[o.length-1]?=some b:=by rw[←hb,List.getLast?_eq_getElem?]
 rw[P9 hb]at hx
 rcases hx with hx|hx|⟨j,b',hj,hx⟩
 ·exact .inr (.inl hx)
 ·rw[List.length_set]at hx
  simp only[gD,eK.add,if_true]at hx
  exact .inl hx
 ·rw[List.getElem?_set]at hj
  by_cases e:o.length-1=j
  ·rw[if_pos e,if_pos qo]at hj
   injection hj with hj;subst hj;subst e
   simp only[eK.add,if_true]at hx
   rcases hx with hx|hx
   ·exact .inr (.inr (.inr ⟨_,b,hbl,.inl hx⟩))
   ·obtain⟨_,a,rfl,rfl⟩:=hx
    exact .inl rfl
  ·rw[if_neg e]at hj
   simp only[eK.add,if_neg (fun e'=>e e'.symm:¬j=o.length-1)]at hx
   exact .inr (.inr (.inr ⟨j,b',hj,hx⟩))
end
theorem mS {P:Program}(W:World){ops:Array Oper}{rest:List Oper}{o:Oper}{a:Act}{Q:Exit→Act→World→Prop}(hgd:o.guard=none)(s x:Operand)(t:TypeId)
 (ho:o.op=.call {callee:=.builtin .append,args:=#[s,x],argTypes:=#[t,t]})
 (base:Nat) (e:TypeId) (i:TypeInfo) (z:Value) (size bytes:Nat) (ht:P.underlying t=some (.slice e)) (hi:P.info? e=some i) (hz:i.zero=some z)
 (hsize:i.size=size) (hby:i.bytes=bytes) (hzs:z.cells.size=size) (hsz:0<size)
 (v:Value) (n:Nat) (xs:List Value) (hs:a.eval s=v) (hown:W.ownsRow base e size v n xs)
 (te:TypeId) (m c:Nat) (news:List Value) (q:Nat) (hq:q=W.heap.size) (hx:a.eval x=.slice (some ⟨q,0,none⟩) m c) (hl:news.length=m*size) (h1:∀u∈news,u.oneCell'=true)
 (h63:n+m≤maxLen) (hbytes:(n+m)*bytes≤140737488355328) (hbase:base≤W.heap.size)
 (h:∀v' w',w'.ownsRow base e size v' (n+m) (xs++news)→Fr W w' (fun b=>v.ownBlock=some b)→(v'.ownBlock=v.ownBlock∨v'.ownBlock=some (q+1))→wpList P ops Q rest (a.put o.dst v') w'):
 wpList P ops Q (o::rest) a (W.alloc (.cells news.toArray te)):=by
 subst hq;exact cB W hgd s x t ho base e i z size bytes ht hi hz hsize hby hzs hsz v n xs hs hown te m c news hx hl h1 h63 hbytes hbase h
theorem tq:(Tryz.prog.info? 113).map (fun i=>(i.zero,i.size,i.bytes))=some (some (.agg #[.int .i64 0,.slice none 0 0,.slice none 0 0]),3,56):=by kernel_rfl
theorem sw:(Tryz.prog.info? 91).map (fun i=>(i.zero,i.size,i.bytes))=some (some (.agg #[.int .i64 0,.int .i64 0,.int .i64 0,.int .i64 0,.int .i64 0,.int .i64 0]),6,48):=by kernel_rfl
def Vu (w:World)(r:Option (List aV))(e:Ending)(w':World):Prop:=Below w.heap.size w w'∧match r with
 |none=>e=.returned (.tuple #[.slice none 0 0,.int .i64 5])
 |some o=>∃A c d,e=.returned (.tuple #[.slice A o.length c,.int .i64 0])∧iZ w.heap.size (.slice A o.length c) o d w'
theorem CB (w:World):iZ w.heap.size (.slice (some ⟨w.heap.size,0,none⟩) 1 1) [(0,[],[])] ⟨fun _=>none,fun _=>none,fun _=>0,fun _=>0,fun _=>0⟩ (w.alloc (.cells #[.int .i64 0,.slice none 0 0,.slice none 0 0] 113)):=by
 have hc:∀j b,([((0:Int),([]:List Int),([]:List Int))]:List aV)[j]?=some b→j=0∧b=(0,[],[]):=fun j b h=>by
  rcases j with _|j
  ·simp at h
   exact⟨rfl,h.symm⟩
  ·simp at h
 refine⟨?_,fun j b hj=>?_,fun j b hj=>?_,fun j b hj=>?_,fun j b hj x hx=>?_,fun j b hj x hx=>?_,fun b hb=>?_,fun x hx=>?_,fun j b hj x hx=>?_,fun j b hj x hx=>?_⟩
 ·exact World.ownsRow_lit (base:=w.heap.size) (e:=113) (size:=3) w #[.int .i64 0,.slice none 0 0,.slice none 0 0] 1 ql qm rfl
 ·obtain⟨_,rfl⟩:=hc j b hj
  intro h0
  cases h0
 ·obtain⟨_,rfl⟩:=hc j b hj
  rfl
 ·obtain⟨_,rfl⟩:=hc j b hj
  intro h0
  simp at h0
 ·obtain⟨h0,_⟩:=hx
  obtain⟨_,rfl⟩:=hc j b hj
  cases h0
 ·obtain⟨h0,_⟩:=hx
  simp at h0
 ·simp at hb
  subst hb;exact World.ownsRow_nil _ _ _ _
 ·intro e
  cases e
 ·obtain⟨h0,_⟩:=hx
  obtain⟨_,rfl⟩:=hc j b hj
  cases h0
 ·obtain⟨h0,_⟩:=hx
  simp at h0
theorem Y2 {z:Nat→Int}{N:Nat}(hv:(cnt z 0 N).isSome=true){k:Nat}(hk:k<N):gJ (z (k*6)) (z (k*6+1)) (z (k*6+2)) (z (k*6+3)) (z (k*6+4)) (z (k*6+5)) (fZ z k)=true∧fZ z (k+1)=bD (z (k*6)) (z (k*6+2)) (fZ z k)∧0≤fZ z k∧fZ z k≤12:=by
 obtain⟨m0,hm0⟩:∃m,cnt z 0 k=some m:=by
  exact zQ28x0
 have WR:gJ (z (k*6)) (z (k*6+1)) (z (k*6+2)) (z (k*6+3)) (z (k*6+4)) (z (k*6+5)) m0=true∧bD (z (k*6)) (z (k*6+2)) m0≤12:=Decidable.byContradiction fun hn=>by
  have h2:=F6 hm0 hn;rw[rM z 0 (show k+1≤N by omega) h2]at hv
  cases hv
 have hb:=F8 hm0;have h3:=MR hm0 WR.1 WR.2
 simp only[fZ,hm0,h3,Option.getD_some]
 exact⟨WR.1,trivial,hb.1,hb.2⟩
theorem vW {z:Nat→Int}{N:Nat}(hv:(cnt z 0 N).isSome=true){k:Nat}(hk:k≤N):0≤fZ z k∧fZ z k≤12:=by
 obtain⟨m0,hm0⟩:∃m,cnt z 0 k=some m:=by
  exact zQ28x0
 simp only[fZ,hm0,Option.getD_some]
 exact F8 hm0
theorem Ba (z:Nat→Int)(k:Nat):(kZ z k).length≤k:=by
 induction k with
 |zero=>exact Nat.le_refl _
 |succ k ih=>
  simp only[kZ]
  split
  ·have:=G.sM (kZ z k++[NW z k])
   rw[List.length_append,List.length_singleton]at this;omega
  ·exact Nat.zero_le _
theorem og {o:List aV}{s:List Int}{b:aV}(h:b∈dV o s):∃b0∈o,b=b0∨b.2.2=b0.2.2++s:=by
 unfold dV at h
 cases hl:o.getLast? with
 |none=>rw[hl]at h;cases h
 |some b0=>
  rw[hl]at h
  rcases List.mem_append.1 h with h|h
  ·exact⟨b,(by rw[List.dropLast_eq_take]at h;exact List.mem_of_mem_take h),.inl rfl⟩
  ·rw[List.mem_singleton.1 h]
   exact⟨b0,List.mem_of_getLast? hl,.inr rfl⟩
theorem T3 {n:Int}{W:List Int}{o o':List aV}(h:flush n W o=some o'){b:aV}(hb:b∈o'):b∈o∨b.2.2=[]:=by
 unfold flush at h
 split at h
 ·cases h
 ·split at h
  ·injection h with h
   rw[←h]at hb;exact .inl hb
  ·injection h with h
   rw[←h]at hb
   rcases List.mem_append.1 hb with hb|hb
   ·exact .inl hb
   ·rw[List.mem_singleton.1 hb]
    exact .inr rfl
theorem Y8 {z:Nat→Int}{k:Nat}{o:List aV}(h:j8 z k=some o):∀b∈o,b.2.2.length≤k*6:=by
 induction k generalizing o with
 |zero=>
  injection h with h;rw[←h];intro b hb;rw[List.mem_singleton.1 hb]
  simp
 |succ k ih=>
  simp only[j8]at h
  split at h
  ·intro b hb
   have:=ih h b hb;omega
  ·cases hk:j8 z k with
   |none=>rw[hk]at h;cases h
   |some o1=>
    rw[hk]at h
    simp only[Option.bind_some]at h
    cases hf:flush (fZ z k) (kZ z k) o1 with
    |none=>rw[hf]at h;cases h
    |some o2=>
     rw[hf]at h;injection h with h;intro b hb;rw[←h]at hb;obtain⟨b0,hb0,he⟩:=og hb;have h0:b0.2.2.length≤k*6:=by
      rcases T3 hf hb0 with h1|h1
      ·exact ih hk b0 h1
      ·rw[h1]
       simp
     rcases he with rfl|he
     ·omega
     ·rw[he,List.length_append]
      simp[pF]
      omega
theorem WC {c x:Int}(h:c=1∨c= -1)(hx:0≤x∧x≤100):IntKind.i64.wrap (c*x)=c*x∧ -100≤c*x∧c*x≤100:=by
 rcases h with rfl|rfl
 ·rw[Int.one_mul]
  exact⟨IntWalk.i64_in _ qo,by omega,by omega⟩
 ·rw[Int.neg_one_mul]
  exact⟨IntWalk.i64_in _ qo,by omega,by omega⟩
theorem UC (A:OA)(N c:Nat)(z:Nat→Int)(w:World)(ha:Rd w A (N*6) (fun j=>.int .i64 (z j)))(hN:N≤2000)(hv:(cnt z 0 N).isSome=true):
 Calls Tryz.prog 74 #[.slice A N c] w (Vu w (iI z N)):=by
 obtain⟨i0,hi,iz,is,ib⟩:=info_parts info64;obtain⟨j0,hj0,jz,js,jb⟩:=info_parts tq;obtain⟨k0,hk0,kz,ks,kb⟩:=info_parts sw;have HA:=qh ha;have HV:=qh hv;have bZ:=qh ((CB w).below ((Below.refl _ _).alloc ql (.cells #[] 2)));have B7:=qh (CB w);have HB1:=qh (((Below.refl w.heap.size w).alloc ql (.cells #[.int .i64 0,.slice none 0 0,.slice none 0 0] 113)).alloc qj (.cells #[] 2));have HW1:=qh (World.ownsRow_made (base:=w.heap.size) (e:=2) (size:=1) (w.alloc (.cells #[.int .i64 0,.slice none 0 0,.slice none 0 0] 113)) #[] 0 qj qm rfl);clear ha hv
 go_enter Tryz.func74,Tryz.ntmps74
 go_wp2_with fail
 go_loopw [4,5,6,7,8,9] (fun ov nv wv x _ _ wr=>∃(k:Nat) (o:List aV) (d:eK) (A4:OA) (c4:Nat),k≤N∧x=.int .i64 k∧Hq (j8 z k=some o)∧ov=.slice A4 o.length c4∧nv=.int .i64 (fZ z k)∧Hq (iZ w.heap.size (.slice A4 o.length c4) o d wr)∧Hq (wr.ownsRow w.heap.size 2 1 wv (kZ z k).length (ints (kZ z k)))∧Hq (∀x,wv.ownBlock=some x→¬CD (.slice A4 o.length c4) o d x)∧Hq (Below w.heap.size w wr)) (fun _ _ _ x _ _ _=>N-(intOf x).toNat)
 case atStart=>exact⟨0,[(0,[],[])],_,_,_,Nat.zero_le _,rfl,qh rfl,rfl,rfl,bZ,qh (by have h:=HW1.o;simp only[World.size_alloc]at h;exact h),qh (fun x hx hi=>by
  have h1:=B7.o.zM (Nat.zero_lt_one) hi;injection hx with hx;rw[World.size_alloc]at h1
  simp at hx
  omega),HB1⟩
 case round=>
  clear bZ B7 HB1 HW1;obtain⟨k,o,d,A4,c4,hk,rfl,HT,rfl,rfl,HM,qE,E0,HB⟩:=hrel;have hlo:=yw HT.o;have E9:=qh (vW HV.o hk);have hwl:=Ba z k;have wV:=qh (ED HV.o hk)
  by_cases hlt:k<N
  ·obtain⟨ga,off,rfl,hg,hr⟩:=HA.o qo
   have r0:=aD HB.o hg (hr (k*6) qo);have r1:=aD HB.o hg (hr (k*6+1) qo);have r2:=aD HB.o hg (hr (k*6+2) qo);have r3:=aD HB.o hg (hr (k*6+3) qo);have r4:=aD HB.o hg (hr (k*6+4) qo);have r5:=aD HB.o hg (hr (k*6+5) qo);have oT:=qh (Y2 HV.o hlt);have dC:=qh (show NW z k=z (k*6+2)*(z (k*6+1)+1)from rfl);have AW:=qh (show kZ z (k+1)=if z (k*6)=1 then G.red (kZ z k++[NW z k])else []from rfl);have wW:=qh (show j8 z (k+1)=if z (k*6)=1 then j8 z k else(j8 z k).bind fun o=>(flush (fZ z k) (kZ z k) o).map fun o'=>dV o' (pF z k)from rfl);have L8:=qh (show pF z k=[z (k*6),z (k*6+1),z (k*6+2),z (k*6+3),z (k*6+4),z (k*6+5)]from rfl);rw[HT.o]at wW;obtain⟨z0,hz0⟩:=qx (z (k*6));obtain⟨z1,hz1⟩:=qx (z (k*6+1));obtain⟨z2,hz2⟩:=qx (z (k*6+2));obtain⟨z3,hz3⟩:=qx (z (k*6+3));obtain⟨z4,jF⟩:=qx (z (k*6+4));obtain⟨z5,DN⟩:=qx (z (k*6+5))
   simp only[←hz0,←Nat.add_assoc]at r0
   simp only[←hz1,←Nat.add_assoc]at r1
   simp only[←hz2,←Nat.add_assoc]at r2
   simp only[←hz3,←Nat.add_assoc]at r3
   simp only[←jF,←Nat.add_assoc]at r4
   simp only[←DN,←Nat.add_assoc]at r5
   rw[←hz0,←hz1,←hz2,←hz3,←jF,←DN]at oT L8;rw[←hz1,←hz2]at dC;rw[←hz0]at AW wW;clear hr hz0 hz1 hz2 hz3 jF DN;obtain⟨n,hn⟩:=qx (fZ z k);obtain⟨L,hL⟩:=qx (kZ z k);rw[←hn]at oT wW E9 wV ⊢;rw[←hL]at AW wW qE hwl wV;clear hn hL;have hcn:=E9.o;have b1:(0:Int)≤(k:Int):=qo;have b2:(k:Int)<(N:Int):=qo;have hBW:=HB.o.size;have Ai:=qh (HB.o.alloc hBW (.cells #[.int .i64 z0,.int .i64 z1,.int .i64 z2,.int .i64 z3,.int .i64 z4,.int .i64 z5] 91));have Vm:=qh ((Below.refl wr.heap.size wr).alloc ql (.cells #[.int .i64 z0,.int .i64 z1,.int .i64 z2,.int .i64 z3,.int .i64 z4,.int .i64 z5] 91));have Po:=qh (HM.o.below Vm.o);have zo:=qh (own_below qE.o Vm.o)
   by_cases hc1:z0=1
   ·subst hc1
    obtain⟨p0,p1,p2⟩:=C8 oT.o.1;obtain⟨s1,s2,s3⟩:=WC (c:=z2) (x:=z1+1) p2 qo;obtain⟨X,hX⟩:=qx (z2*(z1+1));rw[←hX]at dC s1 s2 s3;rw[if_pos rfl,dC.o]at AW;rw[if_pos rfl]at wW;have j9:=qh (show fZ z (k+1)=n by rw[oT.o.2.1];simp[bD]);have HX:=qh hX;rw[hX]at s1;clear hX
    go_wp2_with (at_builtin;go_must (refine mS (wr.alloc (.cells #[.int .i64 1,.int .i64 z1,.int .i64 z2,.int .i64 z3,.int .i64 z4,.int .i64 z5] 91)) rfl (.tmp 27) (.tmp 34) _ rfl w.heap.size 2 i0 _ 1 8 Tryz.underlying34 hi iz is ib rfl qo u6 L.length _ rfl zo.o _ 1 1 [.int .i64 (z2*(z1+1))] (wr.heap.size+1) qj rfl rfl (by simp[Value.oneCell']) qm qo Ai.o.size ?_);intro v' w' hown' hf' hat';have HOWN':=qh hown';have gX:=qh hf';clear hown' hf' hat')
    have iR:=qh (Po.o.fr qo gX.o (fun x hx he=>E0.o x he hx));have HB2:=qh (Ai.o.trans (gX.o.own zo.o Ai.o.size));obtain⟨A7,c7,rfl⟩:=aF HOWN'.o;have l8:=qh (show cX w' A7 (L++[X])from iD (n:=L.length+1) (c:=c7) (B:=w.heap.size) (by rw[aT,HX.o];exact HOWN'.o));have iJ:=qh (UP (L++[X]) A7 c7 w' l8.o (by rw[List.length_append,List.length_singleton];omega) (fun y hy=>by
     rcases List.mem_append.1 hy with hy|hy
     ·have:=wV.o y hy
      omega
     ·rw[List.mem_singleton.1 hy]
      omega))
    rw[List.length_append,List.length_singleton]at iJ;clear HOWN' gX
    go_wp2_with fail
    refine iJ.o.mono ?_;rintro e w3 h3;obtain⟨A8,c8,rfl,tJ,_,qC⟩:=h3.rd;have PQ:=qh (eF tJ HB2.o.size);have HM8:=qh (iR.o.below qC);have eW:=HB2.st qC;have HS8:=qh (show∀x,(Value.slice A8 (G.red (L++[X])).length c8).ownBlock=some x→¬CD (.slice A4 o.length c4) o d x from fun x hx hi=>by
     have h1:=(tJ.lt x hx).1;have h2:=iR.o.zM qo hi;omega)
    clear h3 tJ qC
    go_wp2_with fail
    go_roundw
    case rel=>exact⟨k+1,o,d,A4,c4,by omega,qg,wW,rfl,by rw[j9.o],HM8,qh (by rw[AW.o];exact PQ.o),HS8,eW⟩
    case measure=>exact qs
   ·have hwn:kZ z (k+1)=[]:=AW.o.trans (if_neg hc1)
    have htn:=wW.o.trans (if_neg hc1);rw[Option.bind_some]at htn;have RC:=qh hwn;have FH:=qh htn;have hcb:(z0==1)=false:=by rw[beq_eq_false_iff_ne];exact hc1
    have rE:=qh (aB.at_ (g':=wr.heap.size) wr 91 #[.int .i64 z0,.int .i64 z1,.int .i64 z2,.int .i64 z3,.int .i64 z4,.int .i64 z5] rfl);obtain⟨A6,c6,rfl⟩:=aF zo.o;have BA:=qh (fun x hx=>HM.o.zM (by omega:0<o.length) (x:=x) hx);have HST:=qh (Y8 HT.o);clear hwn htn AW wW dC HM qE
    by_cases hlen:40<L.length
    ·have kK:=qh (show iI z N=none from YA (j:=k+1) hlt (by rw[FH.o];unfold flush;rw[if_pos hlen];rfl))
     have hl2:(40:Int)<(L.length:Int):=qo
     go_wp2_with fail
     go_ret2
     exact⟨Ai.o,by rw[kK.o];rfl⟩
    have hl2:¬(40:Int)<(L.length:Int):=qo;obtain⟨nn,rfl⟩:∃nn:Nat,n=nn:=⟨n.toNat,(Int.toNat_of_nonneg E9.o.1).symm⟩;have J1:=qh (show Calls Tryz.prog 106 #[.int .i64 nn,.slice A6 L.length c6,.slice none 0 0] (wr.alloc (.cells #[.int .i64 z0,.int .i64 z1,.int .i64 z2,.int .i64 z3,.int .i64 z4,.int .i64 z5] 91)) _ from zK (n:=nn) L [] A6 none c6 0 _ (iD zo.o) (fun h0=>absurd h0 (Nat.lt_irrefl 0)) qo wV.o (fun x hx=>by cases hx) qo qj)
    go_wp2_with fail
    refine J1.o.mono ?_;rintro e w2 ⟨rfl,hb2⟩;rw[BO];have HB2:=Ai.st hb2;have dW:=qh (Po.o.below hb2);have tO:=qh (rE.o.below hb2 rE.o.lt);have HW2:=qh (own_below zo.o hb2);clear hb2 J1 Ai Po rE zo Vm
    by_cases ht:triv nn L=true
    ·rw[ht]
     have aO:=qh (show flush nn L o=some o by unfold flush;rw[if_neg hlen];exact if_pos ht);obtain⟨wy,pC⟩:=qx (w2);subst pC;obtain⟨o1,ho1⟩:=qx (o);subst ho1;obtain⟨d1,hd1⟩:=qx (d);subst hd1;have J6:=qh (show∀b∈o1,b.2.2.length≤k*6 from HST.o);have dP:=qh (show¬(gD o1.length d1).ownBlock=some wr.heap.size from fun e=>Nat.lt_irrefl _ (BA.o _ (.inr (.inl e))));have HGE:=qh (show∀g,(Value.slice A4 o1.length c4).ownBlock=some g→g≠wr.heap.size from fun g hg e=>Nat.lt_irrefl _ (e▸BA.o g (.inl hg)));have kW:=dW;have jO:=HB2;have HKY:=tO;clear dW HB2 tO HW2 E0;have HT1:=qh (show j8 z (k+1)=some (dV o1 (pF z k))by rw[FH.o,aO.o];rfl);obtain⟨q,hq⟩:∃q,o1.length=q+1:=⟨o1.length-1,by omega⟩;obtain⟨b,hb⟩:∃b,o1[q]?=some b:=⟨_,List.getElem?_eq_getElem qo⟩;have jA:=qh (show o1.getLast?=some b by rw[List.getLast?_eq_getElem?,hq];exact hb);obtain⟨g5,c5,hv5,hg5,CY⟩:=kW.o.form qo;injection hv5 with hv5 _ oM;subst hv5 oM;have sZ:=qh (kW.o.below ((Below.refl _ _).alloc ql (.cells #[] 2)));have t6:=qh (HKY.o.alloc (.cells #[] 2));have Q3:=qh (jO.o.alloc jO.o.size (.cells #[] 2));have Oo:=qh (World.ownsRow_made (base:=w.heap.size) (e:=2) (size:=1) wy #[] 0 jO.o.size qm rfl);have PJ:=qh (show(wy.alloc (.cells #[] 2)).heap.size=wy.heap.size+1 by simp);have E8:=qh (fun x hx=>kW.o.zM (by omega:0<o1.length) (x:=x) hx);have hq1:q≤3000:=qo;have b4:(0:Int)≤(q:Int):=qo;have b5:(q:Int)<((q+1:Nat):Int):=qo;have e7:((q+1:Nat):Int)-1=(q:Int):=qo;rw[hq]
     go_wp2_with fail
     obtain⟨wz,hwz⟩:=qx (wy.alloc (.cells #[] 2));rw[←hwz]at sZ t6 Q3 Oo PJ ⊢;obtain⟨_,_,m2⟩:=DX sZ.o hb;have t0:=t6.o.cell 0;have t1:=t6.o.cell 1;have t2:=t6.o.cell 2;have t3:=t6.o.cell 3;have t4:=t6.o.cell 4;have t5:=t6.o.cell 5;have t0:wz.cell? ⟨wr.heap.size,0,none⟩=some (.int .i64 z0):=t0;have t1:wz.cell? ⟨wr.heap.size,1,none⟩=some (.int .i64 z1):=t1;have t2:wz.cell? ⟨wr.heap.size,2,none⟩=some (.int .i64 z2):=t2;have t3:wz.cell? ⟨wr.heap.size,3,none⟩=some (.int .i64 z3):=t3;have t4:wz.cell? ⟨wr.heap.size,4,none⟩=some (.int .i64 z4):=t4;have t5:wz.cell? ⟨wr.heap.size,5,none⟩=some (.int .i64 z5):=t5;clear hwz;refine cN (S:=fun w'=>w'.cell? ⟨g5,q*3+2,none⟩=some (.slice (d1.S q) (d1.m q) (d1.cs q))∧w'.cell? ⟨wr.heap.size,0,none⟩=some (.int .i64 z0)∧w'.cell? ⟨wr.heap.size,1,none⟩=some (.int .i64 z1)∧w'.cell? ⟨wr.heap.size,2,none⟩=some (.int .i64 z2)∧w'.cell? ⟨wr.heap.size,3,none⟩=some (.int .i64 z3)∧w'.cell? ⟨wr.heap.size,4,none⟩=some (.int .i64 z4)∧w'.cell? ⟨wr.heap.size,5,none⟩=some (.int .i64 z5)) _ qj qk qk ⟨m2,t0,t1,t2,t3,t4,t5⟩ (fun hHeld=>?_)
     simp only[List.dropLast,List.getLast_cons_cons,List.getLast_singleton,List.length_cons,List.length_nil]
     refine qt 0 hHeld ?_;refine qt 1 hHeld ?_;refine qt 2 hHeld ?_;refine qt 3 hHeld ?_;refine qt 4 hHeld ?_;refine qt 5 hHeld ?_
     simp only[List.getElem_toArray,List.getElem_cons_succ,List.getElem_cons_zero,Act.put,List.setIfInBounds_toArray,List.set_cons_zero,List.set_cons_succ]
     refine wpAnyH_ready (rs:=[6]) qk qj ?_;refine AllReadyH.cons rfl (fun K hK=>?_) AllReadyH.nil
     simp only[List.getElem_toArray,List.getElem_cons_succ,List.getElem_cons_zero]
     go_simp
     refine hK.out _ _ (by go_keep) (fun fY=>?_);clear hK K hHeld;refine wpAnyH_ready (rs:=[7]) qk qj ?_;refine AllReadyH.cons rfl (fun K hK=>?_) AllReadyH.nil
     simp only[List.getElem_toArray,List.getElem_cons_succ,List.getElem_cons_zero]
     have hlo1:=sZ.o.lo b jA.o;have hq2:o1.length-1=q:=qo;have hlv:gD o1.length d1=.slice (d1.S q) (d1.m q) (d1.cs q):=by unfold gD;rw[hq2]
     rw[hlv,hq2]at hlo1;have Yj:d1.m q≤3000:=by
      have h1:=sZ.o.ln q b hb;have h2:=J6.o b (List.mem_of_getElem? hb);omega
     refine pT wz.drew (by rfl) (.tmp 61) (.tmp 63) _ (by rfl) w.heap.size 91 k0 _ 6 48 Tryz.underlying49 hk0 kz ks kb rfl qo (.slice (d1.S q) (d1.m q) (d1.cs q)) (d1.m q) (ints b.2.2) (by rfl) hlo1 _ 1 1 [.int .i64 z0,.int .i64 z1,.int .i64 z2,.int .i64 z3,.int .i64 z4,.int .i64 z5] (by rfl) rfl (by simp[Value.oneCell']) qm qo Q3.o.size ?_;intro v8 w8 gE bL iA;obtain⟨A8,c8,rfl⟩:=aF gE;have hge:=HGE.o g5 rfl;have kP:=dP.o;rw[hlv]at kP;have hl5:¬(Value.slice (d1.S q) (d1.m q) (d1.cs q)).ownBlock=some g5:=fun e=>sZ.o.lv g5 rfl (by rw[hlv];exact e);have DN:g5<wz.heap.size:=by rw[PJ.o];omega
     have DM:wr.heap.size<wz.heap.size:=t6.o.lt;have u2:=(bL.cells (g:=g5) DN hl5 (q*3+2)).trans m2;have v0:=(bL.cells DM kP 0).trans t0;have v1:=(bL.cells DM kP 1).trans t1;have v2:=(bL.cells DM kP 2).trans t2;have v3:=(bL.cells DM kP 3).trans t3;have v4:=(bL.cells DM kP 4).trans t4;have v5:=(bL.cells DM kP 5).trans t5;have f5:w8.frozen? ⟨g5,q*3+2,none⟩=false:=(World.frozen?_of_block (w:=wz.drew) (a:=⟨g5,q*3+2,none⟩) (bL.block g5 DN hl5)).trans (sZ.o.own.frozenAt (q*3+2));refine hK.out _ _ ⟨u2,v0,v1,v2,v3,v4,v5⟩ (fun bU=>?_);clear hK K fY;have mF:=qh ((sZ.o.drewN 1).add jA.o (A':=A8) (c':=c8) (s:=[z0,z1,z2,z3,z4,z5]) rfl (by rw[hq2];exact gE) (by rw[hlv];exact bL) (by rw[hlv,hq2];exact iA));rw[hq2]at mF;have tR:=qh (Below.setCell (p:=⟨g5,q*3+2,none⟩) (Q3.o.drew.trans (bL.own (w:=wz.drew) hlo1 Q3.o.size)) hg5 (.slice A8 (d1.m q+1) c8));have E7:=qh ((show aB w8 wr.heap.size 91 #[.int .i64 z0,.int .i64 z1,.int .i64 z2,.int .i64 z3,.int .i64 z4,.int .i64 z5]from aB.fr (w:=wz.drew) (t6.o.drewN 1) bL kP).far (p:=⟨g5,q*3+2,none⟩) (fun e=>hge e.symm) (.slice A8 (d1.m q+1) c8));have YQ:=qh (show(w8.setCell ⟨g5,q*3+2,none⟩ (.slice A8 (d1.m q+1) c8)).ownsRow w.heap.size 2 1 (.slice (some ⟨wy.heap.size,0,none⟩) 0 0) 0 []from cU Oo.o fun x hx=>by
      injection hx with hx;have hx:wy.heap.size=x:=hx;subst hx;refine(Below.heap_setCell w8 _ _ _ (fun e=>by have e:wy.heap.size=g5:=e;omega)).trans (bL.block _ (by have h4:wz.drew.heap.size=wz.heap.size:=rfl;have h5:=PJ.o;omega) (fun e=>by
       have h1:=E8.o _ (.inr (.inl (by rw[hlv];exact e)));omega)))
     have HSA:=qh (show∀x,(Value.slice (some ⟨wy.heap.size,0,none⟩) 0 0).ownBlock=some x→¬CD (.slice (some ⟨g5,0,none⟩) o1.length c4) (dV o1 [z0,z1,z2,z3,z4,z5]) (d1.add q A8 c8) x from fun x hx hi=>by
      injection hx with hx;have hx:wy.heap.size=x:=hx;subst hx;rw[←hq2]at hi
      rcases Lb jA.o hi with h1|h1
      ·rw[hq2]at h1
       rcases iA with h2|h2
       ·have h3:=E8.o _ (.inr (.inl (by rw[hlv];exact h2.symm.trans h1)))
        omega
       ·rw[h2]at h1
        injection h1 with h1;have h4:wz.drew.heap.size=wz.heap.size:=rfl;have h5:=PJ.o;omega
      ·have h3:=E8.o _ h1
       omega)
     have ZW:=qh (zJ z0 z1 z2 z3 z4 z5 nn wr.heap.size 0 (w8.setCell ⟨g5,q*3+2,none⟩ (.slice A8 (d1.m q+1) c8)) (qh ⟨E7.o.cell 0,E7.o.cell 1,E7.o.cell 2,E7.o.cell 3,E7.o.cell 4,E7.o.cell 5⟩) qo);rw[oT.o.1]at ZW;refine qt 8 bU ?_;refine qt 9 bU ?_
     simp only[List.getElem_toArray,List.getElem_cons_succ,List.getElem_cons_zero,Act.put,List.setIfInBounds_toArray,List.set_cons_zero,List.set_cons_succ]
     refine wpAnyH_done qk ?_ _;refine d8.of ?_
     go_simp
     clear bU v0 v1 v2 v3 v4 v5 u2 f5 bL gE iA hlo1
     go_wp2_with fail
     refine ZW.o.mono ?_;rintro e w9 ⟨v9,q9,rfl,Lf,rfl⟩;rw[Lf rfl]
     go_wp2_with fail
     go_roundw
     case rel=>exact⟨k+1,dV o1 (pF z k),d1.add q A8 c8,some ⟨g5,0,none⟩,c4,by omega,qg,HT1,by rw[cA,hq],by rw[oT.o.2.1],qh (by rw[cA,L8.o];exact mF.o.drewN q9),qh (by rw[RC.o];exact own_drewN YQ.o q9),qh (by rw[cA,L8.o];exact HSA.o),qh (Below.drewN' tR.o q9)⟩
     case measure=>exact qs
    ·rw[Bool.not_eq_true]at ht
     rw[ht];have OG:¬triv nn L=true:=by rw[ht];exact Bool.false_ne_true
     have aO:=qh (show flush nn L o=some (o++[((nn:Int),L,[])])by unfold flush;rw[if_neg hlen];exact if_neg OG)
     go_wp2_with (at_builtin;go_must (refine mS w2 rfl (.tmp 44) (.tmp 49) _ rfl w.heap.size 113 j0 _ 3 56 Tryz.underlying68 hj0 jz js jb rfl qo (.slice A4 o.length c4) o.length _ rfl dW.o.own _ 1 1 [.int .i64 nn,.slice A6 L.length c6,.slice none 0 0] w2.heap.size rfl rfl rfl (by simp[Value.oneCell']) qm qo HB2.o.size ?_);intro v' w' hown' hf' hat';have HOWN':=qh hown';have gX:=qh hf';have nE:=qh hat';clear hown' hf' hat')
     obtain⟨A7,c7,rfl⟩:=aF HOWN'.o;have L4:=qh (dW.o.push (A:=A6) (W:=L) (c:=c6) (n:=nn) (iD HW2.o) (fun x hx e=>by
      obtain⟨_,a,rfl,rfl⟩:=hx;exact E0.o _ rfl (.inl e)) (fun x hx=>by obtain⟨_,a,rfl,rfl⟩:=hx;exact(HW2.o.lt _ rfl).1) HOWN'.o gX.o nE.o)
     have jO:=qh (HB2.o.trans (gX.o.own dW.o.own HB2.o.size));have HKY:=qh (tO.o.fr gX.o (fun e=>Nat.lt_irrefl _ (BA.o _ (.inl e))));have J6:=qh (show∀b∈o++[((nn:Int),L,[])],b.2.2.length≤k*6 from fun b hb=>by
      rcases List.mem_append.1 hb with hb|hb
      ·exact HST.o b hb
      ·rw[List.mem_singleton.1 hb]
       exact Nat.zero_le _)
     have dP:=qh (show¬(gD (o++[((nn:Int),L,[])]).length (d.push o.length A6 c6)).ownBlock=some wr.heap.size from fun e=>by
      simp[gD,eK.push,Value.ownBlock]at e)
     have HGE:=qh (show∀g,(Value.slice A7 (o.length+1) c7).ownBlock=some g→g≠wr.heap.size from fun g hg e=>by
      rcases nE.o with h1|h1
      ·exact Nat.lt_irrefl _ (e▸BA.o g (.inl (h1.symm.trans hg)))
      ·rw[h1]at hg
       injection hg with hg;have h2:=tO.o.lt;omega)
     have hol:(o++[((nn:Int),L,[])]).length=o.length+1:=by simp
     obtain⟨d1,hd1⟩:=qx (d.push o.length A6 c6);obtain⟨o1,ho1⟩:=qx (o++[((nn:Int),L,[])]);have kW:=qh (show iZ w.heap.size (.slice A7 o1.length c7) o1 d1 w' from by rw[hd1,ho1,hol];exact L4.o);rw[←ho1]at aO J6 dP hol;rw[←hd1]at dP;rw[←hol]at HGE;clear ho1 hd1 L4 HOWN' gX nE dW HB2 tO HW2 E0;obtain⟨wy,pC⟩:=qx (w');subst pC;have HT1:=qh (show j8 z (k+1)=some (dV o1 (pF z k))by rw[FH.o,aO.o];rfl);obtain⟨q,hq⟩:∃q,o1.length=q+1:=⟨o1.length-1,by omega⟩;obtain⟨b,hb⟩:∃b,o1[q]?=some b:=⟨_,List.getElem?_eq_getElem qo⟩;have jA:=qh (show o1.getLast?=some b by rw[List.getLast?_eq_getElem?,hq];exact hb);obtain⟨g5,c5,hv5,hg5,CY⟩:=kW.o.form qo;injection hv5 with hv5 _ oM;subst hv5 oM;have sZ:=qh (kW.o.below ((Below.refl _ _).alloc ql (.cells #[] 2)));have t6:=qh (HKY.o.alloc (.cells #[] 2));have Q3:=qh (jO.o.alloc jO.o.size (.cells #[] 2));have Oo:=qh (World.ownsRow_made (base:=w.heap.size) (e:=2) (size:=1) wy #[] 0 jO.o.size qm rfl);have PJ:=qh (show(wy.alloc (.cells #[] 2)).heap.size=wy.heap.size+1 by simp);have E8:=qh (fun x hx=>kW.o.zM (by omega:0<o1.length) (x:=x) hx);have hq1:q≤3000:=qo;have b4:(0:Int)≤(q:Int):=qo;have b5:(q:Int)<((q+1:Nat):Int):=qo;have e7:((q+1:Nat):Int)-1=(q:Int):=qo;rw[show o.length+1=q+1 by omega]
     go_wp2_with fail
     obtain⟨wz,hwz⟩:=qx (wy.alloc (.cells #[] 2));rw[←hwz]at sZ t6 Q3 Oo PJ ⊢;obtain⟨_,_,m2⟩:=DX sZ.o hb;have t0:=t6.o.cell 0;have t1:=t6.o.cell 1;have t2:=t6.o.cell 2;have t3:=t6.o.cell 3;have t4:=t6.o.cell 4;have t5:=t6.o.cell 5;have t0:wz.cell? ⟨wr.heap.size,0,none⟩=some (.int .i64 z0):=t0;have t1:wz.cell? ⟨wr.heap.size,1,none⟩=some (.int .i64 z1):=t1;have t2:wz.cell? ⟨wr.heap.size,2,none⟩=some (.int .i64 z2):=t2;have t3:wz.cell? ⟨wr.heap.size,3,none⟩=some (.int .i64 z3):=t3;have t4:wz.cell? ⟨wr.heap.size,4,none⟩=some (.int .i64 z4):=t4;have t5:wz.cell? ⟨wr.heap.size,5,none⟩=some (.int .i64 z5):=t5;clear hwz;refine cN (S:=fun w'=>w'.cell? ⟨g5,q*3+2,none⟩=some (.slice (d1.S q) (d1.m q) (d1.cs q))∧w'.cell? ⟨wr.heap.size,0,none⟩=some (.int .i64 z0)∧w'.cell? ⟨wr.heap.size,1,none⟩=some (.int .i64 z1)∧w'.cell? ⟨wr.heap.size,2,none⟩=some (.int .i64 z2)∧w'.cell? ⟨wr.heap.size,3,none⟩=some (.int .i64 z3)∧w'.cell? ⟨wr.heap.size,4,none⟩=some (.int .i64 z4)∧w'.cell? ⟨wr.heap.size,5,none⟩=some (.int .i64 z5)) _ qj qk qk ⟨m2,t0,t1,t2,t3,t4,t5⟩ (fun hHeld=>?_)
     simp only[List.dropLast,List.getLast_cons_cons,List.getLast_singleton,List.length_cons,List.length_nil]
     refine qt 0 hHeld ?_;refine qt 1 hHeld ?_;refine qt 2 hHeld ?_;refine qt 3 hHeld ?_;refine qt 4 hHeld ?_;refine qt 5 hHeld ?_
     simp only[List.getElem_toArray,List.getElem_cons_succ,List.getElem_cons_zero,Act.put,List.setIfInBounds_toArray,List.set_cons_zero,List.set_cons_succ]
     refine wpAnyH_ready (rs:=[6]) qk qj ?_;refine AllReadyH.cons rfl (fun K hK=>?_) AllReadyH.nil
     simp only[List.getElem_toArray,List.getElem_cons_succ,List.getElem_cons_zero]
     go_simp
     refine hK.out _ _ (by go_keep) (fun fY=>?_);clear hK K hHeld;refine wpAnyH_ready (rs:=[7]) qk qj ?_;refine AllReadyH.cons rfl (fun K hK=>?_) AllReadyH.nil
     simp only[List.getElem_toArray,List.getElem_cons_succ,List.getElem_cons_zero]
     have hlo1:=sZ.o.lo b jA.o;have hq2:o1.length-1=q:=qo;have hlv:gD o1.length d1=.slice (d1.S q) (d1.m q) (d1.cs q):=by unfold gD;rw[hq2]
     rw[hlv,hq2]at hlo1;have Yj:d1.m q≤3000:=by
      have h1:=sZ.o.ln q b hb;have h2:=J6.o b (List.mem_of_getElem? hb);omega
     refine pT wz.drew (by rfl) (.tmp 61) (.tmp 63) _ (by rfl) w.heap.size 91 k0 _ 6 48 Tryz.underlying49 hk0 kz ks kb rfl qo (.slice (d1.S q) (d1.m q) (d1.cs q)) (d1.m q) (ints b.2.2) (by rfl) hlo1 _ 1 1 [.int .i64 z0,.int .i64 z1,.int .i64 z2,.int .i64 z3,.int .i64 z4,.int .i64 z5] (by rfl) rfl (by simp[Value.oneCell']) qm qo Q3.o.size ?_;intro v8 w8 gE bL iA;obtain⟨A8,c8,rfl⟩:=aF gE;have hge:=HGE.o g5 rfl;have kP:=dP.o;rw[hlv]at kP;have hl5:¬(Value.slice (d1.S q) (d1.m q) (d1.cs q)).ownBlock=some g5:=fun e=>sZ.o.lv g5 rfl (by rw[hlv];exact e);have DN:g5<wz.heap.size:=by rw[PJ.o];omega
     have DM:wr.heap.size<wz.heap.size:=t6.o.lt;have u2:=(bL.cells (g:=g5) DN hl5 (q*3+2)).trans m2;have v0:=(bL.cells DM kP 0).trans t0;have v1:=(bL.cells DM kP 1).trans t1;have v2:=(bL.cells DM kP 2).trans t2;have v3:=(bL.cells DM kP 3).trans t3;have v4:=(bL.cells DM kP 4).trans t4;have v5:=(bL.cells DM kP 5).trans t5;have f5:w8.frozen? ⟨g5,q*3+2,none⟩=false:=(World.frozen?_of_block (w:=wz.drew) (a:=⟨g5,q*3+2,none⟩) (bL.block g5 DN hl5)).trans (sZ.o.own.frozenAt (q*3+2));refine hK.out _ _ ⟨u2,v0,v1,v2,v3,v4,v5⟩ (fun bU=>?_);clear hK K fY;have mF:=qh ((sZ.o.drewN 1).add jA.o (A':=A8) (c':=c8) (s:=[z0,z1,z2,z3,z4,z5]) rfl (by rw[hq2];exact gE) (by rw[hlv];exact bL) (by rw[hlv,hq2];exact iA));rw[hq2]at mF;have tR:=qh (Below.setCell (p:=⟨g5,q*3+2,none⟩) (Q3.o.drew.trans (bL.own (w:=wz.drew) hlo1 Q3.o.size)) hg5 (.slice A8 (d1.m q+1) c8));have E7:=qh ((show aB w8 wr.heap.size 91 #[.int .i64 z0,.int .i64 z1,.int .i64 z2,.int .i64 z3,.int .i64 z4,.int .i64 z5]from aB.fr (w:=wz.drew) (t6.o.drewN 1) bL kP).far (p:=⟨g5,q*3+2,none⟩) (fun e=>hge e.symm) (.slice A8 (d1.m q+1) c8));have YQ:=qh (show(w8.setCell ⟨g5,q*3+2,none⟩ (.slice A8 (d1.m q+1) c8)).ownsRow w.heap.size 2 1 (.slice (some ⟨wy.heap.size,0,none⟩) 0 0) 0 []from cU Oo.o fun x hx=>by
      injection hx with hx;have hx:wy.heap.size=x:=hx;subst hx;refine(Below.heap_setCell w8 _ _ _ (fun e=>by have e:wy.heap.size=g5:=e;omega)).trans (bL.block _ (by have h4:wz.drew.heap.size=wz.heap.size:=rfl;have h5:=PJ.o;omega) (fun e=>by
       have h1:=E8.o _ (.inr (.inl (by rw[hlv];exact e)));omega)))
     have HSA:=qh (show∀x,(Value.slice (some ⟨wy.heap.size,0,none⟩) 0 0).ownBlock=some x→¬CD (.slice (some ⟨g5,0,none⟩) o1.length c7) (dV o1 [z0,z1,z2,z3,z4,z5]) (d1.add q A8 c8) x from fun x hx hi=>by
      injection hx with hx;have hx:wy.heap.size=x:=hx;subst hx;rw[←hq2]at hi
      rcases Lb jA.o hi with h1|h1
      ·rw[hq2]at h1
       rcases iA with h2|h2
       ·have h3:=E8.o _ (.inr (.inl (by rw[hlv];exact h2.symm.trans h1)))
        omega
       ·rw[h2]at h1
        injection h1 with h1;have h4:wz.drew.heap.size=wz.heap.size:=rfl;have h5:=PJ.o;omega
      ·have h3:=E8.o _ h1
       omega)
     have ZW:=qh (zJ z0 z1 z2 z3 z4 z5 nn wr.heap.size 0 (w8.setCell ⟨g5,q*3+2,none⟩ (.slice A8 (d1.m q+1) c8)) (qh ⟨E7.o.cell 0,E7.o.cell 1,E7.o.cell 2,E7.o.cell 3,E7.o.cell 4,E7.o.cell 5⟩) qo);rw[oT.o.1]at ZW;refine qt 8 bU ?_;refine qt 9 bU ?_
     simp only[List.getElem_toArray,List.getElem_cons_succ,List.getElem_cons_zero,Act.put,List.setIfInBounds_toArray,List.set_cons_zero,List.set_cons_succ]
     refine wpAnyH_done qk ?_ _;refine d8.of ?_
     go_simp
     clear bU v0 v1 v2 v3 v4 v5 u2 f5 bL gE iA hlo1
     go_wp2_with fail
     refine ZW.o.mono ?_;rintro e w9 ⟨v9,q9,rfl,Lf,rfl⟩;rw[Lf rfl]
     go_wp2_with fail
     go_roundw
     case rel=>exact⟨k+1,dV o1 (pF z k),d1.add q A8 c8,some ⟨g5,0,none⟩,c7,by omega,qg,HT1,by rw[cA,hq],by rw[oT.o.2.1],qh (by rw[cA,L8.o];exact mF.o.drewN q9),qh (by rw[RC.o];exact own_drewN YQ.o q9),qh (by rw[cA,L8.o];exact HSA.o),qh (Below.drewN' tR.o q9)⟩
     case measure=>exact qs
  ·obtain rfl:N=k:=qo
   have xF:=qh (show iI z N=(flush (fZ z N) (kZ z N) o).bind fun o=>if o.length≤60 then some o else none from by unfold iI;rw[HT.o];rfl);have BA:=qh (fun x hx=>HM.o.zM (by omega:0<o.length) (x:=x) hx);obtain⟨n,hn⟩:=qx (fZ z N);obtain⟨L,hL⟩:=qx (kZ z N);rw[←hn]at E9 wV xF ⊢;rw[←hL]at qE hwl wV xF;clear hn hL;have hcn:=E9.o;obtain⟨A6,c6,rfl⟩:=aF qE.o
   by_cases hlen:40<L.length
   ·have kK:=qh (show iI z N=none from by rw[xF.o];unfold flush;rw[if_pos hlen];rfl)
    have hl2:(40:Int)<(L.length:Int):=qo
    go_wp2_with fail
    go_ret2
    exact⟨HB.o,by rw[kK.o];rfl⟩
   have hl2:¬(40:Int)<(L.length:Int):=qo;obtain⟨nn,rfl⟩:∃nn:Nat,n=nn:=⟨n.toNat,(Int.toNat_of_nonneg E9.o.1).symm⟩;have J1:=qh (show Calls Tryz.prog 106 #[.int .i64 nn,.slice A6 L.length c6,.slice none 0 0] wr _ from zK (n:=nn) L [] A6 none c6 0 _ (iD qE.o) (fun h0=>absurd h0 (Nat.lt_irrefl 0)) qo wV.o (fun x hx=>by cases hx) qo qj)
   go_wp2_with fail
   refine J1.o.mono ?_;rintro e w2 ⟨rfl,hb2⟩;rw[BO];have HB2:=HB.st hb2;have dW:=qh (HM.o.below hb2);have HW2:=qh (own_below qE.o hb2);clear hb2 J1 HB HM qE
   by_cases ht:triv nn L=true
   ·rw[ht]
    have aO:=qh (show flush nn L o=some o by unfold flush;rw[if_neg hlen];exact if_pos ht)
    by_cases h60:60<o.length
    ·have kK:=qh (show iI z N=none from by rw[xF.o,aO.o,Option.bind_some];exact if_neg qo)
     have h61:(60:Int)<(o.length:Int):=qo
     go_wp2_with fail
     go_ret2
     exact⟨HB2.o,by rw[kK.o];rfl⟩
    ·have kK:=qh (show iI z N=some o from by rw[xF.o,aO.o,Option.bind_some];exact if_pos qo)
     have h61:¬(60:Int)<(o.length:Int):=qo
     go_wp2_with fail
     go_ret2
     exact⟨HB2.o,by rw[kK.o];exact⟨A4,c4,d,rfl,dW.o⟩⟩
   ·have hol:(o++[((nn:Int),L,[])]).length=o.length+1:=by simp
    have HOL:=qh hol;clear hol
    by_cases h60:60<o.length+1
    ·have h62:(60:Int)<(o.length:Int)+1:=qo
     rw[Bool.not_eq_true]at ht;rw[ht];have OG:¬triv nn L=true:=by rw[ht];exact Bool.false_ne_true
     have aO:=qh (show flush nn L o=some (o++[((nn:Int),L,[])])by unfold flush;rw[if_neg hlen];exact if_neg OG)
     go_wp2_with (at_builtin;go_must (refine mS w2 rfl (.tmp 79) (.tmp 84) _ rfl w.heap.size 113 j0 _ 3 56 Tryz.underlying68 hj0 jz js jb rfl qo (.slice A4 o.length c4) o.length _ rfl dW.o.own _ 1 1 [.int .i64 nn,.slice A6 L.length c6,.slice none 0 0] w2.heap.size rfl rfl rfl (by simp[Value.oneCell']) qm qo HB2.o.size ?_);intro v' w' hown' hf' hat';obtain⟨A7,c7,rfl⟩:=aF hown';have HOWN':=qh hown';have gX:=qh hf';have nE:=qh hat';clear hown' hf' hat')
     have L4:=qh (dW.o.push (A:=A6) (W:=L) (c:=c6) (n:=nn) (iD HW2.o) (fun x hx e=>by
      obtain⟨_,a,rfl,rfl⟩:=hx;exact E0.o _ rfl (.inl e)) (fun x hx=>by obtain⟨_,a,rfl,rfl⟩:=hx;exact(HW2.o.lt _ rfl).1) HOWN'.o gX.o nE.o)
     have jO:=qh (HB2.o.trans (gX.o.own dW.o.own HB2.o.size));have kK:=qh (show iI z N=none from by rw[xF.o,aO.o,Option.bind_some];exact if_neg (by have:=HOL.o;omega))
     go_wp2_with fail
     go_ret2
     exact⟨jO.o,by rw[kK.o];rfl⟩
    ·have h62:¬(60:Int)<(o.length:Int)+1:=qo
     rw[Bool.not_eq_true]at ht;rw[ht];have OG:¬triv nn L=true:=by rw[ht];exact Bool.false_ne_true
     have aO:=qh (show flush nn L o=some (o++[((nn:Int),L,[])])by unfold flush;rw[if_neg hlen];exact if_neg OG)
     go_wp2_with (at_builtin;go_must (refine mS w2 rfl (.tmp 79) (.tmp 84) _ rfl w.heap.size 113 j0 _ 3 56 Tryz.underlying68 hj0 jz js jb rfl qo (.slice A4 o.length c4) o.length _ rfl dW.o.own _ 1 1 [.int .i64 nn,.slice A6 L.length c6,.slice none 0 0] w2.heap.size rfl rfl rfl (by simp[Value.oneCell']) qm qo HB2.o.size ?_);intro v' w' hown' hf' hat';obtain⟨A7,c7,rfl⟩:=aF hown';have HOWN':=qh hown';have gX:=qh hf';have nE:=qh hat';clear hown' hf' hat')
     have L4:=qh (dW.o.push (A:=A6) (W:=L) (c:=c6) (n:=nn) (iD HW2.o) (fun x hx e=>by
      obtain⟨_,a,rfl,rfl⟩:=hx;exact E0.o _ rfl (.inl e)) (fun x hx=>by obtain⟨_,a,rfl,rfl⟩:=hx;exact(HW2.o.lt _ rfl).1) HOWN'.o gX.o nE.o)
     have jO:=qh (HB2.o.trans (gX.o.own dW.o.own HB2.o.size));have kK:=qh (show iI z N=some (o++[((nn:Int),L,[])])from by rw[xF.o,aO.o,Option.bind_some];exact if_pos (by have:=HOL.o;omega))
     go_wp2_with fail
     go_ret2
     exact⟨jO.o,by rw[kK.o];exact⟨A7,c7,d.push o.length A6 c6,(by rw[HOL.o];rfl),by rw[HOL.o];exact L4.o⟩⟩
end Go.Proofs.YtdnmhhohcedjbaaGreat
