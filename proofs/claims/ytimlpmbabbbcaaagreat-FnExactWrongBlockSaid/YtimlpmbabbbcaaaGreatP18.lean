/- Walks and plain lemmas. -/
import Derived.Test.YtimlpmbabbbcaaaGreatP12
import Derived.Test.YtimlpmbabbbcaaaGreatP13
set_option linter.unusedVariables false
set_option linter.unusedSectionVars false
set_option linter.unusedSimpArgs false
set_option maxHeartbeats 40000000
set_option maxRecDepth 20000
namespace Go.Proofs.YtimlpmbabbbcaaaGreat
open Go.RowKit
def pkS (s:aP)(st:Nat):Nat→Nat
 |0=>st
 |i+1=>max (pkS s st i) (max (s.f i) (s.k i))
def pkN (s:aP):Nat→Nat
 |0=>0
 |i+1=>pkN s i+(s.f i+s.k i)
section
variable {tg:Nat→Nat}{a:bV}{s:aP}{D:Nat}{w:World}
end
end Go.Proofs.YtimlpmbabbbcaaaGreat
namespace Go.Proofs.YtimlpmbabbbcaaaGreat
open Go.RowKit
def adF (k:Int):Int:=if k=1∨k=2∨k=3∨k=5 then 1 else if k=4 then 2 else if k=6 then 3 else 0
def ady (k:Int):Int:=if k=1 then 4 else if k=2 then 2 else if k=3 then 1 else 4
def adz (s:aP)(k d fb fa:Int)(j:Nat):Int:=if adF k=1 then(if d= -1 then s.cat j-aO fb fa s.rk-1 else aO fb fa s.rk-s.cat j)+ady k else 0
section
variable {tg:Nat→Nat}{a:bV}{s:aP}{D:Nat}{w:World}
end
end Go.Proofs.YtimlpmbabbbcaaaGreat
namespace Go.Proofs.YtimlpmbabbbcaaaGreat
open Go.RowKit Go.Sort
theorem zP18x1 {p:Prop}(h:p:=by
 repeat(
  with_reducible refine wpQuiet_step (fun K hK=>?_)
  go_simp
  first
   |(with_reducible refine hK _ ?_;clear hK K)
   |(
    apply Exists.intro
    refine⟨fun _=>?_,hK _ ?_⟩;exact qu;clear hK K))
 with_reducible refine wpQuiet_nil ?_
 intro _ hw';obtain⟨⟨nq,osq⟩,hw''⟩:=hw';subst hw''
 go_wp2_with fail
 go_ret
 exact⟨qr (by simp_all [bD]),below_grown HL.o qj _ _⟩):p:=h
theorem zP18x11 {p:Prop}(h:p:=by
 with_reducible refine wpQuiet_nil ?_
 intro _ hw';obtain⟨⟨nq,osq⟩,hw''⟩:=hw';subst hw''
 go_wp2_with fail
 go_ret
 exact⟨qr (by simp_all [bD]),below_grown HL.o qj _ _⟩):p:=h
theorem Cw (d fb fa tb ta c r:Int)(g o:Nat)(w:World)(H:Hq (pJ w g o 4 d fb fa tb ta c r)):
 Calls Tryz.prog 45 #[.pointer (some ⟨g,o,none⟩)] w fun e w'=>e=.returned (.bool (bD 4 d fb fa tb ta c r))∧Below w.heap.size w w':=by
 have hm:Tryz.prog.follows .mixedOrders=true:=by kernel_rfl
 have h0:=H.o.c0;have hg:=H.o.lt;have hL:=(Below.refl w.heap.size w).alloc ql (.cells #[.int .i64 0,.int .i64 0] 49);have HL:=qh hL;have HW:=qh (H.o.below hL);have N0:=kN w #[.int .i64 0,.int .i64 0] 49;have k0:=cell_grown HW.o.lt HW.o.c0;have k1:=cell_grown HW.o.lt HW.o.c1;have k2:=cell_grown HW.o.lt HW.o.c2;have k4:=cell_grown HW.o.lt HW.o.c4;have k6:=cell_grown HW.o.lt HW.o.c6;have k7:=cell_grown HW.o.lt HW.o.c7;have k3:=cell_grown (a:=⟨g,o+2+1,none⟩) HW.o.lt HW.o.c3;have k5:=cell_grown (a:=⟨g,o+4+1,none⟩) HW.o.lt HW.o.c5;have k8:∀n os,(grow ((w.alloc (.cells #[.int .i64 0,.int .i64 0] 49)).drewN n) os).cell? ⟨w.heap.size,0,none⟩=some (.int .i64 0):=cell_grown qj (N0 0);have k9:∀n os,(grow ((w.alloc (.cells #[.int .i64 0,.int .i64 0] 49)).drewN n) os).cell? ⟨w.heap.size,1,none⟩=some (.int .i64 0):=cell_grown qj (N0 1);clear hL N0
 go_enter Tryz.func45,Tryz.ntmps45
 go_upto_region 8 with fail
 refine wp_region_quiet_grown hm qk ?_
 repeat(
  with_reducible refine wpQuiet_step (fun K hK=>?_)
  go_simp
  first
   |(with_reducible refine hK _ ?_;clear hK K)
   |(
    apply Exists.intro
    refine⟨fun _=>?_,hK _ ?_⟩;exact qu;clear hK K))
 by_cases zd:d=0
 ·subst zd
  repeat(
   with_reducible refine wpQuiet_step (fun K hK=>?_)
   go_simp
   first
    |(with_reducible refine hK _ ?_;clear hK K)
    |(
     apply Exists.intro
     refine⟨fun _=>?_,hK _ ?_⟩;exact qu;clear hK K))
  cases hF:nB fb fa
  ·repeat(
    with_reducible refine wpQuiet_step (fun K hK=>?_)
    go_simp
    first
     |(with_reducible refine hK _ ?_;clear hK K)
     |(
      apply Exists.intro
      refine⟨fun _=>?_,hK _ ?_⟩;exact qu;clear hK K))
   exact zP18x11
  ·repeat(
    with_reducible refine wpQuiet_step (fun K hK=>?_)
    go_simp
    first
     |(with_reducible refine hK _ ?_;clear hK K)
     |(
      apply Exists.intro
      refine⟨fun _=>?_,hK _ ?_⟩;exact qu;clear hK K))
   cases hT:nB tb ta
   ·repeat(
     with_reducible refine wpQuiet_step (fun K hK=>?_)
     go_simp
     first
      |(with_reducible refine hK _ ?_;clear hK K)
      |(
       apply Exists.intro
       refine⟨fun _=>?_,hK _ ?_⟩;exact qu;clear hK K))
    exact zP18x11
   ·repeat(
     with_reducible refine wpQuiet_step (fun K hK=>?_)
     go_simp
     first
      |(with_reducible refine hK _ ?_;clear hK K)
      |(
       apply Exists.intro
       refine⟨fun _=>?_,hK _ ?_⟩;exact qu;clear hK K))
    by_cases hBN:fb=tb
    ·subst hBN
     exact zP18x1
    ·repeat(
      with_reducible refine wpQuiet_step (fun K hK=>?_)
      go_simp
      first
       |(with_reducible refine hK _ ?_;clear hK K)
       |(
        apply Exists.intro
        refine⟨fun _=>?_,hK _ ?_⟩;exact qu;clear hK K))
     by_cases zc:c=0
     ·subst zc
      exact zP18x1
     ·have yc:(c==0)=false:=by simpa using zc
      exact zP18x1
 ·have yd:(d==0)=false:=by simpa using zd
  exact zP18x1
end Go.Proofs.YtimlpmbabbbcaaaGreat
namespace Go.Proofs.YtimlpmbabbbcaaaGreat
open Go.RowKit
theorem S5 (L:List Int){k:Nat}(hk:k<L.length):aQ (L.take (k+1))=aQ (L.take k)+L.getD k 0:=by
 rw[List.take_succ_eq_append_getElem hk,mU]
 simp[aQ,List.getD,List.getElem?_eq_getElem hk]
def mR (L:List Int):Prop:=L.length≤1000∧∀x∈L,0≤x∧x≤1000
theorem mR.take {L:List Int}(h:mR L)(k:Nat):mR (L.take k):=⟨by have:=h.1;simp;omega,fun x hx=>h.2 x (List.mem_of_mem_take hx)⟩
theorem mR.drop {L:List Int}(h:mR L)(k:Nat):mR (L.drop k):=⟨by have:=h.1;simp;omega,fun x hx=>h.2 x (List.mem_of_mem_drop hx)⟩
theorem mR.sum {L:List Int}(h:mR L):0≤aQ L∧aQ L≤1000000:=by
 have h1:=LL h.2;have h2:=h.1;omega
theorem mR.get {L:List Int}(h:mR L)(k:Nat):0≤L.getD k 0∧L.getD k 0≤1000:=by
 by_cases hk:k<L.length
 ·have:=h.2 L[k] (List.getElem_mem hk)
  simp only[List.getD,List.getElem?_eq_getElem hk,Option.getD_some]
  exact this
 ·simp[List.getD,List.getElem?_eq_none (Nat.le_of_not_lt hk)]
theorem oN (A:OA)(n c:Nat)(L:List Int)(w:World)(hl:L.length=n)(ha:Rd w A n (fun j=>.int .i64 (L.getD j 0)))(hL:mR L):
 Calls Tryz.prog 130 #[.slice A n c] w fun e w'=>e=.returned (.int .i64 (aQ L))∧w=w':=by
 subst hl;have HA:=qh ha;have HL:=qh hL;have hn:=hL.1;clear ha hL
 go_enter Tryz.func130,Tryz.ntmps130
 go_wp2
 go_loop [3,4] (fun s i=>∃k:Nat,k≤L.length∧i=.int .i64 k∧s=.int .i64 (aQ (L.take k))) (fun _ i=>L.length-(intOf i).toNat)
 case atStart=>exact⟨0,Nat.zero_le _,rfl,rfl⟩
 case round=>
  obtain⟨k,hk,rfl,rfl⟩:=hrel;have hs:=(HL.o.take k).sum
  by_cases hlt:k<L.length
  ·obtain⟨ga,o,rfl,hg,hr⟩:=HA.o qo
   have hc:=hr k hlt;have fX:=HL.o.get k;have HS:=qh (S5 L hlt);obtain⟨y,hy⟩:=qx (L.getD k 0);obtain⟨t,ht⟩:=qx (aQ (L.take k))
   simp only[←hy,←ht]at hc fX HS hs ⊢
   clear hr hy ht
   go_wp2
   go_round
   case rel=>exact⟨k+1,by omega,qg,jM HS.o.symm⟩
   case measure=>exact qs
  ·obtain rfl:L.length=k:=qo
   go_wp2
   go_ret
   exact⟨rfl,rfl⟩
theorem zP18x6 {p:Prop}(h:p:=by
 go_enter Tryz.func128,Tryz.ntmps128
 go_wp2
 go_ret
 exact⟨rfl,rfl⟩):p:=h
theorem DV (k:Int)(w:World):Calls Tryz.prog 128 #[.int .i64 k] w fun e w'=>e=.returned (.int .i64 (jI k))∧w=w':=by
 by_cases h1:k=8
 ·subst h1
  exact zP18x6
 by_cases h2:k=10
 ·subst h2
  exact zP18x6
 by_cases h3:k=9
 ·subst h3
  exact zP18x6
 by_cases h4:k=11
 ·subst h4
  exact zP18x6
 by_cases h5:k=5
 ·subst h5
  exact zP18x6
 have hs:jI k=0:=by unfold jI;rw[if_neg qo,if_neg qo]
 have HS:=qh hs;clear hs
 go_enter Tryz.func128,Tryz.ntmps128
 go_wp2
 go_ret
 exact⟨by rw[HS.o];rfl,rfl⟩
theorem OW (x:Int)(w:World)(hx: -4000000000≤x∧x≤4000000000):Calls Tryz.prog 131 #[.int .i64 x] w fun e w'=>e=.returned (.int .i64 x.natAbs)∧w=w':=by
 by_cases h:x<0
 ·have HN:=qh (show-x=(x.natAbs:Int)by omega)
  go_enter Tryz.func131,Tryz.ntmps131
  go_wp2
  go_ret
  exact⟨by rw[←HN.o];rfl,rfl⟩
 ·have HN:=qh (show x=(x.natAbs:Int)by omega)
  go_enter Tryz.func131,Tryz.ntmps131
  go_wp2
  go_ret
  exact⟨by rw[←HN.o];rfl,rfl⟩
def mkS (ev cl:Value):Array Value:=#[ev,cl]
def mY (C:Nat→List Int)(q:Nat):Prop:=q≤1000∧∀i,i<q→mR (C i)
theorem mY.dX {C:Nat→List Int}{q:Nat}(h:mY C q){i:Nat}(hi:i≤q):0≤bC C i∧bC C i≤1000000000:=by
 have h1:=MF (C:=C) (q:=i) (b:=1000000) fun j hj=>(h.2 j qo).sum;have:=h.1;omega
section
variable [Inhabited bQ]{B g:Nat}{tg:Nat→Nat}{ev cl:Value}{n q:Nat}{E:List Int}{U:Nat→Value}{C:Nat→List Int}{w:World}
theorem qX (i:Nat)(H:aZ 129 mkS B g tg ev cl n q E U C w)(hi:i≤q)(hC:mY C q):
 Calls Tryz.prog 82 #[.pointer (some ⟨g,0,none⟩),.int .i64 i] w fun e w'=>e=.returned (.int .i64 (bC C i))∧w=w':=by
 have HH:=qh H;have HC:=qh hC;have hq:=hC.1;clear H hC
 go_enter Tryz.func82,Tryz.ntmps82
 go_wp2
 go_loop [5,6] (fun s x=>∃k:Nat,k≤i∧x=.int .i64 k∧s=.int .i64 (bC C k)) (fun _ x=>i-(intOf x).toNat)
 case atStart=>exact⟨0,Nat.zero_le _,rfl,rfl⟩
 case round=>
  obtain⟨k,hk,rfl,rfl⟩:=hrel;have hs:=HC.o.dX (show k≤q by omega)
  by_cases hlt:k<i
  ·obtain⟨gc,cap,rfl⟩:=HH.o.form qo
   have c1:w.cell? ⟨g,1,none⟩=some (.slice (some ⟨gc,0,none⟩) q cap):=HH.o.b.cell 1;have c2:=HH.o.cellAt (show k<q by omega);obtain⟨A,c,hU,hrd⟩:=HH.o.read (show k<q by omega);rw[hU]at c2;have HR:=qh hrd;have hsum:=(HC.o.2 k qo).sum;have HS:=qh (show bC C (k+1)=bC C k+aQ (C k)from rfl);obtain⟨L,hL⟩:=qx (C k);rw[←hL]at c2 HR hsum HS;have l5:=qh (show mR L by rw[hL];exact HC.o.2 k qo);clear hU hrd hL
   go_wp2_with fail
   refine(oN A L.length c L _ rfl HR.o l5.o).mono ?_;rintro e w' ⟨rfl,rfl⟩
   go_wp2
   go_round
   case rel=>exact⟨k+1,by omega,qg,by rw[HS.o]⟩
   case measure=>exact qs
  ·obtain rfl:i=k:=qo
   go_wp2
   go_ret
   exact⟨rfl,rfl⟩
end
structure iM (w:World)(g o:Nat)(d c:Int)(A:OA)(n q:Nat):Prop where
 c0:w.cell? ⟨g,o,none⟩=some (.int .i64 d)
 c1:w.cell? ⟨g,o+1,none⟩=some (.int .i64 c)
 c2:w.cell? ⟨g,o+2,none⟩=some (.slice A n q)
theorem iM.below {w w':World}{g o:Nat}{d c:Int}{A:Option Addr}{n q:Nat}(h:iM w g o d c A n q)(hb:Below w.heap.size w w'):iM w' g o d c A n q:=by
 have hg:g<w.heap.size:=World.block_lt_of_cell? w _ h.c0;exact⟨aM hb hg h.c0,aM hb hg h.c1,aM hb hg h.c2⟩
theorem zP18x7 {p:Prop}(h:p:=by
 go_enter Tryz.func122,Tryz.ntmps122
 go_wp2_with (first|(go_at_call 47;refine(cH _ _ _ _).mono ?_;rintro e w' ⟨rfl,rfl⟩)|(go_at_call 168;refine HC.o.mono ?_;rintro e w' ⟨rfl,rfl⟩))
 all_goals go_ret
 all_goals exact⟨eT (by simp_all [gQ]),rfl⟩):p:=h
theorem OU (g o:Nat)(d c:Int)(A:OA)(n q:Nat)(z:Nat→Int)(w:World)(H:Hq (iM w g o d c A n q))(hz:Rd w A n (fun j=>.int .i64 (z j)))(hn:n≤1048576):
 Calls Tryz.prog 122 #[.pointer (some ⟨g,o,none⟩)] w fun e w'=>e=.returned (.bool (gQ d&&aJ c 1 4&&cM z n))∧w=w':=by
 have HC:=qh (xW A n q z w hz hn);have c0:=H.o.c0;have c1:=H.o.c1;have c2:=H.o.c2;clear hz
 by_cases hd:d=1
 ·subst hd
  exact zP18x7
 ·by_cases hd2:d= -1
  ·subst hd2
   exact zP18x7
  ·have hb1:(d==1)=false:=by simpa using hd
   have hb2:(d== -1)=false:=by simpa using hd2
   go_enter Tryz.func122,Tryz.ntmps122
   go_wp2_with (first|(go_at_call 47;refine(cH _ _ _ _).mono ?_;rintro e w' ⟨rfl,rfl⟩)|(go_at_call 168;refine HC.o.mono ?_;rintro e w' ⟨rfl,rfl⟩))
   all_goals go_ret
   all_goals exact⟨eT (by simp[gQ,hd,hd2]),rfl⟩
theorem RT {s z:Nat→Int}{m:Nat}(hz:∀j,j<m→1≤z j∧z j≤11){i:Nat}(hi:i<m)(j:Nat)(hj:j<dU (z i)):(gT s z m).getD (bH z i+j) 0=(eS (z i) (s (aF z i))).getD j 0:=by
 have hall:∀k,i<k→k≤m→(gT s z k).getD (bH z i+j) 0=(eS (z i) (s (aF z i))).getD j 0:=by
  intro k
  induction k with
  |zero=>intro h;omega
  |succ k ih=>
   intro h1 h2;have hlk:=qY (s:=s) hz (show k≤m by omega);have hml:=pY (s (aF z i)) (hz i hi)
   simp only[gT]
   by_cases hik:i=k
   ·subst hik
    simp only[List.getD]
    rw[List.getElem?_append_right qo,hlk,show bH z i+j-bH z i=j by omega]
   ·have hm:=CX z (show i+1≤k by omega)
    simp only[bH]at hm
    rw[←ih qo qo]
    simp only[List.getD]
    rw[List.getElem?_append_left qo]
 exact hall m hi (Nat.le_refl m)
theorem xw {s z:Nat→Int}{m:Nat}(hz:∀j,j<m→1≤z j∧z j≤11){i:Nat}(hi:i<m):bK (fun j=>(gT s z m).getD j 0) (bH z i) (dU (z i))=rT (z i) (s (aF z i)):=
 Bj fun j hj=>by rw[Nat.zero_add];exact RT hz hi j hj
theorem zP18x2 {p:Prop}(h:p:=by
 have HC:=qh (hr (MX+l) qo);have hav:=ZY.o l Qt;have HS:=qh (show bK F MX (l+1)=bK F MX l+F (MX+l)from rfl);clear hr
 go_wp2_with fail
 with_reducible refine(gM y _ hzi).mono ?_
 rintro e w3 ⟨rfl,hb6⟩;have bE:=bG.st hb6;have hcs:=aM bE.o hg HC.o;clear hb6
 go_wp2
 go_roundg (dU y-(l+1))
 case measure=>omega
 case rel=>exact⟨l+1,by omega,by omega,qg,jM (by rw[HS.o];omega),bE.o⟩):p:=h
theorem zP18x3 {p:Prop}(h:p:=by
 have HC:=qh (hr (TX+j) qo);have hsk:=iS.o (TX+j) qo;have HS:=qh (show bK s TX (j+1)=bK s TX j+s (TX+j)from rfl);clear hr
 go_wp2_with fail
 with_reducible refine(cE y _ hzi).mono ?_
 rintro e w2 ⟨rfl,hb2⟩;have aW:=HB3.st hb2;have hcs:=aM aW.o hg HC.o;clear hb2
 go_wp2
 go_roundg (bN y-(j+1))
 case measure=>omega
 case rel=>exact⟨j+1,by omega,by omega,qg,jM (by rw[HS.o];omega),aW.o⟩):p:=h
theorem zP18x10 {p:Prop}(h:p:=by
 have hc:=hr k hlt;have hsk:=iS.o k hlt;have HS:=qh (show bK s 0 (k+1)=bK s 0 k+s k by simp[bK]);clear hr
 go_wp2
 go_roundg (n-(k+1))
 case measure=>omega
 case rel=>exact⟨k+1,by omega,by omega,qg,jM HS.o.symm,rfl⟩):p:=h
theorem WD (cc:Int)(gr LR:Nat)(A2:OA)(m c2:Nat)(A:OA)(n c:Nat)(A3:OA)(c3:Nat)(s z F:Nat→Int)(w:World)(pO:Hq (F=fun j=>(gT s z m).getD j 0))(H:Hq (iM w gr LR 1 cc A2 m c2))(ha:Rd w A n (fun j=>.int .i64 (s j)))(hb:Rd w A2 m (fun j=>.int .i64 (z j)))(h3:Rd w A3 (bH z m) (fun j=>.int .i64 (F j)))(hs:fF s n=true)(hz:cM z m=true)(ht:aF z m=n):
 Calls Tryz.prog 124 #[.slice A n c,.slice A3 (bH z m) c3,.pointer (some ⟨gr,LR,none⟩)] w fun e w'=>e=.returned (.bool (iT s n z m 1 m))∧Below w.heap.size w w':=by
 have HA:=qh ha;have HZ:=qh hb;have H3:=qh h3;obtain⟨RN,fX⟩:=fN hz;obtain⟨BK,hsk⟩:=kT hs;have yH:=qh fX;have iS:=qh hsk;have HT:=qh ht;have afN:=EE z m;have hgr:gr<w.heap.size:=World.block_lt_of_cell? w _ H.o.c0;have r0:=H.o.c0;have r2:=H.o.c2;clear ha hb h3 fX hsk hs hz ht
 go_enter Tryz.func124,Tryz.ntmps124
 go_wp2_with fail
 go_loopg [7,8] n (fun q sm i wr=>∃k:Nat,k≤n∧q+k=n∧i=.int .i64 k∧sm=.int .i64 (bK s 0 k)∧w=wr)
 case atStart=>exact⟨0,Nat.zero_le _,rfl,rfl,rfl,rfl⟩
 case round=>
  obtain⟨k,hk,hq,rfl,rfl,rfl⟩:=hrel;have hsb:=oI iS.o (a:=0) (c:=k) qo
  by_cases hlt:k<n
  ·obtain⟨g,o,rfl,hg,hr⟩:=HA.o qo
   exact zP18x10
  ·obtain rfl:n=k:=qo
   have hT:=HT.o
   go_wp2_with fail
   go_loopg [7,10,11,12] m (fun q sm fr to_ iv wi=>∃i:Nat,i≤m∧q+i=m∧iv=.int .i64 i∧sm=.int .i64 (iI s n z m 1 i)∧fr=.int .i64 (aF z i:Nat)∧to_=.int .i64 (bH z i:Nat)∧Hq (iT s n z m 1 i=true)∧Below w.heap.size w wi)
   case atStart=>exact⟨0,Nat.zero_le _,rfl,rfl,rfl,rfl,rfl,qh rfl,Below.refl _ _⟩
   case round=>
    obtain⟨i,hi,hqi,rfl,rfl,rfl,rfl,HK,hbl⟩:=hrel;have HB:=qh hbl;have HR:=qh (H.o.below hbl);clear hbl r0 r2;have r0:=HR.o.c0;have r2:=HR.o.c2;have hkb:=BF 1 iS.o HT.o hi
    by_cases hlt:i<m
    ·obtain⟨gz,oz,rfl,hgz,hrz⟩:=HZ.o qo
     have hc0:=aM HB.o hgz (hrz i hlt);have hcz:=aM HB.o hgz (hrz i qo);have hzi:=yH.o i qo;have zM:=qh (show iI s n z m 1 (i+1)=iI s n z m 1 i+(rT (z i) (s (aF z i))-bK s (aF z i) (bN (z i)))from rfl);have Nw:=qh (fun h=>DY (s:=s) (n:=n) (z:=z) (m:=m) (d:=1) hlt h);have Km:bK F (bH z i) (dU (z i))=rT (z i) (s (aF z i)):=by rw[pO.o];exact xw (s:=s) yH.o (show i<m by omega)
     have Kh:=tT (k:=z i) (t:=s (aF z i)) (fun h0=>iS.o _ (by
      have h1:=gU z (show i+1≤m by omega)
      simp only[aF]at h1
      omega))
     have hT1:aF z i+bN (z i)≤n:=by
      have h1:=gU z (show i+1≤m by omega)
      simp only[aF]at h1
      omega
     have hM1:bH z i+dU (z i)≤bH z m:=by
      have h1:=CX z (show i+1≤m by omega)
      simp only[bH]at h1
      omega
     have xZ:aF z (i+1)=aF z i+bN (z i):=rfl;have M9:bH z (i+1)=bH z i+dU (z i):=rfl;have Kl:∀j,j<dU (z i)→ -1000≤F (bH z i+j)∧F (bH z i+j)≤1000:=fun j hj=>by
      rw[pO.o];show-1000≤(gT s z m).getD (bH z i+j) 0∧(gT s z m).getD (bH z i+j) 0≤1000;rw[RT yH.o (show i<m by omega) j hj];exact J7 hzi (fun h0=>iS.o _ qo) j
     have HAS:=qh Km;have CH:=qh Kh;have rB:=qh xZ;have zK:=qh M9;have ZY:=qh Kl;clear Km Kh Kl;obtain⟨y,hy⟩:=qx (z i);obtain⟨TX,SW⟩:=qx (aF z i);obtain⟨MX,SX⟩:=qx (bH z i);obtain⟨S0,hS0⟩:=qx (iI s n z m 1 i)
     simp only[←hy,←SW,←SX,←hS0]at hcz hzi zM hT1 hM1 xZ M9 HAS CH rB zK ZY hkb
     rw[←hS0]
     simp only[←hy]at hc0
     rw[←SW,←SX];have HTX:=qh SW;have zn:=qh SX;have htk:=kW y;have hmk:=xU y;have hST:=nO z m;have XO:S0-bK s TX (bN y)+bK F MX (dU y)=iI s n z m 1 (i+1):=by rw[zM.o,HAS.o];omega
     have CK:=qh XO;clear hy SW SX hrz hS0 XO xZ M9
     go_wp2_with fail
     go_loopg [7,14] (bN y) (fun q sm kv wi=>∃j:Nat,j≤bN y∧q+j=bN y∧kv=.int .i64 j∧sm=.int .i64 (S0-bK s TX j)∧Below w.heap.size w wi)
     case atStart=>exact⟨0,Nat.zero_le _,rfl,rfl,jM (by simp[bK]),HB.o⟩
     case round=>
      obtain⟨j,hj,hqj,rfl,rfl,hb3⟩:=hrel;have HB3:=qh hb3;clear hb3;have hsg:=oI iS.o (a:=TX) (c:=j) qo
      by_cases afz:j<bN y
      ·obtain⟨g,o,rfl,hg,hr⟩:=HA.o qo
       exact zP18x3
      ·obtain rfl:j=bN y:=qo
       go_wp2_with fail
       with_reducible refine(cE y _ hzi).mono ?_
       rintro e w2 ⟨rfl,hb2⟩;have aW:=HB3.st hb2;clear hb2
       go_wp2_with fail
       go_loopg [7,15] (dU y) (fun q sm kv wi=>∃j:Nat,j≤dU y∧q+j=dU y∧kv=.int .i64 j∧sm=.int .i64 (S0-bK s TX (bN y)+bK F MX j)∧Below w.heap.size w wi)
       case atStart=>exact⟨0,Nat.zero_le _,rfl,rfl,jM (by simp[bK]),aW.o⟩
       case round=>
        obtain⟨l,hl,hql,rfl,rfl,hb5⟩:=hrel;have bG:=qh hb5;clear hb5;have hsa:=DT (s:=F) (a:=MX) (n:=l) (fun j hj=>ZY.o j qo)
        by_cases Qt:l<dU y
        ·obtain⟨g,o,rfl,hg,hr⟩:=H3.o qo
         exact zP18x2
        ·obtain rfl:l=dU y:=qo
         rw[CK.o]
         go_wp2_with fail
         with_reducible refine(gM y _ hzi).mono ?_
         rintro e w3 ⟨rfl,hb6⟩;have bE:=bG.st hb6;clear hb6 r0 r2 hc0 hcz;have r0:=(H.o.below bE.o).c0
         by_cases h12:12<iI s n z m 1 (i+1)
         ·go_wp2
          go_ret
          exact⟨eT (Nw.o qo).symm,bE.o⟩
         ·have KF:=qh (show iT s n z m 1 (i+1)=true by simp only[iT];rw[HK.o];simp;omega)
          go_wp2_with fail
          with_reducible refine(cE y _ hzi).mono ?_
          rintro e w7 ⟨rfl,bM⟩;have aR:=bE.st bM;clear bM r0
          go_wp2_with fail
          with_reducible refine(gM y _ hzi).mono ?_
          rintro e w8 ⟨rfl,gY⟩;have dV:=aR.st gY;clear gY
          go_wp2
          go_roundg (m-(i+1))
          case measure=>omega
          case rel=>exact⟨i+1,by omega,by omega,qg,rfl,jM (by rw[rB.o];omega),jM (by rw[zK.o];omega),KF,dV.o⟩
    ·obtain rfl:i=m:=qo
     go_wp2
     go_ret
     exact⟨eT HK.o.symm,HB.o⟩
theorem WE (cc:Int)(gr LR:Nat)(A2:OA)(m c2:Nat)(A:OA)(n c:Nat)(A3:OA)(c3:Nat)(s z F:Nat→Int)(w:World)(pO:Hq (F=fun j=>(gT s z m).getD j 0))(H:Hq (iM w gr LR (-1) cc A2 m c2))(ha:Rd w A n (fun j=>.int .i64 (s j)))(hb:Rd w A2 m (fun j=>.int .i64 (z j)))(h3:Rd w A3 (bH z m) (fun j=>.int .i64 (F j)))(hs:fF s n=true)(hz:cM z m=true)(ht:aF z m=n):
 Calls Tryz.prog 124 #[.slice A n c,.slice A3 (bH z m) c3,.pointer (some ⟨gr,LR,none⟩)] w fun e w'=>e=.returned (.bool (iT s n z m (-1) m))∧Below w.heap.size w w':=by
 have HA:=qh ha;have HZ:=qh hb;have H3:=qh h3;obtain⟨RN,fX⟩:=fN hz;obtain⟨BK,hsk⟩:=kT hs;have yH:=qh fX;have iS:=qh hsk;have HT:=qh ht;have afN:=EE z m;have hgr:gr<w.heap.size:=World.block_lt_of_cell? w _ H.o.c0;have r0:=H.o.c0;have r2:=H.o.c2;clear ha hb h3 fX hsk hs hz ht
 go_enter Tryz.func124,Tryz.ntmps124
 go_wp2_with fail
 go_loopg [7,8] n (fun q sm i wr=>∃k:Nat,k≤n∧q+k=n∧i=.int .i64 k∧sm=.int .i64 (bK s 0 k)∧w=wr)
 case atStart=>exact⟨0,Nat.zero_le _,rfl,rfl,rfl,rfl⟩
 case round=>
  obtain⟨k,hk,hq,rfl,rfl,rfl⟩:=hrel;have hsb:=oI iS.o (a:=0) (c:=k) qo
  by_cases hlt:k<n
  ·obtain⟨g,o,rfl,hg,hr⟩:=HA.o qo
   exact zP18x10
  ·obtain rfl:n=k:=qo
   have hT:=HT.o
   go_wp2_with fail
   go_loopg [7,10,11,12] m (fun q sm fr to_ iv wi=>∃i:Nat,i≤m∧q+i=m∧iv=.int .i64 i∧sm=.int .i64 (iI s n z m (-1) i)∧fr=.int .i64 (aF z (m-i):Nat)∧to_=.int .i64 (bH z (m-i):Nat)∧Hq (iT s n z m (-1) i=true)∧Below w.heap.size w wi)
   case atStart=>exact⟨0,Nat.zero_le _,rfl,rfl,rfl,jM (by rw[Nat.sub_zero,HT.o]),jM (by rw[Nat.sub_zero]),qh rfl,Below.refl _ _⟩
   case round=>
    obtain⟨i,hi,hqi,rfl,rfl,rfl,rfl,HK,hbl⟩:=hrel;have HB:=qh hbl;have HR:=qh (H.o.below hbl);clear hbl r0 r2;have r0:=HR.o.c0;have r2:=HR.o.c2;have hkb:=BF (-1) iS.o HT.o hi
    by_cases hlt:i<m
    ·obtain⟨gz,oz,rfl,hgz,hrz⟩:=HZ.o qo
     have hc0:=aM HB.o hgz (hrz i hlt);have hcz:=aM HB.o hgz (hrz (m-1-i) qo);have hzi:=yH.o (m-1-i) qo;have zM:=qh (show iI s n z m (-1) (i+1)=iI s n z m (-1) i+(rT (z (m-1-i)) (s (aF z (m-1-i)))-bK s (aF z (m-1-i)) (bN (z (m-1-i))))from rfl);have Nw:=qh (fun h=>DY (s:=s) (n:=n) (z:=z) (m:=m) (d:=(-1)) hlt h);have Km:bK F (bH z (m-1-i)) (dU (z (m-1-i)))=rT (z (m-1-i)) (s (aF z (m-1-i))):=by rw[pO.o];exact xw (s:=s) yH.o (show(m-1-i)<m by omega)
     have Kh:=tT (k:=z (m-1-i)) (t:=s (aF z (m-1-i))) (fun h0=>iS.o _ (by
      have h1:=gU z (show(m-1-i)+1≤m by omega)
      simp only[aF]at h1
      omega))
     have hT1:aF z (m-1-i)+bN (z (m-1-i))≤n:=by
      have h1:=gU z (show(m-1-i)+1≤m by omega)
      simp only[aF]at h1
      omega
     have hM1:bH z (m-1-i)+dU (z (m-1-i))≤bH z m:=by
      have h1:=CX z (show(m-1-i)+1≤m by omega)
      simp only[bH]at h1
      omega
     have xZ:aF z (m-i)=aF z (m-1-i)+bN (z (m-1-i)):=(by rw[show m-i=m-1-i+1 by omega];rfl);have M9:bH z (m-i)=bH z (m-1-i)+dU (z (m-1-i)):=(by rw[show m-i=m-1-i+1 by omega];rfl);have Kl:∀j,j<dU (z (m-1-i))→ -1000≤F (bH z (m-1-i)+j)∧F (bH z (m-1-i)+j)≤1000:=fun j hj=>by
      rw[pO.o];show-1000≤(gT s z m).getD (bH z (m-1-i)+j) 0∧(gT s z m).getD (bH z (m-1-i)+j) 0≤1000;rw[RT yH.o (show(m-1-i)<m by omega) j hj];exact J7 hzi (fun h0=>iS.o _ qo) j
     have HAS:=qh Km;have CH:=qh Kh;have rB:=qh xZ;have zK:=qh M9;have ZY:=qh Kl;clear Km Kh Kl;obtain⟨y,hy⟩:=qx (z (m-1-i));obtain⟨TX,SW⟩:=qx (aF z (m-1-i));obtain⟨MX,SX⟩:=qx (bH z (m-1-i));obtain⟨S0,hS0⟩:=qx (iI s n z m (-1) i)
     simp only[←hy,←SW,←SX,←hS0]at hcz hzi zM hT1 hM1 xZ M9 HAS CH rB zK ZY hkb
     rw[←hS0];rw[xZ,M9];have HTX:=qh SW;have zn:=qh SX;have htk:=kW y;have hmk:=xU y;have hST:=nO z m;have XO:S0-bK s TX (bN y)+bK F MX (dU y)=iI s n z m (-1) (i+1):=by rw[zM.o,HAS.o];omega
     have CK:=qh XO;clear hy SW SX hrz hS0 XO xZ M9
     go_wp2_with fail
     with_reducible refine(cE y _ hzi).mono ?_
     rintro e w1 ⟨rfl,hb1⟩;have HB1:=HB.st hb1;clear hb1
     go_wp2_with fail
     with_reducible refine(gM y _ hzi).mono ?_
     rintro e w2 ⟨rfl,hb2⟩;replace HB:=HB1.st hb2;clear hb2
     go_wp2_with fail
     go_loopg [7,14] (bN y) (fun q sm kv wi=>∃j:Nat,j≤bN y∧q+j=bN y∧kv=.int .i64 j∧sm=.int .i64 (S0-bK s TX j)∧Below w.heap.size w wi)
     case atStart=>exact⟨0,Nat.zero_le _,rfl,rfl,jM (by simp[bK]),HB.o⟩
     case round=>
      obtain⟨j,hj,hqj,rfl,rfl,hb3⟩:=hrel;have HB3:=qh hb3;clear hb3;have hsg:=oI iS.o (a:=TX) (c:=j) qo
      by_cases afz:j<bN y
      ·obtain⟨g,o,rfl,hg,hr⟩:=HA.o qo
       exact zP18x3
      ·obtain rfl:j=bN y:=qo
       go_wp2_with fail
       with_reducible refine(cE y _ hzi).mono ?_
       rintro e w2 ⟨rfl,hb2⟩;have aW:=HB3.st hb2;clear hb2
       go_wp2_with fail
       go_loopg [7,15] (dU y) (fun q sm kv wi=>∃j:Nat,j≤dU y∧q+j=dU y∧kv=.int .i64 j∧sm=.int .i64 (S0-bK s TX (bN y)+bK F MX j)∧Below w.heap.size w wi)
       case atStart=>exact⟨0,Nat.zero_le _,rfl,rfl,jM (by simp[bK]),aW.o⟩
       case round=>
        obtain⟨l,hl,hql,rfl,rfl,hb5⟩:=hrel;have bG:=qh hb5;clear hb5;have hsa:=DT (s:=F) (a:=MX) (n:=l) (fun j hj=>ZY.o j qo)
        by_cases Qt:l<dU y
        ·obtain⟨g,o,rfl,hg,hr⟩:=H3.o qo
         exact zP18x2
        ·obtain rfl:l=dU y:=qo
         rw[CK.o]
         go_wp2_with fail
         with_reducible refine(gM y _ hzi).mono ?_
         rintro e w3 ⟨rfl,hb6⟩;have bE:=bG.st hb6;clear hb6 r0 r2 hc0 hcz;have r0:=(H.o.below bE.o).c0
         by_cases h12:12<iI s n z m (-1) (i+1)
         ·go_wp2
          go_ret
          exact⟨eT (Nw.o qo).symm,bE.o⟩
         ·have KF:=qh (show iT s n z m (-1) (i+1)=true by simp only[iT];rw[HK.o];simp;omega)
          go_wp2
          go_roundg (m-(i+1))
          case measure=>omega
          case rel=>exact⟨i+1,by omega,by omega,qg,rfl,jM (by rw[HTX.o,show m-(i+1)=m-1-i by omega]),jM (by rw[zn.o,show m-(i+1)=m-1-i by omega]),KF,bE.o⟩
    ·obtain rfl:i=m:=qo
     go_wp2
     go_ret
     exact⟨eT HK.o.symm,HB.o⟩
def zG [Inhabited bQ](T:TypeId)(mk:Value→Value→Array Value)(B g q:Nat)(E:List Int)(C:Nat→List Int)(w:World)(e:Ending)(w':World):Prop:=e=.returned (.tuple #[])∧dO T mk B g q E C w'∧Below B w w'
section
variable [Inhabited bQ]{B g:Nat}{tg:Nat→Nat}{ev cl:Value}{n q:Nat}{E:List Int}{U:Nat→Value}{C:Nat→List Int}{w:World}
theorem xC (gr o:Nat)(d c:Int)(A:OA)(m qq:Nat)(k p x b:Int)(H:aZ 129 mkS B g tg ev cl n q E U C w)(hB:B≤w.heap.size)(HR:Hq (iM w gr o d c A m qq))(hgr:gr<B)(hn:n≤1048576):
 Calls Tryz.prog 134 #[.pointer (some ⟨g,0,none⟩),.pointer (some ⟨gr,o,none⟩),.int .i64 k,.int .i64 p,.int .i64 x,.int .i64 b] w (zG 129 mkS B g q (E++gH k p x b c d) C w):=by
 obtain⟨i0,hi,iz,is,ib⟩:=info_parts dQ;obtain⟨Ae,ce,rfl⟩:=aE H.e;have m0:w.cell? ⟨g,0,none⟩=some (.slice Ae n ce):=H.b.cell 0;have f0:w.frozen? ⟨g,0,none⟩=false:=H.b.frozen 0;have r0:=HR.o.c0;have r1:=HR.o.c1;have HH:=qh H;clear H
 go_enter Tryz.func134,Tryz.ntmps134
 go_wp2_with fail
 refine aY (S:=fun w'=>w'.cell? ⟨g,0,none⟩=some (.slice Ae n ce)∧w'.cell? ⟨gr,o,none⟩=some (.int .i64 d)∧w'.cell? ⟨gr,o+1,none⟩=some (.int .i64 c)) _ qj qk qk ⟨m0,r0,r1⟩ (fun hHeld=>?_)
 simp only[List.dropLast,List.getLast_cons_cons,List.getLast_singleton,List.length_cons,List.length_nil]
 refine qt 0 hHeld ?_;refine qt 1 hHeld ?_;refine qt 2 hHeld ?_;refine qt 3 hHeld ?_;refine qt 4 hHeld ?_;refine qt 5 hHeld ?_;refine qt 6 hHeld ?_;refine qt 7 hHeld ?_;refine qt 8 hHeld ?_;refine qt 9 hHeld ?_;refine qt 10 hHeld ?_;refine qt 11 hHeld ?_;refine qt 12 hHeld ?_;refine qt 13 hHeld ?_;refine qt 14 hHeld ?_;refine qt 15 hHeld ?_;refine qt 16 hHeld ?_;refine qt 17 hHeld ?_
 simp only[List.getElem_toArray,List.getElem_cons_succ,List.getElem_cons_zero,Act.put,List.setIfInBounds_toArray,List.set_cons_zero,List.set_cons_succ]
 refine wpAnyH_ready (rs:=[18]) qk qj ?_;refine AllReadyH.cons rfl (fun K hK=>?_) AllReadyH.nil
 simp only[List.getElem_toArray,List.getElem_cons_succ,List.getElem_cons_zero]
 go_simp
 refine hK.out _ _ (by go_keep) (fun dK=>?_);clear hK K hHeld;refine wpAnyH_ready (rs:=[19]) qk qj ?_;refine AllReadyH.cons rfl (fun K hK=>?_) AllReadyH.nil
 simp only[List.getElem_toArray,List.getElem_cons_succ,List.getElem_cons_zero]
 refine kR w.drew (by rfl) (.tmp 16) (.tmp 30) _ (by rfl) B 116 i0 _ 6 48 Tryz.underlying42 hi iz is ib rfl qo (.slice Ae n ce) n (ints E) (by rfl) HH.o.e _ 1 1 [.int .i64 k,.int .i64 p,.int .i64 x,.int .i64 b,.int .i64 c,.int .i64 d] (by rfl) rfl (by simp[Value.oneCell']) qm qo hB ?_;intro v2 w2 hown2 hfr2 fI;obtain⟨A2,c2,rfl⟩:=aE hown2;have gG:∀b,(Value.slice Ae n ce).ownBlock=some b→tg b=2:=HH.o.te;have hgn:¬(Value.slice Ae n ce).ownBlock=some g:=fun e=>by have:=gG _ e;have:=HH.o.tb;omega
 have hon:¬(Value.slice Ae n ce).ownBlock=some gr:=fun e=>by have:=(HH.o.e.lt _ e).1;omega
 have dM:=World.block_lt_of_cell? w _ m0;have hlo:=World.block_lt_of_cell? w _ r0;have BG:=(hfr2.cells dM hgn 0).trans m0;have WR:=(hfr2.cells hlo hon o).trans r0;have WQ:=(hfr2.cells hlo hon (o+1)).trans r1;have Jf:w2.frozen? ⟨g,0,none⟩=false:=(World.frozen?_of_block (w:=w.drew) (a:=⟨g,0,none⟩) (hfr2.block g dM hgn)).trans f0;refine hK.out _ _ ⟨BG,WR,WQ⟩ (fun bF=>?_);clear hK K dK;have hfree:qZ tg (.slice A2 (n+1) c2) 2:=fun b hb=>by
  rcases fI with h|h
  ·exact .inr (gG b (h.symm.trans hb))
  ·refine .inl (Decidable.byContradiction fun hne=>?_)
   have h1:=HH.o.lt b hne;rw[hb]at h;injection h with h;have h2:w.drew.heap.size=w.heap.size:=rfl;omega
 have hown3:w2.ownsRow B 116 6 (.slice A2 (n+1) c2) (n+1) (ints (E++gH k p x b c d)):=by rw[aL];exact hown2
 have HM:=qh (HH.o.R4 (w':=w2) (fun b h0 h2=>hfr2.block b (HH.o.lt b h0) fun e=>h2 (gG b e)) hfr2.size hown3 hfree (o:=0) rfl);have iD:=qh (Below.setCell (p:=⟨g,0,none⟩) (Below.trans ((Below.refl B w).drew) (hfr2.own (w:=w.drew) HH.o.e hB)) HH.o.lo (.slice A2 (n+1) c2));clear gG hgn hon dM hlo m0 r0 r1 f0 hfree hfr2 hown2 fI hown3;refine qt 20 bF ?_;refine qt 21 bF ?_
 simp only[List.getElem_toArray,List.getElem_cons_succ,List.getElem_cons_zero,Act.put,List.setIfInBounds_toArray,List.set_cons_zero,List.set_cons_succ]
 refine wpAnyH_done qk ?_ _;refine bZ.of ?_
 go_simp
 clear bF BG WR WQ Jf
 go_wp2_with fail
 go_end0
 exact⟨rfl,⟨_,_,_,_,_,HM.o⟩,iD.o⟩
end
theorem iM.Me {B:Nat}{w w':World}{g o:Nat}{d c:Int}{A:Option Addr}{n q:Nat}(h:iM w g o d c A n q)(hb:Below B w w')(hg:g<B):iM w' g o d c A n q:=⟨aM hb hg h.c0,aM hb hg h.c1,aM hb hg h.c2⟩
def eW (C:Nat→List Int)(i:Nat)(L:List Int)(j:Nat):List Int:=if j=i then L else C j
theorem bP (C:Nat→List Int)(i:Nat)(L:List Int):eW C i L i=L:=if_pos rfl
theorem Qo (C:Nat→List Int)(i:Nat)(L M:List Int):eW (eW C i L) i M=eW C i M:=by
 funext j
 unfold eW
 by_cases h:j=i
 ·rw[if_pos h,if_pos h]
 ·rw[if_neg h,if_neg h,if_neg h]
theorem sW (C:Nat→List Int)(i:Nat):eW C i (C i)=C:=by
 funext j
 unfold eW
 by_cases h:j=i
 ·rw[if_pos h,h]
 ·rw[if_neg h]
theorem TH (C:Nat→List Int)(i:Nat)(L:List Int):bC (eW C i L) i=bC C i:=GF fun j hj=>if_neg qo
theorem mY.eW {C:Nat→List Int}{q:Nat}(h:mY C q){i:Nat}{L:List Int}(hL:mR L):mY (eW C i L) q:=⟨h.1,fun j hj=>by
 unfold Go.Proofs.YtimlpmbabbbcaaaGreat.eW
 split
 ·exact hL
 ·exact h.2 j hj⟩
theorem mR.kn {p gI c d:Int}{L:List Int}(h:mR L)(t:Nat):mR (fT p gI c d L t).2:=⟨by rw[(oO p gI c d L t).1];exact h.1,Yv qo h.2 t⟩
theorem wN (C:Nat→List Int)(i:Nat)(X:List Int)(k:Nat)(x:Int):(fun j=>if j=i then(eW C i X i).set k x else eW C i X j)=eW C i (X.set k x):=by
 funext j
 unfold eW
 by_cases h:j=i
 ·rw[if_pos h,if_pos h,if_pos rfl]
 ·rw[if_neg h,if_neg h,if_neg h]
section
variable [Inhabited bQ]{B g q:Nat}{E:List Int}{C:Nat→List Int}{w:World}
theorem zP18x12 {p:Prop}(h:p:=by
 go_wp2_with fail
 go_roundw
 case rel=>exact⟨k+1,by omega,qg,qh ⟨sQ,t7,_,n3,U3,by rw[←rC.o,gJ.o,cT.o,←wN,←List.append_assoc];exact tA.o⟩,HB3⟩
 case measure=>exact qs):p:=h
theorem IW (gr o:Nat)(d c:Int)(A:OA)(m qq:Nat)(i:Nat)(gI:Int)(L:List Int)(H:dO 129 mkS B g q E C w)(hB:B≤w.heap.size)(HR:Hq (iM w gr o d c A m qq))(hgr:gr<B)(hE:E.length≤600000)(hi:i<q)(hC:mY C q)(HL:Hq (C i=L)):
 Calls Tryz.prog 133 #[.pointer (some ⟨g,0,none⟩),.pointer (some ⟨gr,o,none⟩),.int .i64 i,.int .i64 gI] w (zG 129 mkS B g q (E++(fT (bC C i) gI c d L L.length).1) (eW C i (List.replicate L.length 1)) w):=by
 have HC:=qh hC;have hq:=hC.1;have l5:=qh (show mR L by rw[←HL.o];exact hC.2 i hi);have hLn:=l5.o.1;have yN:=qh H;have ah:=qh (RJ (bC C i) gI c d L);obtain⟨tg,ev,cl,n,U,H⟩:=H;obtain⟨gc,cap,rfl⟩:=H.form qo;obtain⟨Au,cu,hU,hrd⟩:=H.read hi;have m1:w.cell? ⟨g,1,none⟩=some (.slice (some ⟨gc,0,none⟩) q cap):=H.b.cell 1;have m2:=H.cellAt hi;rw[hU,HL.o]at m2;clear H hU hrd hC
 go_enter Tryz.func133,Tryz.ntmps133
 go_wp2_with fail
 clear m1 m2
 go_loopw [9] (fun t wr=>∃k:Nat,k≤L.length∧t=.int .i64 k∧Hq (dO 129 mkS B g q (E++(fT (bC C i) gI c d L k).1) (eW C i (fT (bC C i) gI c d L k).2) wr)∧Hq (Below B w wr)) (fun t _=>L.length-(intOf t).toNat)
 case atStart=>exact⟨0,Nat.zero_le _,rfl,qh (by simp only[fT];rw[List.append_nil,←HL.o,sW];exact yN.o),qh (Below.refl _ _)⟩
 case round=>
  obtain⟨k,hk,rfl,HM,HB⟩:=hrel
  by_cases hlt:k<L.length
  ·have HRR:=qh (HR.o.Me HB.o hgr)
   have r0:=HRR.o.c0;have hsz:=HB.o.size;have hlen:=oO (bC C i) gI c d L k;obtain⟨K,hK⟩:=qx (nQ d L.length k);have sI:=qh (l5.o.kn (p:=bC C i) (gI:=gI) (c:=c) (d:=d) k);have gJ:=qh (show(fT (bC C i) gI c d L (k+1)).1=(fT (bC C i) gI c d L k).1++gH 2 (bC C i+aQ ((fT (bC C i) gI c d L k).2.take K)) ((fT (bC C i) gI c d L k).2.getD K 0) gI c d by rw[hK];rfl);have cT:=qh (show(fT (bC C i) gI c d L (k+1)).2=(fT (bC C i) gI c d L k).2.set K 1 by rw[hK];rfl);obtain⟨X1,hX1⟩:∃X,X=(fT (bC C i) gI c d L k).1:=⟨_,rfl⟩;obtain⟨X2,hX2⟩:∃X,X=(fT (bC C i) gI c d L k).2:=⟨_,rfl⟩;rw[←hX1,←hX2]at HM hlen;rw[←hX1,←hX2]at gJ;rw[←hX2]at cT sI;clear hX1 hX2;have hKl:K<L.length:=by rw[hK];unfold nQ;split<;>omega
   have HK:=qh hK;clear hK;have hbef:=HC.o.dX (show i≤q by omega);have HBU:=TH C i X2;obtain⟨P0,qA⟩:=qx (bC C i);rw[←qA]at HBU hbef gJ cT;have rC:=qh qA;clear qA;obtain⟨y,hy⟩:=qx (X2.getD K 0);have hyb:=sI.o.get K;have hSb:=(sI.o.take K).sum;obtain⟨S,hS⟩:=qx (aQ (X2.take K));rw[←hy]at hyb;rw[←hS]at hSb;rw[←hS,←hy]at gJ;obtain⟨tg,ev,cl,n,U,H⟩:=HM.o;obtain⟨gc,cap,rfl⟩:=H.form qo;have h0:0<(eW C i X2 i).length:=by rw[bP];omega
   obtain⟨gi,ci,hU,hci,hgi,PF,WY,hcl,hfr⟩:=H.oK hi h0;rw[bP]at hU hci hcl;have m1:wr.cell? ⟨g,1,none⟩=some (.slice (some ⟨gc,0,none⟩) q cap):=H.b.cell 1;have m2:=H.cellAt hi;rw[hU,hlen.1]at m2;have m3:wr.cell? ⟨gi,K,none⟩=some (.int .i64 y):=by rw[hy];exact hcl K qo
   have hn:=H.len;have hn2:n≤1048576:=by
    simp only[List.length_append,hlen.2]at hn
    omega
   have hHS:=qh H;have hq1:∀z,Calls Tryz.prog 82 #[.pointer (some ⟨g,0,none⟩),.int .i64 i] (wr.drewN z) fun e w'=>e=.returned (.int .i64 P0)∧w'=wr.drewN z:=fun z=>((qX i (hHS.out.drewN z) qo (HC.o.eW sI.o)).mono fun _ _ h=>⟨by rw[h.1,HBU],h.2.symm⟩);have hq2:∀z,Calls Tryz.prog 130 #[.slice (some ⟨gi,0,none⟩) K ci] (wr.drewN z) fun e w'=>e=.returned (.int .i64 S)∧w'=wr.drewN z:=fun z=>((oN (some ⟨gi,0,none⟩) K ci (X2.take K) (wr.drewN z) (by simp;omega) (fun _=>⟨gi,0,rfl,hgi,fun j hj=>by
    have:=hcl j qo;rw[Nat.zero_add]
    simp only[List.getD,List.getElem?_take,if_pos hj]
    exact this⟩) (sI.o.take K)).mono fun _ _ h=>⟨by rw[h.1,hS],h.2.symm⟩)
   have Dv:K≤ci:=qo;clear H hU hcl hfr WY h0 HBU hS hy hn hci;have b1:(0:Int)≤(i:Int):=qo;have b2:(i:Int)<(q:Int):=qo;have b3:(0:Int)≤(K:Int):=qo;have b4:(K:Int)<(L.length:Int):=qo;have b5:(K:Int)≤(ci:Int):=qo
   by_cases hd:d= -1
   ·subst hd
    have SY:(L.length:Int)-1-(k:Int)=(K:Int):=by rw[HK.o,nQ,if_pos rfl];omega
    go_wp2_with fail
    go_quiet (first|(go_at_call 82;exact Calls.quiet_of_same (hq1 _))|(go_at_call 130;exact Calls.quiet_of_same (hq2 _)))
    go_wp2_with fail
    have I7:Hq (iM (wr.drewN nq) gr o (-1) c A m qq):=qh ⟨HRR.o.c0,HRR.o.c1,HRR.o.c2⟩;have yA:B≤(wr.drewN nq).heap.size:=Nat.le_trans hB hsz;refine(xC gr o (-1) c A m qq 2 (P0+S) y gI (hHS.out.drewN nq) yA I7 hgr hn2).mono ?_;rintro e w3 ⟨rfl,iW,hb3⟩;obtain⟨sQ,t7,YA,n3,U3,H3⟩:=iW;obtain⟨nW,NV,rfl⟩:=H3.form qo;have h03:0<(eW C i X2 i).length:=by rw[bP];omega
    obtain⟨vw,ci3,zC,XF,aa9,XP,WX,jO,lS⟩:=H3.oK hi h03;have tA:=qh (H3.bB (k:=K) hi zC (by rw[bP];omega) 1);rw[bP]at zC jO;have n1:w3.cell? ⟨g,1,none⟩=some (.slice (some ⟨nW,0,none⟩) q NV):=H3.b.cell 1;have n2:=H3.cellAt hi;rw[zC,hlen.1]at n2;have n4:=jO K qo;have n5:=lS K;have HB3:=qh (Below.setCell (p:=⟨vw,K,none⟩) (HB.o.trans (Below.trans (Below.drewN' (Below.refl B wr) nq) hb3)) XP (.int .i64 1));obtain⟨y3,hy3⟩:=qx (X2.getD K 0);rw[←hy3]at n4;clear hy3 H3 zC XF WX jO lS hb3 h03 m1 m2 m3 hq1 hq2 r0
    exact zP18x12
   ·have hdb:(d== -1)=false:=by simpa using hd
    have SY:k=K:=by rw[HK.o,nQ,if_neg hd]
    subst SY
    go_wp2_with fail
    go_quiet (first|(go_at_call 82;exact Calls.quiet_of_same (hq1 _))|(go_at_call 130;exact Calls.quiet_of_same (hq2 _)))
    go_wp2_with fail
    have I7:Hq (iM (wr.drewN nq) gr o d c A m qq):=qh ⟨HRR.o.c0,HRR.o.c1,HRR.o.c2⟩;have yA:B≤(wr.drewN nq).heap.size:=Nat.le_trans hB hsz;refine(xC gr o d c A m qq 2 (P0+S) y gI (hHS.out.drewN nq) yA I7 hgr hn2).mono ?_;rintro e w3 ⟨rfl,iW,hb3⟩;obtain⟨sQ,t7,YA,n3,U3,H3⟩:=iW;obtain⟨nW,NV,rfl⟩:=H3.form qo;have h03:0<(eW C i X2 i).length:=by rw[bP];omega
    obtain⟨vw,ci3,zC,XF,aa9,XP,WX,jO,lS⟩:=H3.oK hi h03;have tA:=qh (H3.bB (k:=k) hi zC (by rw[bP];omega) 1);rw[bP]at zC jO;have n1:w3.cell? ⟨g,1,none⟩=some (.slice (some ⟨nW,0,none⟩) q NV):=H3.b.cell 1;have n2:=H3.cellAt hi;rw[zC,hlen.1]at n2;have n4:=jO k qo;have n5:=lS k;have HB3:=qh (Below.setCell (p:=⟨vw,k,none⟩) (HB.o.trans (Below.trans (Below.drewN' (Below.refl B wr) nq) hb3)) XP (.int .i64 1));obtain⟨y3,hy3⟩:=qx (X2.getD k 0);rw[←hy3]at n4;clear hy3 H3 zC XF WX jO lS hb3 h03 m1 m2 m3 hq1 hq2 r0
    exact zP18x12
  ·obtain rfl:L.length=k:=qo
   go_wp2
   go_end0
   exact⟨rfl,by rw[←ah.o];exact HM.o,HB.o⟩
end
section
variable [Inhabited bQ]{B g q:Nat}{E:List Int}{C:Nat→List Int}{w:World}
theorem QU (gr o:Nat)(d c:Int)(A:OA)(m qq:Nat)(z:Nat→Int)(i:Nat)(L:List Int)(H:dO 129 mkS B g q E C w)(hB:B≤w.heap.size)(HR:Hq (iM w gr o d c A m qq))(hz:Rd w A m (fun j=>.int .i64 (z j)))(hgr:gr<B)(hE:E.length≤600000)(hi:i<q)(him:i<m)(hC:mY C q)(HL:Hq (C i=L))(hk:1≤z i∧z i≤11)(h3:z i≠3)(h4:z i≠4)(h5:z i≠5)(h6:z i≠6)(h7:z i≠7):
 Calls Tryz.prog 81 #[.pointer (some ⟨g,0,none⟩),.pointer (some ⟨gr,o,none⟩),.int .i64 i] w (zG 129 mkS B g q (E++nA (bC C i) c d (z i) L) (eW C i (iE (z i) L)) w):=by
 have HE:=qh (show nA (bC C i) c d (z i) L=(fT (bC C i) (if z i=2 then 2 else 1) c d L L.length).1 by unfold nA;rw[if_neg h3,if_neg h6,if_neg h7,if_neg qo]);have HF:=qh (show iE (z i) L=List.replicate L.length 1 by unfold iE;rw[if_neg qo,if_neg h6,if_neg h7]);have HK:∀gI,Hq (Calls Tryz.prog 133 #[.pointer (some ⟨g,0,none⟩),.pointer (some ⟨gr,o,none⟩),.int .i64 i,.int .i64 gI] w (zG 129 mkS B g q (E++(fT (bC C i) gI c d L L.length).1) (eW C i (List.replicate L.length 1)) w)):=fun gI=>qh (IW gr o d c A m qq i gI L H hB HR hgr hE hi hC HL);have HK1:=HK 1;have KF:=HK 2;obtain⟨gz,oz,rfl,hgz,hrz⟩:=hz qo;have c2:=HR.o.c2;have cz:=hrz i him;obtain⟨y,hy⟩:=qx (z i)
 simp only[←hy]at cz hk h3 h4 h5 h6 h7 HE HF ⊢
 have b1:(0:Int)≤(i:Int):=qo;have b2:(i:Int)<(m:Int):=qo;clear hrz hy H HK hC hE
 by_cases h2:y=2
 ·subst h2
  go_enter Tryz.func81,Tryz.ntmps81
  go_wp2_with fail
  refine KF.o.mono ?_;rintro e w1 ⟨rfl,hm,hb⟩
  go_wp2_with fail
  go_end0
  exact⟨rfl,by rw[HE.o,HF.o];exact hm,hb⟩
 ·have hb2:(y==2)=false:=by simpa using h2
  have hb3:(y==3)=false:=by simpa using h3
  have hb4:(y==4)=false:=by simpa using h4
  have hb5:(y==5)=false:=by simpa using h5
  have hb6:(y==6)=false:=by simpa using h6
  have bM:(y==7)=false:=by simpa using h7
  go_enter Tryz.func81,Tryz.ntmps81
  go_wp2_with fail
  refine HK1.o.mono ?_;rintro e w1 ⟨rfl,hm,hb⟩
  go_wp2_with fail
  go_end0
  exact⟨rfl,by rw[HE.o,HF.o,if_neg h2];exact hm,hb⟩
theorem QS (gr o:Nat)(d c:Int)(A:OA)(m qq:Nat)(z:Nat→Int)(i:Nat)(L:List Int)(H:dO 129 mkS B g q E C w)(HR:Hq (iM w gr o d c A m qq))(hz:Rd w A m (fun j=>.int .i64 (z j)))(him:i<m)(HL:Hq (C i=L))(h7:z i=7):
 Calls Tryz.prog 81 #[.pointer (some ⟨g,0,none⟩),.pointer (some ⟨gr,o,none⟩),.int .i64 i] w (zG 129 mkS B g q (E++nA (bC C i) c d (z i) L) (eW C i (iE (z i) L)) w):=by
 have HM:=qh (show dO 129 mkS B g q (E++nA (bC C i) c d (z i) L) (eW C i (iE (z i) L)) w by
  have e1:nA (bC C i) c d (z i) L=[]:=by rw[h7];rfl
  have e2:iE (z i) L=L:=by rw[h7];rfl
  rw[e1,e2,List.append_nil,←HL.o,sW];exact H)
 obtain⟨gz,oz,rfl,hgz,hrz⟩:=hz qo;have c2:=HR.o.c2;have cz:=hrz i him
 simp only[h7]at cz
 have b1:(0:Int)≤(i:Int):=qo;have b2:(i:Int)<(m:Int):=qo;clear hrz H h7
 go_enter Tryz.func81,Tryz.ntmps81
 go_wp2_with fail
 go_end0
 exact⟨rfl,HM.o,Below.refl _ _⟩
theorem QT (gr o:Nat)(d c:Int)(A:OA)(m qq:Nat)(z:Nat→Int)(i:Nat)(L:List Int)(H:dO 129 mkS B g q E C w)(hB:B≤w.heap.size)(HR:Hq (iM w gr o d c A m qq))(hz:Rd w A m (fun j=>.int .i64 (z j)))(hgr:gr<B)(hE:E.length≤600000)(hi:i<q)(him:i<m)(hC:mY C q)(h3:z i=3):
 Calls Tryz.prog 81 #[.pointer (some ⟨g,0,none⟩),.pointer (some ⟨gr,o,none⟩),.int .i64 i] w (zG 129 mkS B g q (E++nA (bC C i) c d (z i) L) (eW C i (iE (z i) L)) w):=by
 have HE:=qh (show nA (bC C i) c d (z i) L=gH 3 (bC C i) 0 1 c d by rw[h3];rfl);have HF:=qh (show iE (z i) L=[1]by rw[h3];rfl);obtain⟨gz,oz,rfl,hgz,hrz⟩:=hz qo;have c2:=HR.o.c2;have cz:=hrz i him
 simp only[h3]at cz
 have b1:(0:Int)≤(i:Int):=qo;have b2:(i:Int)<(m:Int):=qo;have hbef:=hC.dX (show i≤q by omega);have HC:=qh hC;obtain⟨P0,qA⟩:=qx (bC C i);rw[←qA]at hbef HE;have rC:=qh qA;obtain⟨tg,ev,cl,n,U,H⟩:=H;have hn:=H.len;have hn2:n≤1048576:=qo;have HH:=qh H;clear hrz H h3 qA hC hn
 go_enter Tryz.func81,Tryz.ntmps81
 go_wp2_with fail
 refine(qX i HH.o qo HC.o).mono ?_;rintro e w' ⟨rfl,rfl⟩;rw[←rC.o]
 go_wp2_with fail
 refine(xC gr o d c _ m qq 3 P0 0 1 HH.o hB HR hgr hn2).mono ?_;rintro e w3 ⟨rfl,iW,hb3⟩;obtain⟨sQ,t7,YA,n3,U3,H3⟩:=iW;obtain⟨nW,NV,rfl⟩:=H3.form qo;have n1:w3.cell? ⟨g,1,none⟩=some (.slice (some ⟨nW,0,none⟩) q NV):=H3.b.cell 1;have n2:=H3.cellAt hi;have n5:=H3.qW i;have hB3:B≤w3.heap.size:=Nat.le_trans hB hb3.size;have h4:=H3.below ((Below.refl w3.heap.size w3).alloc ql (.cells #[.int .i64 1] 2));have hlit:=World.ownsRow_lit (base:=B) (e:=2) (size:=1) w3 #[.int .i64 1] 1 hB3 qm rfl;have tB:=qh (h4.IY hi (u:=.slice (some ⟨w3.heap.size,0,none⟩) 1 1) (L:=[1]) hlit (fun b hb=>by
  injection hb with hb;refine Decidable.byContradiction fun hne=>?_;have:=H3.lt b hne
  simp only at hb
  omega))
 have hgc:B≤nW:=(H3.c.lt nW rfl).1;have HB3:=qh (Below.setCell (p:=⟨nW,i,none⟩) (hb3.alloc hB3 (.cells #[.int .i64 1] 2)) hgc (.slice (some ⟨w3.heap.size,0,none⟩) 1 1));have hlt3:nW<w3.heap.size:=(H3.c.lt nW rfl).2;have Qu:g<w3.heap.size:=H3.b.lt;rw[World.setCell_alloc_past _ _ _ _ hlt3]at tB HB3;clear h4 hlit H3 hb3 hgc hgz cz c2
 go_wp2_with fail
 go_end0
 exact⟨rfl,⟨_,_,_,_,_,by rw[←rC.o,HE.o,HF.o];exact tB.o⟩,HB3.o⟩
end
theorem Yu (p gI c d x:Int):(fT p gI c d [x] 1).1=gH 2 p x gI c d:=by
 have h:nQ d 1 0=0:=by unfold nQ;split<;>simp
 simp[fT,h,aQ]
theorem aZ.drew [Inhabited bQ]{T:TypeId}{mk:Value→Value→Array Value}{B g:Nat}{tg:Nat→Nat}{ev cl:Value}{n q:Nat}{E:List Int}{U:Nat→Value}{C:Nat→List Int}{w:World}(h:aZ T mk B g tg ev cl n q E U C w):aZ T mk B g tg ev cl n q E U C w.drew:=h.same (fun _ _=>rfl) ql
section
variable [Inhabited bQ]{B g q:Nat}{E:List Int}{C:Nat→List Int}{w:World}
theorem TW (gr o:Nat)(d c:Int)(A:OA)(m qq:Nat)(z:Nat→Int)(i:Nat)(L:List Int)(H:dO 129 mkS B g q E C w)(hB:B≤w.heap.size)(HR:Hq (iM w gr o d c A m qq))(hz:Rd w A m (fun j=>.int .i64 (z j)))(hgr:gr<B)(hE:E.length≤600000)(hi:i<q)(him:i<m)(hC:mY C q)(HL:Hq (C i=L))(hs:aQ L≤1000)(h45:z i=4∨z i=5):
 Calls Tryz.prog 81 #[.pointer (some ⟨g,0,none⟩),.pointer (some ⟨gr,o,none⟩),.int .i64 i] w (zG 129 mkS B g q (E++nA (bC C i) c d (z i) L) (eW C i (iE (z i) L)) w):=by
 have HE:=qh (show nA (bC C i) c d (z i) L=gH 2 (bC C i) (aQ L) 1 c d by unfold nA;rw[if_neg qo,if_neg qo,if_neg qo,if_pos h45]);have HF:=qh (show iE (z i) L=[1]by unfold iE;rw[if_pos qo]);obtain⟨gz,oz,rfl,hgz,hrz⟩:=hz qo;have c2:=HR.o.c2;have cz:=hrz i him;obtain⟨y,hy⟩:=qx (z i)
 simp only[←hy]at cz h45 HE HF ⊢
 have b1:(0:Int)≤(i:Int):=qo;have b2:(i:Int)<(m:Int):=qo;have HC:=qh hC;have l5:=qh (show mR L by rw[←HL.o];exact hC.2 i hi);have hs0:=l5.o.sum.1;obtain⟨tg,ev,cl,n,U,H⟩:=H;obtain⟨gc,cap,rfl⟩:=H.form qo;obtain⟨Au,cu,hU,hrd⟩:=H.read hi;have m1:w.cell? ⟨g,1,none⟩=some (.slice (some ⟨gc,0,none⟩) q cap):=H.b.cell 1;have m2:=H.cellAt hi;have m5:=H.qW i;rw[hU,HL.o]at m2;rw[HL.o]at hrd;have hJ:=qh hrd;have hlt:gc<w.heap.size:=(H.c.lt gc rfl).2;have hgc:B≤gc:=(H.c.lt gc rfl).1;have h4:=H.below ((Below.refl w.heap.size w).alloc ql (.cells #[.int .i64 (aQ L)] 2));have hlit:=World.ownsRow_lit (base:=B) (e:=2) (size:=1) w #[.int .i64 (aQ L)] 1 hB qm rfl;have tB:=qh (h4.IY hi (u:=.slice (some ⟨w.heap.size,0,none⟩) 1 1) (L:=[aQ L]) hlit (fun b hb=>by
  injection hb with hb;refine Decidable.byContradiction fun hne=>?_;have h9:=H.lt b hne
  simp only at hb
  omega))
 have fK:=qh (Below.setCell (p:=⟨gc,i,none⟩) ((Below.refl B w).alloc hB (.cells #[.int .i64 (aQ L)] 2)) hgc (.slice (some ⟨w.heap.size,0,none⟩) 1 1));rw[World.setCell_alloc_past _ _ _ _ hlt]at tB fK;have yR:=qh fK.o.drew;have HSD:=qh tB.o.drew;clear hrz hy h4 hlit H hU hrd hC hgc;have KD:=qh (show dO 129 mkS B g q E (eW C i [aQ L]) _ from⟨_,_,_,_,_,HSD.o⟩);have hBW:=Nat.le_trans hB yR.o.size;have Nw:=qh (IW gr o d c (some ⟨gz,oz,none⟩) m qq i 1 [aQ L] KD.o hBW (qh (HR.o.Me yR.o hgr)) hgr hE hi (HC.o.eW ⟨by simp,fun x hx=>by rw[List.mem_singleton.1 hx];omega⟩) (qh (bP _ _ _)));clear hBW;have hyy:y=4∨y=5:=h45;clear h45
 rcases hyy with rfl|rfl
 all_goals
  go_enter Tryz.func81,Tryz.ntmps81
  go_wp2_with fail
  refine aY (S:=fun w'=>w'.cell? ⟨g,1,none⟩=some (.slice (some ⟨gc,0,none⟩) q cap)∧w'.cell? ⟨gc,i,none⟩=some (.slice Au L.length cu)) _ qj qk qk ⟨m1,m2⟩ (fun hHeld=>?_)
  simp only[List.dropLast,List.getLast_cons_cons,List.getLast_singleton,List.length_cons,List.length_nil]
  refine qt 0 hHeld ?_;refine qt 1 hHeld ?_;refine qt 2 hHeld ?_;refine qt 3 hHeld ?_;refine qt 4 hHeld ?_;refine qt 5 hHeld ?_;refine qt 6 hHeld ?_;refine qt 7 hHeld ?_;refine qt 8 hHeld ?_;refine qt 9 hHeld ?_;refine qt 10 hHeld ?_;refine qt 11 hHeld ?_
  simp only[List.getElem_toArray,List.getElem_cons_succ,List.getElem_cons_zero,Act.put,List.setIfInBounds_toArray,List.set_cons_zero,List.set_cons_succ]
  refine wpAnyH_ready (rs:=[12]) qk qj ?_;refine AllReadyH.cons rfl (fun K hK=>?_) AllReadyH.nil
  simp only[List.getElem_toArray,List.getElem_cons_succ,List.getElem_cons_zero]
  go_simp
  refine(oN Au L.length cu L w.drew rfl (hJ.o.drewN 1) l5.o).mono ?_;rintro e w1 ⟨rfl,rfl⟩;refine hK.out _ _ ⟨m1,m2⟩ (fun bT=>?_);clear hK K hHeld;refine wpAnyH_ready (rs:=[13]) qk qj ?_;refine AllReadyH.cons rfl (fun K hK=>?_) AllReadyH.nil
  simp only[List.getElem_toArray,List.getElem_cons_succ,List.getElem_cons_zero]
  go_simp
  refine hK.out _ _ (by go_keep) (fun dK=>?_);clear hK K bT;refine qt 14 dK ?_
  simp only[List.getElem_toArray,List.getElem_cons_succ,List.getElem_cons_zero,Act.put,List.setIfInBounds_toArray,List.set_cons_zero,List.set_cons_succ]
  refine wpAnyH_done qk ?_ _;refine bZ.of ?_
  go_simp
  clear dK
  go_wp2_with fail
  refine Nw.o.mono ?_;rintro e w3 ⟨rfl,hm,hb⟩
  go_wp2_with fail
  go_end0
  refine⟨rfl,?_,yR.o.trans hb⟩;rw[HE.o,HF.o];rw[TH,Qo,show[aQ L].length=1 from rfl,Yu]at hm;exact hm
end
section
variable [Inhabited bQ]{B g q:Nat}{E:List Int}{C:Nat→List Int}{w:World}
theorem QR (gr o:Nat)(d c:Int)(A:OA)(m qq:Nat)(z:Nat→Int)(i:Nat)(L:List Int)(H:dO 129 mkS B g q E C w)(hB:B≤w.heap.size)(HR:Hq (iM w gr o d c A m qq))(hz:Rd w A m (fun j=>.int .i64 (z j)))(hgr:gr<B)(hE:E.length≤600000)(hi:i<q)(him:i<m)(hC:mY C q)(HL:Hq (C i=L))(hL0:0<L.length)(h6:z i=6):
 Calls Tryz.prog 81 #[.pointer (some ⟨g,0,none⟩),.pointer (some ⟨gr,o,none⟩),.int .i64 i] w (zG 129 mkS B g q (E++nA (bC C i) c d (z i) L) (eW C i (iE (z i) L)) w):=by
 have HE:=qh (show nA (bC C i) c d (z i) L=gH 3 (bC C i+L.getD 0 0) 0 1 c d by rw[h6];rfl);have HF:=qh (show iE (z i) L=L.set 0 (L.getD 0 0+1)by rw[h6];rfl);obtain⟨gz,oz,rfl,hgz,hrz⟩:=hz qo;have c2:=HR.o.c2;have cz:=hrz i him
 simp only[h6]at cz
 have b1:(0:Int)≤(i:Int):=qo;have b2:(i:Int)<(m:Int):=qo;have b3:(0:Int)<(L.length:Int):=qo;have hbef:=hC.dX (show i≤q by omega);have HC:=qh hC;have hyb:=(hC.2 i hi).get 0;rw[HL.o]at hyb;obtain⟨P0,qA⟩:=qx (bC C i);obtain⟨y,hy⟩:=qx (L.getD 0 0);rw[←qA]at hbef HE;rw[←hy]at HE HF hyb;have rC:=qh qA;have HY:=qh hy;obtain⟨tg,ev,cl,n,U,H⟩:=H;have hn:=H.len;have hn2:n≤1048576:=qo;obtain⟨gc,cap,rfl⟩:=H.form qo;have hL1:0<(C i).length:=by rw[HL.o];exact hL0
 obtain⟨gi,ci,hU,hci,hgi,PF,WY,hcl,hfr⟩:=H.oK hi hL1;have m1:w.cell? ⟨g,1,none⟩=some (.slice (some ⟨gc,0,none⟩) q cap):=H.b.cell 1;have m2:=H.cellAt hi;rw[hU,HL.o]at m2;have m3:w.cell? ⟨gi,0,none⟩=some (.int .i64 y):=by rw[hy,←HL.o];exact hcl 0 hL1
 have HH:=qh H.drew;have I7:Hq (iM w.drew gr o d c (some ⟨gz,oz,none⟩) m qq):=qh ⟨HR.o.c0,HR.o.c1,HR.o.c2⟩;clear hrz H h6 qA hC hn hy hU hci WY hcl hfr
 go_enter Tryz.func81,Tryz.ntmps81
 go_wp2_with fail
 refine aY (S:=fun w'=>w'.cell? ⟨g,1,none⟩=some (.slice (some ⟨gc,0,none⟩) q cap)∧w'.cell? ⟨gc,i,none⟩=some (.slice (some ⟨gi,0,none⟩) L.length ci)∧w'.cell? ⟨gi,0,none⟩=some (.int .i64 y)) _ qj qk qk ⟨m1,m2,m3⟩ (fun hHeld=>?_)
 simp only[List.dropLast,List.getLast_cons_cons,List.getLast_singleton,List.length_cons,List.length_nil]
 refine qt 0 hHeld ?_;refine qt 1 hHeld ?_;refine qt 2 hHeld ?_;refine qt 3 hHeld ?_;refine qt 5 hHeld ?_;refine qt 6 hHeld ?_;refine qt 7 hHeld ?_;refine qt 8 hHeld ?_;refine qt 9 hHeld ?_;refine qt 10 hHeld ?_;refine qt 11 hHeld ?_;refine qt 12 hHeld ?_;refine qt 13 hHeld ?_
 simp only[List.getElem_toArray,List.getElem_cons_succ,List.getElem_cons_zero,Act.put,List.setIfInBounds_toArray,List.set_cons_zero,List.set_cons_succ]
 refine wpAnyH_ready (rs:=[4]) qk qj ?_;refine AllReadyH.cons rfl (fun K hK=>?_) AllReadyH.nil
 simp only[List.getElem_toArray,List.getElem_cons_succ,List.getElem_cons_zero]
 go_simp
 refine(qX i HH.o qo HC.o).mono ?_;rintro e w1 ⟨rfl,rfl⟩;rw[←rC.o];refine hK.out _ _ ⟨m1,m2,m3⟩ (fun bT=>?_);clear hK K hHeld;refine qt 14 bT ?_
 simp only[List.getElem_toArray,List.getElem_cons_succ,List.getElem_cons_zero,Act.put,List.setIfInBounds_toArray,List.set_cons_zero,List.set_cons_succ]
 refine wpAnyH_done qk ?_ _;refine bZ.of ?_
 go_simp
 clear bT;rw[show IntKind.i64.wrap (P0+y)=P0+y from IntWalk.i64_in _ qo];refine(xC gr o d c _ m qq 3 (P0+y) 0 1 HH.o hB I7 hgr hn2).mono ?_;rintro e w3 ⟨rfl,iW,hb3⟩;obtain⟨sQ,t7,YA,n3,U3,H3⟩:=iW;obtain⟨nW,NV,rfl⟩:=H3.form qo;obtain⟨vw,ci3,zC,XF,aa9,XP,WX,jO,lS⟩:=H3.oK hi hL1;have tA:=qh (H3.bB (k:=0) hi zC hL1 (y+1));have n1:w3.cell? ⟨g,1,none⟩=some (.slice (some ⟨nW,0,none⟩) q NV):=H3.b.cell 1;have n2:=H3.cellAt hi;rw[zC,HL.o]at n2;have n4:w3.cell? ⟨vw,0,none⟩=some (.int .i64 y):=by rw[HY.o,←HL.o];exact jO 0 hL1
 have n5:=lS 0;have HB3:=qh (Below.setCell (p:=⟨vw,0,none⟩) (Below.trans ((Below.refl B w).drew) hb3) XP (.int .i64 (y+1)));clear H3 zC XF WX jO lS hb3 m1 m2 m3 c2 cz
 go_wp2_with fail
 go_end0
 refine⟨rfl,⟨sQ,t7,.slice (some ⟨nW,0,none⟩) q NV,n3,U3,?_⟩,HB3.o⟩;rw[←rC.o,HE.o,HF.o];have h9:=tA.o;rw[HL.o]at h9;exact h9
end
section
variable [Inhabited bQ]{B g q:Nat}{E:List Int}{C:Nat→List Int}{w:World}
theorem QW (gr o:Nat)(d c:Int)(A:OA)(m qq:Nat)(z:Nat→Int)(i:Nat)(L:List Int)(H:dO 129 mkS B g q E C w)(hB:B≤w.heap.size)(HR:Hq (iM w gr o d c A m qq))(hz:Rd w A m (fun j=>.int .i64 (z j)))(hgr:gr<B)(hE:E.length≤600000)(hi:i<q)(him:i<m)(hC:mY C q)(HL:Hq (C i=L))(hl:L.length=bN (z i))(hs:aQ L≤1000)(hk:1≤z i∧z i≤11):
 Calls Tryz.prog 81 #[.pointer (some ⟨g,0,none⟩),.pointer (some ⟨gr,o,none⟩),.int .i64 i] w (zG 129 mkS B g q (E++nA (bC C i) c d (z i) L) (eW C i (iE (z i) L)) w):=by
 by_cases h3:z i=3
 ·exact QT gr o d c A m qq z i L H hB HR hz hgr hE hi him hC h3
 by_cases h45:z i=4∨z i=5
 ·exact TW gr o d c A m qq z i L H hB HR hz hgr hE hi him hC HL hs h45
 by_cases h6:z i=6
 ·exact QR gr o d c A m qq z i L H hB HR hz hgr hE hi him hC HL (by rw[hl,h6];decide) h6
 by_cases h7:z i=7
 ·exact QS gr o d c A m qq z i L H HR hz him HL h7
 exact QU gr o d c A m qq z i L H hB HR hz hgr hE hi him hC HL hk h3 (fun h=>h45 (.inl h)) (fun h=>h45 (.inr h)) h6 h7
end
theorem WA (s:Int)(l m:List Int):gV s (l++m)=gV s l++gV s m:=List.map_append
theorem LU (s:Int)(l:List Int):(gV s l).length=l.length:=List.length_map _
theorem zP18x5 {p:Prop}(h:p:=by
 obtain⟨A4,c4,rfl,hc4,hnew⟩:=New.sC (w:=w) HB.o HOWN.o;have HN:=qh hnew;clear hnew
 go_wp2
 go_ret
 refine⟨A4,c4,rfl,hc4,?_⟩;have:=HN.o;rw[Nat.mul_one]at this;exact this.congr fun j hj=>by rw[←eV (gV s (bY p a b)) (b*a) (by rw[LU,qS])];simp[List.getD,hj]):p:=h
theorem zP18x8 {p:Prop}(h:p:=by
 go_wp2
 go_roundg (b-(t+1))
 case measure=>omega
 case rel=>exact⟨t+1,by omega,by omega,qg,by have h1:=HX.o;simp only[D2,gV,List.map_nil,List.append_nil]at h1;have h2:=gP.o;rw[h1]at h2;rw[TI.o];simpa [gV]using h2,HB2.o⟩):p:=h
theorem zP18x9 {p:Prop}(h:p:=by
 go_wp2
 go_roundg r'
 case measure=>omega
 case rel=>exact⟨r',xs++[V],by omega,rfl,qg,by have:=HOWN'.o;rw[aL,show N+(a-r')=N+(a-(r'+1))+1 by omega];exact this,qh (by rw[List.append_assoc,HV.o];exact HX.o),oC.o⟩):p:=h
theorem LZ (p:Int)(a b:Nat)(s:Int)(w:World)(hp:0≤p∧p≤1000000000)(ha:a≤1000)(hb:b≤1000)(hs:s=1∨s= -1):
 Calls Tryz.prog 129 #[.int .i64 p,.int .i64 a,.int .i64 b,.int .i64 s] w (LF w (b*a) (b*a) (fun j=>.int .i64 ((gV s (bY p a b)).getD j 0))):=by
 obtain⟨i0,hi,iz,is,ib⟩:=info_parts info64;have HS:=qh hs;clear hs
 go_enter Tryz.func129,Tryz.ntmps129
 go_wp2
 go_loopg [9,10] b (fun q v i wr=>∃t:Nat,t≤b∧q+t=b∧i=.int .i64 t∧wr.ownsRow w.heap.size 2 1 v (t*a) (ints (gV s (bY p a t)))∧Below w.heap.size w wr)
 case atStart=>exact⟨0,Nat.zero_le _,rfl,rfl,by rw[Nat.zero_mul];exact World.ownsRow_made _ #[] 0 ql qm rfl,qb⟩
 case round=>
  obtain⟨t,ht,hq,rfl,hown,hbl⟩:=hrel;have HB:=qh hbl;have HOWN:=qh hown;clear hbl hown
  by_cases hlt:t<b
  ·have EN:t*a≤1000000:=Nat.le_trans (Nat.mul_le_mul (show t≤1000 by omega) ha) qo
   have TI:=qh (show(t+1)*a=t*a+a from Nat.succ_mul t a);have HE:=qh (show gV s (bY p a (t+1))=gV s (bY p a t)++gV s (D2 p t a)by simp only[bY,WA]);obtain⟨N,hN⟩:=qx (t*a);rw[←hN]at EN HOWN TI;have tC:=qh hN;clear hN
   go_wp2_with fail
   go_loopg [9,11] a (fun q2 v i wi=>∃(r:Nat) (xs:List Int),r≤a∧q2=r∧i=.int .i64 ((r:Int)-1)∧wi.ownsRow w.heap.size 2 1 v (N+(a-r)) (ints xs)∧Hq (xs++gV s (D2 p t r)=gV s (bY p a (t+1)))∧Below w.heap.size w wi)
   case atStart=>exact⟨a,gV s (bY p a t),Nat.le_refl _,rfl,qg,by rw[Nat.sub_self,Nat.add_zero];exact HOWN.o,qh HE.o.symm,HB.o⟩
   case round=>
    obtain⟨r,xs,hr,hq2,rfl,hown2,HX,BN⟩:=hrel;have HB2:=qh BN;have gP:=qh hown2;clear hown2 BN
    by_cases hr0:0<r
    ·obtain⟨r',rfl⟩:∃r',r=r'+1:=⟨r-1,by omega⟩
     have e1:((r'+1:Nat):Int)-1=(r':Int):=qo;rw[e1];have hV:∃V,V=s*(p+t+r'+1)∧ -2000000000≤V∧V≤2000000000:=⟨_,rfl,by rcases HS.o with h|h<;>rw[h]<;>omega,by rcases HS.o with h|h<;>rw[h]<;>omega⟩;obtain⟨V,hV,hV1,hV2⟩:=hV;have s1:IntKind.i64.wrap (s*(p+t+r'+1))=V:=by rw[←hV];exact IntWalk.i64_in _ qo
     have s2:wrap64 (s*(p+t+r'+1))=V:=(IntWalk.i64_left _).symm.trans s1;have HV:=qh hV;clear hV
     go_wp2_with (at_builtin;go_must (refine bW _ rfl (.tmp 24) (.tmp 33) _ rfl w.heap.size 2 i0 _ 1 8 Tryz.underlying61 hi iz is ib rfl qo u9 (N+(a-(r'+1))) (ints xs) rfl gP.o _ 1 1 _ rfl rfl (by simp[Value.oneCell']) qm qo HB2.o.size ?_);intro v' w' hown' hb';have HOWN':=qh hown';have oC:=qh (HB2.o.trans hb');clear hown' hb')
     exact zP18x9
    ·obtain rfl:r=0:=qo
     exact zP18x8
  ·obtain rfl:b=t:=qo
   exact zP18x5
section
variable [Inhabited bQ]{B g q:Nat}{E:List Int}{C:Nat→List Int}{w:World}
theorem QZ (i:Nat)(k:Int)(L:List Int)(H:dO 129 mkS B g q E C w)(HL:Hq (C i=L))(h0:jI k=0):
 Calls Tryz.prog 79 #[.pointer (some ⟨g,0,none⟩),.int .i64 i,.int .i64 k] w (zG 129 mkS B g q (E++lB (bC C i) k L) (eW C i (jD k L)) w):=by
 have HM:=qh (show dO 129 mkS B g q (E++lB (bC C i) k L) (eW C i (jD k L)) w by
  rw[lB,jD,if_pos h0,if_pos h0,List.append_nil,←HL.o,sW];exact H)
 have H0:=qh h0;clear H h0
 go_enter Tryz.func79,Tryz.ntmps79
 go_wp2_with fail
 refine(DV k _).mono ?_;rintro e w' ⟨rfl,rfl⟩;rw[H0.o]
 go_wp2_with fail
 go_end0
 exact⟨rfl,HM.o,Below.refl _ _⟩
end
def E7 (p:Int):Nat→List Int
 |0=>[]
 |k+1=>E7 p k++[p+k]
theorem xI (p:Int)(n:Nat):(E7 p n).length=n:=by
 induction n with
 |zero=>rfl
 |succ n ih=>simp[E7,ih]
theorem Sd (p:Int){n j:Nat}(h:j<n):(E7 p n).getD j 0=p+j:=by
 induction n with
 |zero=>omega
 |succ n ih=>
  simp only[E7,List.getD]
  by_cases hj:j<n
  ·rw[List.getElem?_append_left (by rw[xI];exact hj)]
   exact ih hj
  ·obtain rfl:j=n:=qo
   rw[List.getElem?_append_right (by rw[xI];omega),xI]
   simp
theorem WB (p:Int)(n:Nat)(w:World)(hp: -1000000≤p∧p≤1000000)(hn:n≤1000):
 Calls Tryz.prog 127 #[.int .i64 p,.int .i64 n] w (LF w n n (fun j=>.int .i64 (p+j))):=by
 obtain⟨i0,hi,iz,is,ib⟩:=info_parts info64
 go_enter Tryz.func127,Tryz.ntmps127
 go_wp2
 go_loopg [5,6] n (fun q v i wr=>∃t:Nat,t≤n∧q+t=n∧i=.int .i64 t∧wr.ownsRow w.heap.size 2 1 v t (ints (E7 p t))∧Below w.heap.size w wr)
 case atStart=>exact⟨0,Nat.zero_le _,rfl,rfl,World.ownsRow_made _ #[] 0 ql qm rfl,qb⟩
 case round=>
  obtain⟨t,ht,hq,rfl,hown,hbl⟩:=hrel;have HB:=qh hbl;have HOWN:=qh hown;clear hbl hown
  by_cases hlt:t<n
  ·have HE:=qh (show E7 p (t+1)=E7 p t++[p+t]from rfl)
   go_wp2_with (at_builtin;go_must (refine bW _ rfl (.tmp 13) (.tmp 17) _ rfl w.heap.size 2 i0 _ 1 8 Tryz.underlying61 hi iz is ib rfl qo u5 t (ints (E7 p t)) rfl HOWN.o _ 1 1 _ rfl rfl (by simp[Value.oneCell']) qm qo HB.o.size ?_);intro v' w' hown' hb';have HOWN':=qh hown';have oC:=qh (HB.o.trans hb');clear hown' hb')
   go_wp2
   go_roundg (n-(t+1))
   case measure=>omega
   case rel=>exact⟨t+1,by omega,by omega,qg,by have:=HOWN'.o;rw[HE.o,aL];exact this,oC.o⟩
  ·obtain rfl:n=t:=qo
   obtain⟨A4,c4,rfl,hc4,hnew⟩:=New.sC (w:=w) HB.o HOWN.o;have HN:=qh hnew;clear hnew
   go_wp2
   go_ret
   refine⟨A4,c4,rfl,hc4,?_⟩;have:=HN.o;rw[Nat.mul_one]at this;exact this.congr fun j hj=>by rw[←eV (E7 p n) n (xI p n)];simp only[List.getD,List.getElem?_map,List.getElem?_range hj,Option.map_some,Option.getD_some];exact jM (Sd p hj)
def B7 (d:Int)(m:Nat):Nat→List Int
 |0=>[]
 |t+1=>B7 d m t++[(fC d m t:Int)]
theorem xD (d:Int)(m n:Nat):(B7 d m n).length=n:=by
 induction n with
 |zero=>rfl
 |succ n ih=>simp[B7,ih]
theorem Pm (d:Int)(m:Nat){n j:Nat}(h:j<n):(B7 d m n).getD j 0=fC d m j:=by
 induction n with
 |zero=>omega
 |succ n ih=>
  simp only[B7,List.getD]
  by_cases hj:j<n
  ·rw[List.getElem?_append_left (by rw[xD];exact hj)]
   exact ih hj
  ·obtain rfl:j=n:=qo
   rw[List.getElem?_append_right (by rw[xD];omega),xD]
   simp
theorem zP18x13 {p:Prop}(h:p:=by
 go_wp2
 go_roundg (n-(t+1))
 case measure=>omega
 case rel=>exact⟨t+1,by omega,by omega,qg,by have:=HOWN'.o;rw[HE.o,HV.o,aL];exact this,oC.o⟩):p:=h
theorem WC (gr o:Nat)(d c:Int)(A:OA)(n qq:Nat)(w:World)(HR:Hq (iM w gr o d c A n qq))(hd:gQ d=true)(hn:n≤1000):
 Calls Tryz.prog 80 #[.pointer (some ⟨gr,o,none⟩)] w (LF w n n (fun j=>.int .i64 (fC d n j))):=by
 obtain⟨i0,hi,iz,is,ib⟩:=info_parts info64;have r2:=HR.o.c2;have hgw:=World.block_lt_of_cell? w _ HR.o.c0
 simp only at hgw
 have HD:=qh (show d=1∨d= -1 by simpa [gQ]using hd);clear hd
 go_enter Tryz.func80,Tryz.ntmps80
 go_wp2
 clear r2
 go_loopg [3,5] n (fun q v i wr=>∃t:Nat,t≤n∧q+t=n∧i=.int .i64 t∧wr.ownsRow w.heap.size 2 1 v t (ints (B7 d n t))∧Below w.heap.size w wr)
 case atStart=>exact⟨0,Nat.zero_le _,rfl,rfl,World.ownsRow_made _ #[] 0 ql qm rfl,qb⟩
 case round=>
  obtain⟨t,ht,hq,rfl,hown,hbl⟩:=hrel;have HB:=qh hbl;have HOWN:=qh hown;clear hbl hown
  by_cases hlt:t<n
  ·have HE:=qh (show B7 d n (t+1)=B7 d n t++[(fC d n t:Int)]from rfl)
   have r0:=aM HB.o hgw HR.o.c0
   rcases HD.o with rfl|rfl
   ·have HV:=qh (show(fC 1 n t:Int)=t by simp[fC])
    go_wp2_with (at_builtin;go_must (refine bW _ rfl (.tmp 22) (.tmp 24) _ rfl w.heap.size 2 i0 _ 1 8 Tryz.underlying61 hi iz is ib rfl qo u3 t (ints (B7 1 n t)) rfl HOWN.o _ 1 1 _ rfl rfl (by simp[Value.oneCell']) qm qo HB.o.size ?_);intro v' w' hown' hb';have HOWN':=qh hown';have oC:=qh (HB.o.trans hb');clear hown' hb')
    exact zP18x13
   ·have HV:=qh (show(fC (-1) n t:Int)=(n:Int)-1-t by simp[fC];omega)
    go_wp2_with (at_builtin;go_must (refine bW _ rfl (.tmp 26) (.tmp 31) _ rfl w.heap.size 2 i0 _ 1 8 Tryz.underlying61 hi iz is ib rfl qo u3 t (ints (B7 (-1) n t)) rfl HOWN.o _ 1 1 _ rfl rfl (by simp[Value.oneCell']) qm qo HB.o.size ?_);intro v' w' hown' hb';have HOWN':=qh hown';have oC:=qh (HB.o.trans hb');clear hown' hb')
    exact zP18x13
  ·obtain rfl:n=t:=qo
   obtain⟨A4,c4,rfl,hc4,hnew⟩:=New.sC (w:=w) HB.o HOWN.o;have HN:=qh hnew;clear hnew
   go_wp2
   go_ret
   refine⟨A4,c4,rfl,hc4,?_⟩;have:=HN.o;rw[Nat.mul_one]at this;exact this.congr fun j hj=>by rw[←eV (B7 d n n) n (xD d n n)];simp only[List.getD,List.getElem?_map,List.getElem?_range hj,Option.map_some,Option.getD_some];exact jM (Pm d n hj)
theorem M3 (A:OA)(c:Nat)(L:List Int)(w:World)(ha:Rd w A L.length (fun j=>.int .i64 (L.getD j 0)))(hn:L.length≤1048576):
 Calls Tryz.prog 132 #[.slice A L.length c] w fun e w'=>∃v,e=.returned v∧w'.ownsRow w.heap.size 2 1 v L.length (ints L)∧Below w.heap.size w w':=by
 obtain⟨i0,hi,iz,is,ib⟩:=info_parts info64;have hb0:Below w.heap.size w (w.alloc (.cells #[] 2)):=qb;have HR:=qh (ha.below hb0);have HO:=qh (World.ownsRow_made (e:=2) (size:=1) w #[] 0 ql qm rfl);have HB:=qh hb0;clear ha hb0
 go_enter Tryz.func132,Tryz.ntmps132
 go_wp2_with (at_builtin;go_must (refine cO (w.alloc (.cells #[] 2)) rfl (.tmp 3) (.tmp 4) _ rfl w.heap.size 2 i0 _ 1 8 Tryz.underlying61 hi iz is ib rfl qo _ 0 [] rfl HO.o A L.length c (fun j=>.int .i64 (L.getD j 0)) rfl (by rw[Nat.mul_one];exact HR.o) (fun j=>rfl) qm qo qj ?_);intro v' w' hown' hfr;have HOWN':=qh hown';have jZ:=qh hfr;clear hown' hfr)
 go_ret
 have ho:=HOWN'.o;rw[Nat.zero_add,List.nil_append,Nat.mul_one,eV L L.length rfl]at ho;exact⟨_,rfl,ho,HB.o.trans (jZ.o.own HO.o qj)⟩
section
variable [Inhabited bQ]{B g q:Nat}{E:List Int}{C:Nat→List Int}{w:World}
theorem zP18x0 {p:Prop}(h:p:=by
 have ET:=hr4 k2 hlt;obtain⟨Ae,ce,rfl⟩:=aE HS2.o.e;have e0:wr.cell? ⟨g,0,none⟩=some (.slice Ae n2 ce):=HS2.o.b.cell 0;have f0:wr.frozen? ⟨g,0,none⟩=false:=HS2.o.b.frozen 0;obtain⟨V,hV⟩:∃V,V=(gV s (bY P0 a b)).getD k2 0:=⟨_,rfl⟩
 simp only[←hV]at ET
 have HV:=qh hV;clear hV hr4
 go_wp2_with fail
 have yA:B≤wr.heap.size:=Nat.le_trans hB HB2.o.size;have hn2:=HS2.o.len;have hkk:=F1.o;have afx:n2≤1048576:=by
  simp only[List.length_append,yW,List.length_take]at hn2
  omega
 have hVb: -1000000000-1000≤V∧V≤1000000000+1000∧(V.natAbs:Int)-1=(bY P0 a b).getD k2 0∧V=s*((bY P0 a b).getD k2 0+1):=by
  have hx:k2<(bY P0 a b).length:=qo;have h1:=FQ (p:=P0) (a:=a) (t:=b) (bY P0 a b)[k2] (List.getElem_mem hx);have h2:=Ux.o;have h3:(bY P0 a b).getD k2 0=(bY P0 a b)[k2]:=by simp[List.getD,List.getElem?_eq_getElem hx]
  have h4:V=s*((bY P0 a b)[k2]+1):=by rw[HV.o];simp[gV,List.getD,List.getElem?_eq_getElem hx]
  rw[h3,h4]
  rcases jR.o with h5|h5<;>rw[h5]<;>omega
 obtain⟨hv1,hv2,hv3,hv4⟩:=hVb;have za:=qh hv3;clear hv3 hv4;refine aY (S:=fun w'=>w'.cell? ⟨g,0,none⟩=some (.slice Ae n2 ce)∧w'.cell? ⟨g4,o4+k2,none⟩=some (.int .i64 V)) _ qj qk qk ⟨e0,ET⟩ (fun hHeld=>?_)
 simp only[List.dropLast,List.getLast_cons_cons,List.getLast_singleton,List.length_cons,List.length_nil]
 refine qt 0 hHeld ?_;refine qt 1 hHeld ?_;refine qt 2 hHeld ?_;refine qt 3 hHeld ?_;refine qt 4 hHeld ?_;refine qt 5 hHeld ?_;refine qt 6 hHeld ?_;refine qt 7 hHeld ?_;refine qt 8 hHeld ?_;refine qt 11 hHeld ?_
 simp only[List.getElem_toArray,List.getElem_cons_succ,List.getElem_cons_zero,Act.put,List.setIfInBounds_toArray,List.set_cons_zero,List.set_cons_succ]
 refine wpAnyH_ready (rs:=[9]) qk qj ?_;refine AllReadyH.cons rfl (fun K hK=>?_) AllReadyH.nil
 simp only[List.getElem_toArray,List.getElem_cons_succ,List.getElem_cons_zero]
 go_simp
 refine(OW V _ qo).mono ?_;rintro e w1 ⟨rfl,rfl⟩;refine hK.out _ _ ⟨e0,ET⟩ (fun bT=>?_);clear hK K hHeld;refine qt 10 bT ?_;refine qt 12 bT ?_
 simp only[List.getElem_toArray,List.getElem_cons_succ,List.getElem_cons_zero,Act.put,List.setIfInBounds_toArray,List.set_cons_zero,List.set_cons_succ]
 refine wpAnyH_ready (rs:=[13]) qk qj ?_;refine AllReadyH.cons rfl (fun K hK=>?_) AllReadyH.nil
 simp only[List.getElem_toArray,List.getElem_cons_succ,List.getElem_cons_zero]
 go_simp
 refine hK.out _ _ (by go_keep) (fun dK=>?_);clear hK K bT;refine wpAnyH_ready (rs:=[14]) qk qj ?_;refine AllReadyH.cons rfl (fun K hK=>?_) AllReadyH.nil
 simp only[List.getElem_toArray,List.getElem_cons_succ,List.getElem_cons_zero]
 refine kR wr.drew (by rfl) (.tmp 48) (.tmp 57) _ (by rfl) B 116 i0 _ 6 48 Tryz.underlying42 hi0 iz is ib rfl qo (.slice Ae n2 ce) n2 _ (by rfl) HS2.o.drew.e _ 1 1 [.int .i64 1,.int .i64 (IntKind.i64.wrap ((V.natAbs:Int)-1)),.int .i64 s,.int .i64 0,.int .i64 0,.int .i64 0] (by rfl) rfl (by simp[Value.oneCell']) qm qo yA ?_;intro v2 w2 hown2 hfr2 fI;obtain⟨A2,c2,rfl⟩:=aE hown2;have gG:∀bb,(Value.slice Ae n2 ce).ownBlock=some bb→xM bb=2:=HS2.o.te;have hgn:¬(Value.slice Ae n2 ce).ownBlock=some g:=fun e=>by have:=gG _ e;have:=HS2.o.tb;omega
 have hon:¬(Value.slice Ae n2 ce).ownBlock=some g4:=fun e=>by have:=gG _ e;have:=(dB.o g4 ⟨by omega,_,rfl,rfl⟩).1;omega
 have dM:=World.block_lt_of_cell? wr _ e0;have hlo:=World.block_lt_of_cell? wr _ ET;have BG:=(hfr2.cells dM hgn 0).trans e0;have Je:=(hfr2.cells hlo hon (o4+k2)).trans ET;have Jf:w2.frozen? ⟨g,0,none⟩=false:=(World.frozen?_of_block (w:=wr.drew) (a:=⟨g,0,none⟩) (hfr2.block g dM hgn)).trans f0;refine hK.out _ _ ⟨BG,Je⟩ (fun bF=>?_);clear hK K dK;have hfree:qZ xM (.slice A2 (n2+1) c2) 2:=fun bb hb=>by
  rcases fI with h|h
  ·exact .inr (gG bb (h.symm.trans hb))
  ·refine .inl (Decidable.byContradiction fun hne=>?_)
   have h1:=HS2.o.lt bb hne;rw[hb]at h;injection h with h;have h2:wr.drew.heap.size=wr.heap.size:=rfl;omega
 have htk:(bY P0 a b).take (k2+1)=(bY P0 a b).take k2++[(bY P0 a b).getD k2 0]:=by
  have hx:k2<(bY P0 a b).length:=qo;rw[List.take_succ_eq_append_getElem hx]
  simp[List.getD,List.getElem?_eq_getElem hx]
 have hown3:w2.ownsRow B 116 6 (.slice A2 (n2+1) c2) (n2+1) (ints (E++bL s ((bY P0 a b).take (k2+1)))):=by
  rw[IntWalk.i64_in _ qo,za.o]at hown2;rw[htk,GA,←List.append_assoc,aL];exact hown2
 have HM:=qh (HS2.o.R4 (w':=w2) (fun bb h0 h2=>hfr2.block bb (HS2.o.lt bb h0) fun e=>h2 (gG bb e)) hfr2.size hown3 hfree (o:=0) rfl);have iD:=qh (Below.setCell (p:=⟨g,0,none⟩) (HB2.o.trans (Below.trans ((Below.refl B wr).drew) (hfr2.own (w:=wr.drew) HS2.o.e yA))) HS2.o.lo (.slice A2 (n2+1) c2));have hfw:∀bb,Fb (some ⟨g4,o4,none⟩) N bb→(w2.setCell ⟨g,0,none⟩ (.slice A2 (n2+1) c2)).heap[bb]?=wr.heap[bb]?:=fun bb hb=>by
  have h1:=dB.o bb hb;refine(kZ _ _ _ _ (by rintro rfl;have:=HS2.o.tb;omega)).trans (hfr2.block bb h1.2 fun e=>by have:=gG bb e;omega)
 have HRW:=qh ((aS _ _ _).1 _ _ HR2.o hfw);have HFW:=qh (show∀bb,Fb (some ⟨g4,o4,none⟩) N bb→gO xM (.slice A2 (n2+1) c2) 2 bb=0∧bb<(w2.setCell ⟨g,0,none⟩ (.slice A2 (n2+1) c2)).heap.size from fun bb hb=>by
  have h1:=dB.o bb hb;have h3:=hfr2.size;have h2:wr.drew.heap.size=wr.heap.size:=rfl;refine⟨?_,by rw[oE];omega⟩;unfold gO;rw[if_neg ?_]
  ·exact h1.1
  ·intro e
   rcases fI with h|h
   ·have:=gG bb (h.symm.trans e)
    omega
   ·rw[e]at h
    injection h with h;omega)
 clear gG hgn hon dM hlo e0 ET f0 hfree hfr2 hown2 fI hown3 htk hfw hn2 hkk;refine qt 15 bF ?_;refine qt 16 bF ?_
 simp only[List.getElem_toArray,List.getElem_cons_succ,List.getElem_cons_zero,Act.put,List.setIfInBounds_toArray,List.set_cons_zero,List.set_cons_succ]
 refine wpAnyH_done qk ?_ _;refine bZ.of ?_
 go_simp
 clear bF Je
 go_wp2_with fail
 go_roundw
 case rel=>exact⟨k2+1,_,_,n2+1,by omega,qg,HM,HRW,HFW,iD⟩
 case measure=>exact qs):p:=h
theorem zP18x4 {p:Prop}(h:p:=by
 simp only[List.getElem_toArray,List.getElem_cons_succ,List.getElem_cons_zero,Act.put,List.setIfInBounds_toArray,List.set_cons_zero,List.set_cons_succ]
 refine wpAnyH_done qk ?_ _;refine bZ.of ?_
 go_simp
 clear dK BG
 go_wp2_with fail
 go_end0
 have h9:dO 129 mkS B g q (E++bL s ((bY P0 a b).take N)) (eW C i (jD k L)) _:=⟨_,_,_,_,_,HM.o⟩;rw[vY.o,←HE.o]at h9;rw[←rC.o];exact⟨rfl,h9,iD.o⟩):p:=h
theorem QY (i:Nat)(k:Int)(L:List Int)(H:dO 129 mkS B g q E C w)(hB:B≤w.heap.size)(hE:E.length≤500000)(hi:i<q)(hC:mY C q)(HL:Hq (C i=L))(hl:L.length=2)(hs:aQ L≤100)(s:Int)(hs1:s=1∨s= -1)(h0:jI k=s):
 Calls Tryz.prog 79 #[.pointer (some ⟨g,0,none⟩),.int .i64 i,.int .i64 k] w (zG 129 mkS B g q (E++lB (bC C i) k L) (eW C i (jD k L)) w):=by
 have HS:=qh h0;have jR:=qh hs1;have hbef:=hC.dX (show i≤q by omega);have HC:=qh hC;have l5:=qh (show mR L by rw[←HL.o];exact hC.2 i hi);obtain⟨P0,qA⟩:=qx (bC C i);rw[←qA]at hbef;have rC:=qh qA;obtain⟨tg,ev,cl,n,U,H⟩:=H;obtain⟨gc,cap,rfl⟩:=H.form qo;have hL1:0<(C i).length:=by rw[HL.o];omega
 obtain⟨gi,ci,hU,hci,hgi,PF,WY,hcl,hfr⟩:=H.oK hi hL1;have m1:w.cell? ⟨g,1,none⟩=some (.slice (some ⟨gc,0,none⟩) q cap):=H.b.cell 1;have m2:=H.cellAt hi;rw[hU,HL.o,hl]at m2;rw[HL.o,hl]at hci hcl;have hne:¬ci=1:=qo;have Rc:(1:Int)≤(ci:Int):=qo;have b1:(0:Int)≤(i:Int):=qo;have b2:(i:Int)<(q:Int):=qo;have GZ:s≠0:=by rcases hs1 with rfl|rfl<;>decide
 have hsb:(s==0)=false:=by simpa using GZ
 obtain⟨a,ha⟩:∃a,a=(aQ (L.take 1)).toNat:=⟨_,rfl⟩;obtain⟨b,hb⟩:∃b,b=(aQ (L.drop 1)).toNat:=⟨_,rfl⟩;have hsum:aQ L=aQ (L.take 1)+aQ (L.drop 1):=by rw[←mU,List.take_append_drop]
 have EN:=(l5.o.take 1).sum;have htb:=(l5.o.drop 1).sum;have ha2:aQ (L.take 1)=(a:Int):=qo;have hb2:aQ (L.drop 1)=(b:Int):=qo;have hab:a≤100∧b≤100:=qo;have hq1:Calls Tryz.prog 82 #[.pointer (some ⟨g,0,none⟩),.int .i64 i] w.drew fun e w'=>e=.returned (.int .i64 P0)∧w.drew=w':=(qX i H.drew qo HC.o).mono fun _ _ h=>⟨by rw[h.1,rC.o],h.2⟩;have hq2:Calls Tryz.prog 130 #[.slice (some ⟨gi,0,none⟩) 1 ci] w.drew fun e w'=>e=.returned (.int .i64 a)∧w.drew=w':=(oN (some ⟨gi,0,none⟩) 1 ci (L.take 1) w.drew (by simp;omega) (fun _=>⟨gi,0,rfl,hgi,fun j hj=>by
  have:=hcl j qo;rw[Nat.zero_add]
  simp only[List.getD,List.getElem?_take,if_pos hj]
  exact this⟩) (l5.o.take 1)).mono fun _ _ h=>⟨by rw[h.1,ha2],h.2⟩
 have hq3:Calls Tryz.prog 130 #[.slice (some ⟨gi,1,none⟩) 1 (ci-1)] w.drew fun e w'=>e=.returned (.int .i64 b)∧w.drew=w':=(oN (some ⟨gi,1,none⟩) 1 (ci-1) (L.drop 1) w.drew (by simp;omega) (fun _=>⟨gi,1,rfl,hgi,fun j hj=>by
  have:=hcl (1+j) qo
  simp only[List.getD,List.getElem?_drop]
  exact this⟩) (l5.o.drop 1)).mono fun _ _ h=>⟨by rw[h.1,hb2],h.2⟩
 have CA:=qh hq1;have pN:=qh hq2;have Z4:=qh hq3;have HH:=qh H;have HU:=qh hU;have hL2:L.length/2=1:=qo;have HE:=qh (show lB P0 k L=bL s (bY P0 a b)by rw[lB,if_neg (by rw[h0];exact GZ),hL2,h0,ha,hb]);have qN:=qh (show jD k L=L.drop 1++L.take 1 by rw[jD,if_neg (by rw[h0];exact GZ),hL2]);have kP:=qh (show(L.drop 1).length=1∧(L.take 1).length=1 by simp[hl]);clear hL2;clear hq1 hq2 hq3 H h0 hs1 qA hC ha hb hsum EN htb ha2 hb2 hU WY hcl hfr hs GZ hl
 go_enter Tryz.func79,Tryz.ntmps79
 go_wp2_with fail
 refine(DV k _).mono ?_;rintro e w' ⟨rfl,rfl⟩;rw[HS.o]
 go_wp2_with fail
 go_region_held3 (fun _=>True) (trivial) (first
  |(go_at_call 82;refine CA.o.mono ?_;rintro e w' ⟨rfl,rfl⟩)
  |(go_at_call_of 130 (Value.slice (some ⟨gi,0,none⟩) 1 ci);refine pN.o.mono ?_;rintro e w' ⟨rfl,rfl⟩)
  |(go_at_call 130;refine Z4.o.mono ?_;rintro e w' ⟨rfl,rfl⟩)
  |(go_at_call 129;refine(LZ P0 a b s _ hbef qo qo jR.o).mono ?_;rintro e w4 ⟨A4,c4,rfl,hc4,oF⟩))
 have jF:=qh oF;have Ux:=qh hab;have XK:b*a≤10000:=Nat.le_trans (Nat.mul_le_mul hab.2 hab.1) qo;have hlen:(bY P0 a b).length=b*a:=qS P0 a b;obtain⟨N,hN⟩:=qx (b*a);rw[←hN]at jF XK hlen hc4 ⊢;have tC:=qh hN;clear oF hN;obtain⟨i0,hi0,iz,is,ib⟩:=info_parts dQ;have afw:w.heap.size≤w4.heap.size:=jF.o.bl.size;have F1:=qh hlen;clear hlen
 go_wp2_with fail
 go_loopw [10] (fun x wr=>∃(k:Nat) (tg:Nat→Nat) (ev:Value) (n:Nat),k≤N∧x=.int .i64 k∧Hq (aZ 129 mkS B g tg ev (.slice (some ⟨gc,0,none⟩) q cap) n q (E++bL s ((bY P0 a b).take k)) U C wr)∧Hq (Rd wr A4 N (fun j=>.int .i64 ((gV s (bY P0 a b)).getD j 0)))∧Hq (∀bb,Fb A4 N bb→tg bb=0∧bb<wr.heap.size)∧Hq (Below B w wr)) (fun x _=>N-(intOf x).toNat)
 case atStart=>exact⟨0,tg,ev,n,Nat.zero_le _,rfl,qh (by simp only[List.take_zero,bL,List.append_nil];exact HH.o.drew.below jF.o.bl),qh jF.o.rd,qh (fun bb ⟨_,ad,e,hb⟩=>⟨Decidable.byContradiction fun hne=>by have h1:=HH.o.lt bb hne;have h2:=jF.o.ab ad e;have h3:w.drew.heap.size=w.heap.size:=rfl;omega,hb▸jF.o.bb ad e⟩),qh (((Below.refl B w).drew).trans (jF.o.bl.mono hB))⟩
 case round=>
  obtain⟨k2,xM,ev2,n2,hk2,rfl,HS2,HR2,dB,HB2⟩:=hrel
  by_cases hlt:k2<N
  ·obtain⟨g4,o4,rfl,hg4,hr4⟩:=HR2.o qo
   exact zP18x0
  ·obtain rfl:N=k2:=qo
   obtain⟨gi2,ci2,Ke,Dv,NN,afO,Qp,NO,hfr2⟩:=HS2.o.oK hi hL1;rw[HU.o,HL.o]at Ke;injection Ke with e1 e2 e3;injection e1 with e1;injection e1 with e1;subst e1 e3;rw[HL.o]at NO;have n1:wr.cell? ⟨g,1,none⟩=some (.slice (some ⟨gc,0,none⟩) q cap):=HS2.o.b.cell 1;have vT:=qh NO;have yA:B≤wr.heap.size:=Nat.le_trans hB HB2.o.size;have afI:=HS2.o.qW i;have vY:=qh (show(bY P0 a b).take N=bY P0 a b by rw[←F1.o,List.take_length]);clear Dv Qp NO hfr2 m1 m2;obtain⟨j0,hj0,jz,js,jb⟩:=info_parts info64
   go_wp2_with fail
   refine aY (S:=fun w'=>w'.cell? ⟨g,1,none⟩=some (.slice (some ⟨gc,0,none⟩) q cap)) _ qj qk qk n1 (fun hHeld=>?_)
   simp only[List.dropLast,List.getLast_cons_cons,List.getLast_singleton,List.length_cons,List.length_nil]
   refine qt 0 hHeld ?_;refine qt 1 hHeld ?_;refine qt 2 hHeld ?_;refine qt 3 hHeld ?_;refine qt 4 hHeld ?_;refine qt 5 hHeld ?_;refine qt 6 hHeld ?_;refine qt 7 hHeld ?_;refine qt 9 hHeld ?_;refine qt 10 hHeld ?_;refine qt 11 hHeld ?_
   simp only[List.getElem_toArray,List.getElem_cons_succ,List.getElem_cons_zero,Act.put,List.setIfInBounds_toArray,List.set_cons_zero,List.set_cons_succ]
   refine wpAnyH_ready (rs:=[8]) qk qj ?_;refine AllReadyH.cons rfl (fun K hK=>?_) AllReadyH.nil
   simp only[List.getElem_toArray,List.getElem_cons_succ,List.getElem_cons_zero]
   go_simp
   have ho1:=M3 (some ⟨gi,1,none⟩) (ci-1) (L.drop 1) wr.drew (fun _=>⟨gi,1,rfl,NN,fun j hj=>by
    have hj2:=kP.o;have h9:=vT.o (1+j) (by have h8:=List.length_drop (i:=1) (l:=L);omega)
    simp only[List.getD,List.getElem?_drop]
    exact h9⟩) (by have:=kP.o;omega)
   rw[kP.o.1]at ho1;refine ho1.mono ?_;clear ho1;rintro e w1 ⟨v1,rfl,ho1,hb1⟩;have k1:w1.cell? ⟨g,1,none⟩=some (.slice (some ⟨gc,0,none⟩) q cap):=(HS2.o.drew.below hb1).b.cell 1;refine hK.out _ _ k1 (fun bT=>?_);clear hK K hHeld;refine wpAnyH_ready (rs:=[12]) qk qj ?_;refine AllReadyH.cons rfl (fun K hK=>?_) AllReadyH.nil
   simp only[List.getElem_toArray,List.getElem_cons_succ,List.getElem_cons_zero]
   obtain⟨A1,c1,rfl⟩:=aE ho1;refine OG w1 (by rfl) (.tmp 69) (.tmp 72) _ (by rfl) wr.heap.size 2 j0 _ 1 8 Tryz.underlying61 hj0 jz js jb rfl qo (.slice A1 1 c1) 1 (ints (L.drop 1)) (by rfl) ho1 (some ⟨gi,0,none⟩) 1 ci (fun j=>.int .i64 ((L.take 1).getD j 0)) (by rfl) (fun _=>⟨gi,0,rfl,Nat.lt_of_lt_of_le NN hb1.size,fun j hj=>by
    have h9:=aM hb1 (g:=gi) NN (vT.o j (by have h8:=List.length_take (i:=1) (l:=L);have:=kP.o;omega));rw[Nat.zero_add]
    simp only[List.getD,List.getElem?_take,if_pos (show j<1 by omega)]
    exact h9⟩) (fun j=>rfl) qm qo hb1.size ?_
   intro v2 w2 ho2 hfr2;obtain⟨A2,c2,rfl⟩:=aE ho2;have hnb:∀bb,(Value.slice A1 1 c1).ownBlock=some bb→wr.heap.size≤bb:=fun bb hb=>(ho1.lt bb hb).1;have wP:aZ 129 mkS B g xM ev2 (.slice (some ⟨gc,0,none⟩) q cap) n2 q (E++bL s ((bY P0 a b).take N)) U C w2:=(HS2.o.drew.below hb1).same (fun bb h0=>hfr2.block bb ((HS2.o.drew.below hb1).lt bb h0) fun e=>by have:=hnb bb e;have:=HS2.o.lt bb h0;omega) hfr2.size;have BG:w2.cell? ⟨g,1,none⟩=some (.slice (some ⟨gc,0,none⟩) q cap):=wP.b.cell 1;refine hK.out _ _ BG (fun dK=>?_);clear hK K bT;have afJ:=wP.qW i;have afK:=wP.cellAt hi;have hown:w2.ownsRow B 2 1 (.slice A2 (1+1) c2) (jD k L).length (ints (jD k L)):=by
    have h9:=eU ho2 yA;have h8:(jD k L).length=1+1:=by have:=kP.o;rw[qN.o,List.length_append];omega
    rw[h8,qN.o,aL];rw[Nat.mul_one,eV (L.take 1) 1 kP.o.2]at h9;exact h9
   have HM:=qh (wP.IY hi hown fun bb hb=>Decidable.byContradiction fun hne=>by have h1:=(ho2.lt bb hb).1;have h2:=HS2.o.lt bb hne;omega);have lP:Hq (Below B w2 (w2.setCell ⟨gc,i,none⟩ (.slice A2 (1+1) c2))):=qh ((Below.refl B w2).setCell (p:=⟨gc,i,none⟩) (wP.c.lt gc rfl).1 _);have iD:=qh ((HB2.o.trans ((((Below.refl wr.heap.size wr).drew.trans hb1).trans (hfr2.own ho1 hb1.size)).mono yA)).trans lP.o);clear wP hown ho1 ho2 hfr2 hb1 hnb;refine qt 13 dK ?_
   exact zP18x4
end
section
variable [Inhabited bQ]{B g q:Nat}{E:List Int}{C:Nat→List Int}{w:World}
theorem QX (i:Nat)(k:Int)(L:List Int)(H:dO 129 mkS B g q E C w)(hB:B≤w.heap.size)(hE:E.length≤500000)(hi:i<q)(hC:mY C q)(HL:Hq (C i=L))(hl:L.length=4)(hs:aQ L≤100)(s:Int)(hs1:s=1∨s= -1)(h0:jI k=s):
 Calls Tryz.prog 79 #[.pointer (some ⟨g,0,none⟩),.int .i64 i,.int .i64 k] w (zG 129 mkS B g q (E++lB (bC C i) k L) (eW C i (jD k L)) w):=by
 have HS:=qh h0;have jR:=qh hs1;have hbef:=hC.dX (show i≤q by omega);have HC:=qh hC;have l5:=qh (show mR L by rw[←HL.o];exact hC.2 i hi);obtain⟨P0,qA⟩:=qx (bC C i);rw[←qA]at hbef;have rC:=qh qA;obtain⟨tg,ev,cl,n,U,H⟩:=H;obtain⟨gc,cap,rfl⟩:=H.form qo;have hL1:0<(C i).length:=by rw[HL.o];omega
 obtain⟨gi,ci,hU,hci,hgi,PF,WY,hcl,hfr⟩:=H.oK hi hL1;have m1:w.cell? ⟨g,1,none⟩=some (.slice (some ⟨gc,0,none⟩) q cap):=H.b.cell 1;have m2:=H.cellAt hi;rw[hU,HL.o,hl]at m2;rw[HL.o,hl]at hci hcl;have hne:¬ci=2:=qo;have Rc:(2:Int)≤(ci:Int):=qo;have b1:(0:Int)≤(i:Int):=qo;have b2:(i:Int)<(q:Int):=qo;have GZ:s≠0:=by rcases hs1 with rfl|rfl<;>decide
 have hsb:(s==0)=false:=by simpa using GZ
 obtain⟨a,ha⟩:∃a,a=(aQ (L.take 2)).toNat:=⟨_,rfl⟩;obtain⟨b,hb⟩:∃b,b=(aQ (L.drop 2)).toNat:=⟨_,rfl⟩;have hsum:aQ L=aQ (L.take 2)+aQ (L.drop 2):=by rw[←mU,List.take_append_drop]
 have EN:=(l5.o.take 2).sum;have htb:=(l5.o.drop 2).sum;have ha2:aQ (L.take 2)=(a:Int):=qo;have hb2:aQ (L.drop 2)=(b:Int):=qo;have hab:a≤100∧b≤100:=qo;have hq1:Calls Tryz.prog 82 #[.pointer (some ⟨g,0,none⟩),.int .i64 i] w.drew fun e w'=>e=.returned (.int .i64 P0)∧w.drew=w':=(qX i H.drew qo HC.o).mono fun _ _ h=>⟨by rw[h.1,rC.o],h.2⟩;have hq2:Calls Tryz.prog 130 #[.slice (some ⟨gi,0,none⟩) 2 ci] w.drew fun e w'=>e=.returned (.int .i64 a)∧w.drew=w':=(oN (some ⟨gi,0,none⟩) 2 ci (L.take 2) w.drew (by simp;omega) (fun _=>⟨gi,0,rfl,hgi,fun j hj=>by
  have:=hcl j qo;rw[Nat.zero_add]
  simp only[List.getD,List.getElem?_take,if_pos hj]
  exact this⟩) (l5.o.take 2)).mono fun _ _ h=>⟨by rw[h.1,ha2],h.2⟩
 have hq3:Calls Tryz.prog 130 #[.slice (some ⟨gi,2,none⟩) 2 (ci-2)] w.drew fun e w'=>e=.returned (.int .i64 b)∧w.drew=w':=(oN (some ⟨gi,2,none⟩) 2 (ci-2) (L.drop 2) w.drew (by simp;omega) (fun _=>⟨gi,2,rfl,hgi,fun j hj=>by
  have:=hcl (2+j) qo
  simp only[List.getD,List.getElem?_drop]
  exact this⟩) (l5.o.drop 2)).mono fun _ _ h=>⟨by rw[h.1,hb2],h.2⟩
 have CA:=qh hq1;have pN:=qh hq2;have Z4:=qh hq3;have HH:=qh H;have HU:=qh hU;have hL2:L.length/2=2:=qo;have HE:=qh (show lB P0 k L=bL s (bY P0 a b)by rw[lB,if_neg (by rw[h0];exact GZ),hL2,h0,ha,hb]);have qN:=qh (show jD k L=L.drop 2++L.take 2 by rw[jD,if_neg (by rw[h0];exact GZ),hL2]);have kP:=qh (show(L.drop 2).length=2∧(L.take 2).length=2 by simp[hl]);clear hL2;clear hq1 hq2 hq3 H h0 hs1 qA hC ha hb hsum EN htb ha2 hb2 hU WY hcl hfr hs GZ hl
 go_enter Tryz.func79,Tryz.ntmps79
 go_wp2_with fail
 refine(DV k _).mono ?_;rintro e w' ⟨rfl,rfl⟩;rw[HS.o]
 go_wp2_with fail
 go_region_held3 (fun _=>True) (trivial) (first
  |(go_at_call 82;refine CA.o.mono ?_;rintro e w' ⟨rfl,rfl⟩)
  |(go_at_call_of 130 (Value.slice (some ⟨gi,0,none⟩) 2 ci);refine pN.o.mono ?_;rintro e w' ⟨rfl,rfl⟩)
  |(go_at_call 130;refine Z4.o.mono ?_;rintro e w' ⟨rfl,rfl⟩)
  |(go_at_call 129;refine(LZ P0 a b s _ hbef qo qo jR.o).mono ?_;rintro e w4 ⟨A4,c4,rfl,hc4,oF⟩))
 have jF:=qh oF;have Ux:=qh hab;have XK:b*a≤10000:=Nat.le_trans (Nat.mul_le_mul hab.2 hab.1) qo;have hlen:(bY P0 a b).length=b*a:=qS P0 a b;obtain⟨N,hN⟩:=qx (b*a);rw[←hN]at jF XK hlen hc4 ⊢;have tC:=qh hN;clear oF hN;obtain⟨i0,hi0,iz,is,ib⟩:=info_parts dQ;have afw:w.heap.size≤w4.heap.size:=jF.o.bl.size;have F1:=qh hlen;clear hlen
 go_wp2_with fail
 go_loopw [10] (fun x wr=>∃(k:Nat) (tg:Nat→Nat) (ev:Value) (n:Nat),k≤N∧x=.int .i64 k∧Hq (aZ 129 mkS B g tg ev (.slice (some ⟨gc,0,none⟩) q cap) n q (E++bL s ((bY P0 a b).take k)) U C wr)∧Hq (Rd wr A4 N (fun j=>.int .i64 ((gV s (bY P0 a b)).getD j 0)))∧Hq (∀bb,Fb A4 N bb→tg bb=0∧bb<wr.heap.size)∧Hq (Below B w wr)) (fun x _=>N-(intOf x).toNat)
 case atStart=>exact⟨0,tg,ev,n,Nat.zero_le _,rfl,qh (by simp only[List.take_zero,bL,List.append_nil];exact HH.o.drew.below jF.o.bl),qh jF.o.rd,qh (fun bb ⟨_,ad,e,hb⟩=>⟨Decidable.byContradiction fun hne=>by have h1:=HH.o.lt bb hne;have h2:=jF.o.ab ad e;have h3:w.drew.heap.size=w.heap.size:=rfl;omega,hb▸jF.o.bb ad e⟩),qh (((Below.refl B w).drew).trans (jF.o.bl.mono hB))⟩
 case round=>
  obtain⟨k2,xM,ev2,n2,hk2,rfl,HS2,HR2,dB,HB2⟩:=hrel
  by_cases hlt:k2<N
  ·obtain⟨g4,o4,rfl,hg4,hr4⟩:=HR2.o qo
   exact zP18x0
  ·obtain rfl:N=k2:=qo
   obtain⟨gi2,ci2,Ke,Dv,NN,afO,Qp,NO,hfr2⟩:=HS2.o.oK hi hL1;rw[HU.o,HL.o]at Ke;injection Ke with e1 e2 e3;injection e1 with e1;injection e1 with e1;subst e1 e3;rw[HL.o]at NO;have n1:wr.cell? ⟨g,1,none⟩=some (.slice (some ⟨gc,0,none⟩) q cap):=HS2.o.b.cell 1;have vT:=qh NO;have yA:B≤wr.heap.size:=Nat.le_trans hB HB2.o.size;have afI:=HS2.o.qW i;have vY:=qh (show(bY P0 a b).take N=bY P0 a b by rw[←F1.o,List.take_length]);clear Dv Qp NO hfr2 m1 m2;obtain⟨j0,hj0,jz,js,jb⟩:=info_parts info64
   go_wp2_with fail
   refine aY (S:=fun w'=>w'.cell? ⟨g,1,none⟩=some (.slice (some ⟨gc,0,none⟩) q cap)) _ qj qk qk n1 (fun hHeld=>?_)
   simp only[List.dropLast,List.getLast_cons_cons,List.getLast_singleton,List.length_cons,List.length_nil]
   refine qt 0 hHeld ?_;refine qt 1 hHeld ?_;refine qt 2 hHeld ?_;refine qt 3 hHeld ?_;refine qt 4 hHeld ?_;refine qt 5 hHeld ?_;refine qt 6 hHeld ?_;refine qt 7 hHeld ?_;refine qt 9 hHeld ?_;refine qt 10 hHeld ?_;refine qt 11 hHeld ?_
   simp only[List.getElem_toArray,List.getElem_cons_succ,List.getElem_cons_zero,Act.put,List.setIfInBounds_toArray,List.set_cons_zero,List.set_cons_succ]
   refine wpAnyH_ready (rs:=[8]) qk qj ?_;refine AllReadyH.cons rfl (fun K hK=>?_) AllReadyH.nil
   simp only[List.getElem_toArray,List.getElem_cons_succ,List.getElem_cons_zero]
   go_simp
   have ho1:=M3 (some ⟨gi,2,none⟩) (ci-2) (L.drop 2) wr.drew (fun _=>⟨gi,2,rfl,NN,fun j hj=>by
    have hj2:=kP.o;have h9:=vT.o (2+j) (by have h8:=List.length_drop (i:=2) (l:=L);omega)
    simp only[List.getD,List.getElem?_drop]
    exact h9⟩) (by have:=kP.o;omega)
   rw[kP.o.1]at ho1;refine ho1.mono ?_;clear ho1;rintro e w1 ⟨v1,rfl,ho1,hb1⟩;have k1:w1.cell? ⟨g,1,none⟩=some (.slice (some ⟨gc,0,none⟩) q cap):=(HS2.o.drew.below hb1).b.cell 1;refine hK.out _ _ k1 (fun bT=>?_);clear hK K hHeld;refine wpAnyH_ready (rs:=[12]) qk qj ?_;refine AllReadyH.cons rfl (fun K hK=>?_) AllReadyH.nil
   simp only[List.getElem_toArray,List.getElem_cons_succ,List.getElem_cons_zero]
   obtain⟨A1,c1,rfl⟩:=aE ho1;refine OG w1 (by rfl) (.tmp 69) (.tmp 72) _ (by rfl) wr.heap.size 2 j0 _ 1 8 Tryz.underlying61 hj0 jz js jb rfl qo (.slice A1 2 c1) 2 (ints (L.drop 2)) (by rfl) ho1 (some ⟨gi,0,none⟩) 2 ci (fun j=>.int .i64 ((L.take 2).getD j 0)) (by rfl) (fun _=>⟨gi,0,rfl,Nat.lt_of_lt_of_le NN hb1.size,fun j hj=>by
    have h9:=aM hb1 (g:=gi) NN (vT.o j (by have h8:=List.length_take (i:=2) (l:=L);have:=kP.o;omega));rw[Nat.zero_add]
    simp only[List.getD,List.getElem?_take,if_pos (show j<2 by omega)]
    exact h9⟩) (fun j=>rfl) qm qo hb1.size ?_
   intro v2 w2 ho2 hfr2;obtain⟨A2,c2,rfl⟩:=aE ho2;have hnb:∀bb,(Value.slice A1 2 c1).ownBlock=some bb→wr.heap.size≤bb:=fun bb hb=>(ho1.lt bb hb).1;have wP:aZ 129 mkS B g xM ev2 (.slice (some ⟨gc,0,none⟩) q cap) n2 q (E++bL s ((bY P0 a b).take N)) U C w2:=(HS2.o.drew.below hb1).same (fun bb h0=>hfr2.block bb ((HS2.o.drew.below hb1).lt bb h0) fun e=>by have:=hnb bb e;have:=HS2.o.lt bb h0;omega) hfr2.size;have BG:w2.cell? ⟨g,1,none⟩=some (.slice (some ⟨gc,0,none⟩) q cap):=wP.b.cell 1;refine hK.out _ _ BG (fun dK=>?_);clear hK K bT;have afJ:=wP.qW i;have afK:=wP.cellAt hi;have hown:w2.ownsRow B 2 1 (.slice A2 (2+2) c2) (jD k L).length (ints (jD k L)):=by
    have h9:=eU ho2 yA;have h8:(jD k L).length=2+2:=by have:=kP.o;rw[qN.o,List.length_append];omega
    rw[h8,qN.o,aL];rw[Nat.mul_one,eV (L.take 2) 2 kP.o.2]at h9;exact h9
   have HM:=qh (wP.IY hi hown fun bb hb=>Decidable.byContradiction fun hne=>by have h1:=(ho2.lt bb hb).1;have h2:=HS2.o.lt bb hne;omega);have lP:Hq (Below B w2 (w2.setCell ⟨gc,i,none⟩ (.slice A2 (2+2) c2))):=qh ((Below.refl B w2).setCell (p:=⟨gc,i,none⟩) (wP.c.lt gc rfl).1 _);have iD:=qh ((HB2.o.trans ((((Below.refl wr.heap.size wr).drew.trans hb1).trans (hfr2.own ho1 hb1.size)).mono yA)).trans lP.o);clear wP hown ho1 ho2 hfr2 hb1 hnb;refine qt 13 dK ?_
   exact zP18x4
end
structure yX (B:Nat)(z:Nat→Int)(v:Value)(t:Nat)(As:Nat→OA)(cs:Nat→Nat)(w:World):Prop where
 own:w.ownsRow B 61 1 v t ((List.range t).map fun j=>.slice (As j) (bN (z j)) (cs j))
 rd:∀j,j<t→Rd w (As j) (bN (z j)) (fun x=>.int .i64 ((aF z j:Int)+x))
 far:∀j,j<t→∀b,Fb (As j) (bN (z j)) b→B≤b∧b<w.heap.size∧¬v.ownBlock=some b
theorem yX.below {B:Nat}{z:Nat→Int}{v:Value}{t:Nat}{As:Nat→Option Addr}{cs:Nat→Nat}{w w':World}(h:yX B z v t As cs w)(hb:Below w.heap.size w w'):yX B z v t As cs w':=
 ⟨own_below h.own hb,fun j hj=>(h.rd j hj).below hb,fun j hj b hF=>⟨(h.far j hj b hF).1,Nat.lt_of_lt_of_le (h.far j hj b hF).2.1 hb.size,(h.far j hj b hF).2.2⟩⟩
def afQ (z:Nat→Int)(m:Nat)(w:World)(e:Ending)(w':World):Prop:=∃v As cs,e=.returned v∧yX w.heap.size z v m As cs w'∧Below w.heap.size w w'
theorem RE (gr o:Nat)(d c:Int)(A:OA)(m qq:Nat)(z:Nat→Int)(w:World)(HR:Hq (iM w gr o d c A m qq))(hz:Rd w A m (fun j=>.int .i64 (z j)))(hm:m≤16)(hk:∀j,j<m→1≤z j∧z j≤11):
 Calls Tryz.prog 78 #[.pointer (some ⟨gr,o,none⟩)] w (afQ z m w):=by
 obtain⟨i0,hi,iz,is,ib⟩:=info_parts BI;have HZ:=qh hz;have HK:=qh hk;have hgw:=World.block_lt_of_cell? w _ HR.o.c0
 simp only at hgw
 clear hz hk
 go_enter Tryz.func78,Tryz.ntmps78
 go_wp2
 go_loopg [3,4,5] m (fun q v a i wr=>∃(t:Nat) (As:Nat→OA) (cs:Nat→Nat),t≤m∧q+t=m∧i=.int .i64 t∧a=.int .i64 (aF z t)∧yX w.heap.size z v t As cs wr∧Below w.heap.size w wr)
 case atStart=>exact⟨0,fun _=>none,fun _=>0,Nat.zero_le _,rfl,rfl,rfl,⟨World.ownsRow_made _ #[] 0 ql qm rfl,fun j hj=>by omega,fun j hj=>by omega⟩,qb⟩
 case round=>
  obtain⟨t,As,cs,ht,hq,rfl,rfl,hsrc,hbl⟩:=hrel;have HB:=qh hbl;have zh:=qh hsrc;clear hbl hsrc;have r2:=aM HB.o hgw HR.o.c2;have Kg:=nO z t
  by_cases hlt:t<m
  ·obtain⟨gz,oz,rfl,hgz,hrz⟩:=HZ.o qo
   have cz:=aM HB.o hgz (hrz t hlt);have fX:=HK.o t hlt;have HT2:=qh (show aF z (t+1)=aF z t+bN (z t)from rfl);have htk:=kW (z t);obtain⟨y,hy⟩:=qx (z t);obtain⟨P,hP⟩:=qx (aF z t)
   simp only[←hy,←hP]at cz fX HT2 htk Kg ⊢
   have HY:=qh hy;have HP:=qh hP;clear hrz hy hP
   go_wp2_with fail
   with_reducible refine(cE y _ fX).mono ?_
   rintro e w2 ⟨rfl,hb2⟩;have HB2:=HB.st hb2;have HS2:=qh (zh.o.below hb2);clear hb2 cz r2
   go_wp2_with fail
   refine(WB P (bN y) _ qo qo).mono ?_;rintro e w3 ⟨A3,c3,rfl,hc3,sX⟩;have zI:=qh (HS2.o.below sX.bl);have HB3:=qh (HB2.o.trans (sX.bl.mono HB2.o.size));have jG:=qh sX;clear sX
   go_wp2_with (at_builtin;go_must (refine d5 w3 rfl (.tmp 25) (.tmp 29) _ rfl w.heap.size 61 i0 _ 1 24 Tryz.underlying89 hi iz is ib rfl qo u3 t _ rfl zI.o.own _ 1 1 _ rfl rfl (by simp[Value.oneCell']) qm qo HB3.o.size ?_);intro v' w' hown' hf' hat';have HOWN':=qh hown';have eR:=qh hf';have jB:=qh hat';clear hown' hf' hat')
   have hNb:∀b,Fb A3 (bN y) b→w2.heap.size≤b∧b<w3.heap.size:=fun b ⟨_,a,e,hb⟩=>⟨hb▸jG.o.ab a e,hb▸jG.o.bb a e⟩;have hub:∀b,u3.ownBlock=some b→b<w2.heap.size:=fun b hb=>(HS2.o.own.lt b hb).2;have hvb:∀b,b<w3.heap.size→¬u3.ownBlock=some b→¬v'.ownBlock=some b:=fun b h1 h2 h3=>by
    rcases jB.o with h|h
    ·exact h2 (h.symm.trans h3)
    ·rw[h]at h3
     injection h3 with h3;omega
   have hz3:=eR.o.size;have hz2:=HB2.o.size;have tA:=qh (show yX w.heap.size z v' (t+1) (fun j=>if j=t then A3 else As j) (fun j=>if j=t then c3 else cs j) w' from by
    refine⟨?_,fun j hj=>?_,fun j hj b hF=>?_⟩
    ·have h1:(List.range (t+1)).map (fun j=>Value.slice (if j=t then A3 else As j) (bN (z j)) (if j=t then c3 else cs j))=(List.range t).map (fun j=>Value.slice (As j) (bN (z j)) (cs j))++[.slice A3 (bN y) c3]:=by
      rw[List.range_succ,List.map_append]
      congr 1
      ·exact List.map_congr_left fun j hj=>by have:=List.mem_range.1 hj;rw[if_neg qo,if_neg qo]
      ·simp[←HY.o]
     rw[h1];exact HOWN'.o
    ·by_cases hjt:j=t
     ·subst hjt
      rw[if_pos rfl,←HY.o,←HP.o];exact(aS _ _ _).fr jG.o.rd eR.o fun b hb he=>by have:=hNb b hb;have:=hub b he;omega
     ·rw[if_neg hjt]
      exact(aS _ _ _).fr (zI.o.rd j qo) eR.o fun b hb he=>(zI.o.far j qo b hb).2.2 he
    ·by_cases hjt:j=t
     ·subst hjt
      rw[if_pos rfl,←HY.o]at hF;have h1:=hNb b hF;exact⟨by omega,by omega,hvb b h1.2 fun he=>by have:=hub b he;omega⟩
     ·rw[if_neg hjt]at hF
      have h1:=zI.o.far j qo b hF;exact⟨h1.1,by omega,hvb b h1.2.1 h1.2.2⟩)
   have FE:=qh (HB3.o.trans (eR.o.own zI.o.own HB3.o.size));clear hNb hub hvb hz3 hz2 hc3
   go_wp2
   go_roundg (m-(t+1))
   case measure=>omega
   case rel=>exact⟨t+1,_,_,by omega,by omega,qg,jM (by rw[HT2.o];omega),tA.o,FE.o⟩
  ·obtain rfl:m=t:=qo
   go_wp2
   go_ret
   exact⟨_,As,cs,rfl,zh.o,HB.o⟩
theorem dO.congr [Inhabited bQ]{T:TypeId}{mk:Value→Value→Array Value}{B g q:Nat}{E:List Int}{C D:Nat→List Int}{w:World}(h:dO T mk B g q E C w)(hc:∀i,i<q→C i=D i):dO T mk B g q E D w:=by
 obtain⟨tg,ev,cl,n,U,H⟩:=h;exact⟨tg,ev,cl,n,U,⟨H.b,H.e,H.c,fun i hi=>by rw[←hc i hi];exact H.u i hi,H.tb,H.te,H.tc,H.lt,H.lo,H.k,H.kf⟩⟩
structure iR (s z:Nat→Int)(n m:Nat):Prop where
 hz:∀j,j<m→1≤z j∧z j≤11
 hs:∀j,j<n→1≤s j∧s j≤4
 m8:m≤8
 n8:n≤8
 t:aF z m=n
theorem iR.of {s z:Nat→Int}{n m:Nat}(h:jK s n z m=0):iR s z n m:=by
 obtain⟨h1,h2,h3,h4,_⟩:=AZ h;have hz:=(fN h2).2;refine⟨hz,(kT h1).2,?_,(kT h1).1,h3⟩;have:∀i,i≤m→i≤bH z i:=by
  intro i hi
  induction i with
  |zero=>omega
  |succ i ih=>
   have h1:=ih qo;have h0:=hz i qo;have h2:1≤dU (z i):=by
    unfold dU
    repeat' split
    all_goals omega
   simp only[bH]
   omega
 have:=this m ql;omega
section
variable {s z:Nat→Int}{n m:Nat}
theorem iR.seg (h:iR s z n m){i:Nat}(hi:i<m):(∀x∈seg s z i,1≤x∧x≤4)∧(seg s z i).length≤4:=by
 refine⟨fun x hx=>?_,by rw[seg_length];exact kW _⟩;unfold Go.Proofs.YtimlpmbabbbcaaaGreat.seg at hx;obtain⟨t,ht,rfl⟩:=List.mem_map.1 hx;have h1:=List.mem_range.1 ht;have h2:=gU z (show i+1≤m by omega);have h3:=h.t
 simp only[aF]at h2
 exact h.hs _ qo
theorem iR.fY (h:iR s z n m){i:Nat}(hi:i<m):(∀x∈fY s z i,1≤x∧x≤4)∧(fY s z i).length≤4:=⟨fun x hx=>(h.seg hi).1 x (xk hx),by rw[xJ];exact kW _⟩
theorem Ea {k:Int}{L:List Int}(h:(∀x∈L,1≤x∧x≤4)∧L.length≤4):(∀x∈iE k L,1≤x∧x≤5)∧(iE k L).length≤4:=by
 have h0:∀x∈L,1≤x∧x≤5:=fun x hx=>by have:=h.1 x hx;omega
 have h1:1≤L.getD 0 0+1∧L.getD 0 0+1≤5:=by
  cases L with
  |nil=>simp
  |cons x L=>have:=h.1 x List.mem_cons_self;simp;omega
 have h2:=h.2;unfold iE
 repeat' split
 ·exact⟨fun x hx=>by have:=List.mem_singleton.1 hx;omega,by simp⟩
 ·refine⟨fun x hx=>?_,by simpa using h2⟩
  rcases List.mem_or_eq_of_mem_set hx with hx|rfl
  ·exact h0 x hx
  ·exact h1
 ·exact⟨h0,h2⟩
 ·exact⟨fun x hx=>by have:=(List.mem_replicate.1 hx).2;omega,by simpa using h2⟩
theorem iR.dW (h:iR s z n m){d:Int}{t i:Nat}(hi:i<m):(∀x∈dW s z d m t i,1≤x∧x≤5)∧(dW s z d m t i).length≤4:=by
 unfold Go.Proofs.YtimlpmbabbbcaaaGreat.dW
 split
 ·exact Ea (h.fY hi)
 ·exact⟨fun x hx=>by have:=(h.fY hi).1 x hx;omega,(h.fY hi).2⟩
theorem jW {L:List Int}(h:(∀x∈L,1≤x∧x≤5)∧L.length≤4):mR L∧0≤aQ L∧aQ L≤20:=by
 have h1:=LL (l:=L) (b:=5) fun x hx=>by have:=h.1 x hx;omega
 have h2:=h.2;exact⟨⟨by omega,fun x hx=>by have:=h.1 x hx;omega⟩,by omega,by omega⟩
theorem mg {L:List Int}(h:(∀x∈L,1≤x∧x≤4)∧L.length≤4):(∀x∈L,1≤x∧x≤5)∧L.length≤4:=⟨fun x hx=>by have:=h.1 x hx;omega,h.2⟩
theorem jv {p k:Int}{L:List Int}(h:(∀x∈L,1≤x∧x≤4)∧L.length≤4):(lB p k L).length≤2400:=by
 unfold lB
 split
 ·simp
 ·rw[yW,qS]
  have h1:=(jW (L:=L.take (L.length/2)) ⟨fun x hx=>by have:=h.1 x (List.mem_of_mem_take hx);omega,by have:=h.2;simp;omega⟩).2;have h2:=(jW (L:=L.drop (L.length/2)) ⟨fun x hx=>by have:=h.1 x (List.mem_of_mem_drop hx);omega,by have:=h.2;simp;omega⟩).2;have h3:(aQ (L.drop (L.length/2))).toNat*(aQ (L.take (L.length/2))).toNat≤20*20:=Nat.mul_le_mul qo qo;omega
theorem iR.yD (h:iR s z n m){i:Nat}(hi:i≤m):(yD s z i).length≤2400*i:=by
 induction i with
 |zero=>simp[Go.Proofs.YtimlpmbabbbcaaaGreat.yD]
 |succ i ih=>
  have h1:=ih qo;have h2:=jv (p:=bC (Go.Proofs.YtimlpmbabbbcaaaGreat.seg s z) i) (k:=z i) (h.seg (show i<m by omega))
  simp only[Go.Proofs.YtimlpmbabbbcaaaGreat.yD,List.length_append]
  omega
theorem iR.tO (h:iR s z n m){c d:Int}{t:Nat}(ht:t≤m):(tO s z c d m t).length≤2400*m+30*t:=by
 induction t with
 |zero=>exact h.yD ql
 |succ t ih=>
  have h1:=ih qo;have h2:=(Br (p:=bC (Go.Proofs.YtimlpmbabbbcaaaGreat.dW s z d m t) (fC d m t)) (c:=c) (d:=d) (k:=z (fC d m t)) (L:=Go.Proofs.YtimlpmbabbbcaaaGreat.fY s z (fC d m t))).1;have h3:=(h.fY (AE (d:=d) (show t<m by omega))).2
  simp only[Go.Proofs.YtimlpmbabbbcaaaGreat.tO,List.length_append]
  omega
def rI (s z:Nat→Int)(i j:Nat):List Int:=if j<i then fY s z j else seg s z j
theorem Ma (s z:Nat→Int):rI s z 0=seg s z:=funext fun j=>if_neg (Nat.not_lt_zero j)
theorem Zo (s z:Nat→Int)(i:Nat):rI s z i i=seg s z i:=if_neg (Nat.lt_irrefl i)
theorem Sg (s z:Nat→Int){i q:Nat}:bC (rI s z i) q=bC (seg s z) q:=by
 induction q with
 |zero=>rfl
 |succ q ih=>
  simp only[bC,ih]
  congr 1
  unfold rI
  split
  ·exact NU q
  ·rfl
theorem Mc (s z:Nat→Int)(i:Nat):eW (rI s z i) i (jD (z i) (seg s z i))=rI s z (i+1):=by
 funext j
 unfold eW rI
 by_cases h:j=i
 ·subst h
  rw[if_pos rfl,if_pos qo]
  rfl
 ·rw[if_neg h]
  by_cases h2:j<i
  ·rw[if_pos h2,if_pos qo]
  ·rw[if_neg h2,if_neg qo]
theorem iR.rI (h:iR s z n m){i j:Nat}(hj:j<m):(∀x∈rI s z i j,1≤x∧x≤4)∧(rI s z i j).length≤4:=by
 unfold Go.Proofs.YtimlpmbabbbcaaaGreat.rI
 split
 ·exact h.fY hj
 ·exact h.seg hj
end
section
variable [Inhabited bQ]{B g q:Nat}{E:List Int}{C:Nat→List Int}{w:World}
theorem U1 (i:Nat)(k:Int)(L:List Int)(H:dO 129 mkS B g q E C w)(hB:B≤w.heap.size)(hE:E.length≤500000)(hi:i<q)(hC:mY C q)(HL:Hq (C i=L))(hl:L.length=bN k)(hs:aQ L≤100)(hk:1≤k∧k≤11):
 Calls Tryz.prog 79 #[.pointer (some ⟨g,0,none⟩),.int .i64 i,.int .i64 k] w (zG 129 mkS B g q (E++lB (bC C i) k L) (eW C i (jD k L)) w):=by
 by_cases h0:jI k=0
 ·exact QZ i k L H HL h0
 have hs1:=(bf k).resolve_left h0;have hk2:bN k=2∨bN k=4:=by
  have h1:k=8∨k=10∨k=9∨k=11∨k=5:=Decidable.byContradiction fun hn=>h0 (by unfold jI;rw[if_neg qo,if_neg qo])
  rcases h1 with rfl|rfl|rfl|rfl|rfl
  all_goals decide
 rcases hk2 with h2|h2
 ·exact QY i k L H hB hE hi hC HL qo hs _ hs1 rfl
 ·exact QX i k L H hB hE hi hC HL qo hs _ hs1 rfl
end
def af2 (E L:List Int)(w:World)(e:Ending)(w':World):Prop:=∃ev af n,e=.returned (.tuple #[ev,af,.bool true])∧w'.ownsRow w.heap.size 116 6 ev n (ints E)∧w'.ownsRow w.heap.size 2 1 af L.length (ints L)∧Below w.heap.size w w'
theorem Ri (w:World)(B:Nat)(hB:B≤w.heap.size)(T:TypeId):@aZ kX T mkS B (w.heap.size+1) (fun b=>if b=w.heap.size+1 then 1 else if b=w.heap.size then 2 else 0) (.slice (some ⟨w.heap.size,0,none⟩) 0 0) (.slice none 0 0) 0 0 [] (fun _=>undef) (fun _=>[]) ((w.alloc (.cells #[] 116)).alloc (.cells #[.slice (some ⟨w.heap.size,0,none⟩) 0 0,.slice none 0 0] T)) where
 b:=aG.at_ _ _ _ qj
 e:=own_below (World.ownsRow_made w #[] 0 hB qm rfl) (qb)
 c:=World.ownsRow_nil _ _ _ _
 u:=fun i hi=>by omega
 tb:=if_pos rfl
 te:=fun b hb=>by injection hb with hb;subst hb;show(if w.heap.size=w.heap.size+1 then 1 else if w.heap.size=w.heap.size then 2 else 0)=2;rw[if_neg qo,if_pos rfl]
 tc:=fun b hb=>by cases hb
 lt:=fun b hb=>by
  simp only[World.size_alloc]
  by_cases h1:b=w.heap.size+1
  ·omega
  ·by_cases h2:b=w.heap.size
   ·omega
   ·rw[if_neg h1,if_neg h2]at hb
    exact absurd rfl hb
 lo:=qo
 k:=trivial
 kf:=fun b hb=>hb.elim
theorem yX.keep {B:Nat}{z:Nat→Int}{v:Value}{t:Nat}{As:Nat→Option Addr}{cs:Nat→Nat}{w w':World}(h:yX B z v t As cs w)(hz:w.heap.size≤w'.heap.size)(hk:∀b,(v.ownBlock=some b∨∃j,j<t∧Fb (As j) (bN (z j)) b)→w'.heap[b]?=w.heap[b]?):yX B z v t As cs w':=
 ⟨dZ h.own fun b hb=>hk b (.inl hb),fun j hj=>(aS _ _ _).1 _ _ (h.rd j hj) fun b hb=>hk b (.inr ⟨j,hj,hb⟩),fun j hj b hF=>⟨(h.far j hj b hF).1,Nat.lt_of_lt_of_le (h.far j hj b hF).2.1 hz,(h.far j hj b hF).2.2⟩⟩
theorem Cm (gr o:Nat)(d c:Int)(A:OA)(m qq:Nat)(z s:Nat→Int)(As:OA)(n cs:Nat)(w:World)(HR:Hq (iM w gr o d c A m qq))(hz:Rd w A m (fun j=>.int .i64 (z j)))(hs:Rd w As n (fun j=>.int .i64 (s j)))(hgr:gr<w.heap.size)(hd:gQ d=true)(hf:iR s z n m)(hk:iT s n z m d m=true):
 Calls Tryz.prog 49 #[.pointer (some ⟨gr,o,none⟩),.slice As n cs] w (af2 (tO s z c d m m) (gT s z m) w):=by
 obtain⟨i0,hi0,iz,is,ib⟩:=info_parts info64;obtain⟨j0,hj0,jz,js,jb⟩:=info_parts BI;have hm8:=hf.m8;have BK:=hf.n8;have hkk:=hf.hz;have HF:=qh hf;have HK:=qh hk;have HZ:=qh hz;have HS:=qh hs;have HD:=qh hd;have HH0:=qh (Ri w w.heap.size ql 129);have HB0:=qh (((Below.refl w.heap.size w).alloc ql (.cells #[] 116)).alloc qj (.cells #[.slice (some ⟨w.heap.size,0,none⟩) 0 0,.slice none 0 0] 129));have HKK:=qh hkk;clear hz hs hd hf hk hkk
 go_enter Tryz.func49,Tryz.ntmps49
 go_wp2_with fail
 refine(RE gr o d c A m qq z _ (qh (HR.o.Me HB0.o hgr)) (HZ.o.below HB0.o) qo HKK.o).mono ?_;rintro e w1 ⟨v,Ac,cc,rfl,hsrc,hb1⟩;have HH1:=qh (HH0.o.below hb1);have HB1:=qh (HB0.o.trans (hb1.mono (by simp;omega)));have zu:=qh (show w.heap.size+2≤w1.heap.size from by have:=hb1.size;simp only[World.size_alloc]at this;omega);have YV:Hq (yX (w.heap.size+2) z v m Ac cc w1):=qh (by have h:=hsrc;simp only[World.size_alloc]at h;exact h);obtain⟨Av,cv,rfl⟩:=aE hsrc.own;clear hsrc hb1
 go_wp2_with fail
 go_loopw [9] (fun x wr=>∃(t:Nat) (tg:Nat→Nat) (ev cl:Value) (nE:Nat) (U:Nat→Value),t≤m∧x=.int .i64 t∧Hq (aZ 129 mkS w.heap.size (w.heap.size+1) tg ev cl nE t [] U (seg s z) wr)∧Hq (yX (w.heap.size+2) z (.slice Av m cv) m Ac cc wr)∧Hq (∀b,((Value.slice Av m cv).ownBlock=some b∨∃j,j<m∧Fb (Ac j) (bN (z j)) b)→tg b=0)∧Hq (Below w.heap.size w wr)) (fun x _=>m-(intOf x).toNat)
 case atStart=>exact⟨0,_,_,_,0,_,Nat.zero_le _,rfl,qh (by
  have h:=HH1.o;exact⟨h.b,h.e,h.c,fun i hi=>by omega,h.tb,h.te,h.tc,h.lt,h.lo,h.k,h.kf⟩),YV,qh (fun b hb=>by
  have h1:w.heap.size+2≤b:=by
   rcases hb with hb|⟨j,hj,hb⟩
   ·exact(YV.o.own.lt b hb).1
   ·exact(YV.o.far j hj b hb).1
  show(if b=w.heap.size+1 then 1 else if b=w.heap.size then 2 else 0)=0;rw[if_neg qo,if_neg qo]),HB1⟩
 case round=>
  rename World=>wo
  obtain⟨t,tg,ev,cl,nE,U,ht,rfl,DN,HS2,HT2,HB2⟩:=hrel
  by_cases hlt:t<m
  ·obtain⟨gv,rfl,hgv⟩:∃gv,Av=some ⟨gv,0,none⟩∧gv<wo.heap.size:=by
    rcases HS2.o.own.2 with⟨_,h0⟩|⟨gv,cap,_,e,_,hc,_⟩
    ·omega
    ·injection e with e _ _
     exact⟨gv,e,(Array.getElem?_eq_some_iff.1 hc).1⟩
   have cS:wo.cell? ⟨gv,t,none⟩=some (.slice (Ac t) (bN (z t)) (cc t)):=by rw[HS2.o.own.cellAt t qo];simp[hlt]
   have zM:=qh cS;have HRS:=qh (HS2.o.rd t hlt);have TJ:=qh (HS.o.below HB2.o);have hsg:=HF.o.seg hlt;have xZ:aF z t+bN (z t)≤n:=by
    have h1:=gU z (show t+1≤m by omega);rw[HF.o.t]at h1;exact h1
   have htk:=kW (z t);obtain⟨T,hT⟩:=qx (bN (z t));obtain⟨P,hP⟩:=qx (aF z t);have yJ:=qh hT;have HPP:=qh hP;have agi:=qh (show seg s z t=(List.range T).map fun x=>s (P+x)by rw[hT,hP];rfl);rw[←hT]at HRS cS zM htk xZ;rw[←hP]at HRS xZ;have HW0:=qh ((Below.refl wo.heap.size wo).alloc ql (.cells #[] 2));have QB:=qh (World.ownsRow_made (e:=2) (size:=1) wo #[] 0 ql qm rfl);clear hT hP cS
   go_wp2_with fail
   go_loopw [10,11] (fun cu x wq=>∃k:Nat,k≤T∧x=.int .i64 k∧Hq (wq.ownsRow wo.heap.size 2 1 cu k (ints ((seg s z t).take k)))∧Hq (Below wo.heap.size wo wq)) (fun _ x _=>T-(intOf x).toNat)
   case atStart=>exact⟨0,Nat.zero_le _,rfl,qh (by simp only[List.take_zero];exact QB.o),HW0⟩
   case round=>
    obtain⟨k,hk,rfl,aI,HW2⟩:=hrel;have k1:=aM HW2.o hgv zM.o
    by_cases hkl:k<T
    ·obtain⟨ga,oa,hAc,hga,hra⟩:=HRS.o qo
     obtain⟨gs,os,hAs,hgs,hrs⟩:=TJ.o qo;rw[hAc]at k1;subst hAs;have k2:wr.cell? ⟨ga,oa+k,none⟩=some (.int .i64 ((P+k:Nat):Int)):=by
      have h:=aM HW2.o hga (hra k hkl);rw[h,Int.natCast_add]
     have k3:=aM HW2.o hgs (hrs (P+k) qo);obtain⟨y,hy⟩:=qx (s (P+k))
     simp only[←hy]at k3
     have HN:=qh (show(seg s z t).take (k+1)=(seg s z t).take k++[y]by
      rw[agi.o,List.take_succ_eq_append_getElem (by simp;omega)]
      simp[hy])
     have b1:(0:Int)≤(t:Int):=qo;have b2:(t:Int)<(m:Int):=qo;have b3:(0:Int)≤(k:Int):=qo;have b4:(k:Int)<(T:Int):=qo;have b5:(0:Int)≤((P+k:Nat):Int):=qo;have b6:((P+k:Nat):Int)<(n:Int):=qo;clear hy hra hrs
     go_wp2_with (at_builtin;go_must (refine bW wr rfl (.tmp 38) (.tmp 49) _ rfl wo.heap.size 2 i0 _ 1 8 Tryz.underlying61 hi0 iz is ib rfl qo u10 k _ rfl aI.o _ 1 1 _ rfl rfl (by simp[Value.oneCell']) qm qo HW2.o.size ?_);intro v' w' hown' hb';have cI:=qh hown';have HW3:=qh (HW2.o.trans hb');clear hown' hb')
     go_roundw
     case rel=>exact⟨k+1,by omega,qg,qh (by rw[HN.o,aL];exact cI.o),HW3⟩
     case measure=>exact qs
    ·obtain rfl:T=k:=qo
     obtain⟨Al,BX,rfl⟩:=aE DN.o.c;obtain⟨Aq,cq,rfl⟩:=aE aI.o;have IB:=qh (DN.o.below HW2.o);have V3:=qh (show(seg s z t).take T=seg s z t by rw[List.take_of_length_le];rw[seg_length,←yJ.o];exact Nat.le_refl _);have m1:wr.cell? ⟨w.heap.size+1,1,none⟩=some (.slice Al t BX):=IB.o.b.cell 1;have f1:wr.frozen? ⟨w.heap.size+1,1,none⟩=false:=IB.o.b.frozen 1;have hgn:¬(Value.slice Al t BX).ownBlock=some (w.heap.size+1):=fun e=>by have h1:=IB.o.tc _ e;have h2:=IB.o.tb;omega
     have TP:=qh hgn;have fD:=qh m1;have iC:=qh f1;have fJ:=qh (HB2.o.trans (HW2.o.mono HB2.o.size));have dM:=World.block_lt_of_cell? wr _ m1
     simp only at dM
     clear hgn f1
     go_wp2_with (at_builtin;go_must (refine d5 wr rfl (.tmp 55) (.tmp 57) _ rfl w.heap.size 61 j0 _ 1 24 Tryz.underlying89 hj0 jz js jb rfl qo (.slice Al t BX) t _ rfl IB.o.c _ 1 1 _ rfl rfl (by simp[Value.oneCell']) qm qo fJ.o.size ?_);intro v' w' hown' hf' hat';obtain⟨A9,c9,rfl⟩:=aE hown';have HOWN':=qh hown';have eR:=qh hf';have jB:=qh hat';have k9:=(hf'.cells dM TP.o 1).trans fD.o;have f9:=(World.frozen?_of_block (a:=⟨w.heap.size+1,1,none⟩) (hf'.block _ dM TP.o)).trans iC.o;clear hown' hf' hat')
     clear k9 f9 m1 dM
     go_roundw
     case rel=>
      have hz1:=IB.o.lt;have hu0:∀b,(Value.slice Aq T cq).ownBlock=some b→wo.heap.size≤b∧b<wr.heap.size:=fun b hb=>aI.o.lt b hb;have hl0:∀b,(Value.slice Al t BX).ownBlock=some b→b<wo.heap.size:=fun b hb=>(DN.o.c.lt b hb).2;have hown2:w'.ownsRow w.heap.size 2 1 (.slice Aq T cq) (seg s z t).length (ints (seg s z t)):=by
       have h1:=aI.o;rw[V3.o]at h1;have h2:(seg s z t).length=T:=by rw[seg_length,←yJ.o]
       rw[h2];exact eU (dZ h1 fun b hb=>eR.o.block b (hu0 b hb).2 fun e=>by have:=hl0 b e;have:=(hu0 b hb).1;omega) HB2.o.size
      obtain⟨eZ,H',hz'⟩:=IB.o.Pj (w':=w') (cl':=.slice A9 (t+1) c9) (u:=.slice Aq T cq) (L:=seg s z t) (o:=1) (fun b h0 h3=>eR.o.block b (hz1 b h0) fun e=>h3 (IB.o.tc b e)) eR.o.size HOWN'.o (fun b hb=>by
       rcases jB.o with h|h
       ·exact .inr (IB.o.tc b (h.symm.trans hb))
       ·refine .inl (Decidable.byContradiction fun hne=>?_)
        have h1:=hz1 b hne;rw[hb]at h;injection h with h;omega) (.inr ⟨hown2,fun b hb=>⟨Decidable.byContradiction fun hne=>by have h1:=DN.o.lt b hne;have h2:=(hu0 b hb).1;omega,fun e=>by
       have h2:=hu0 b hb
       rcases jB.o with h|h
       ·have:=hl0 b (h.symm.trans e)
        omega
       ·rw[e]at h
        injection h with h;omega⟩⟩) rfl
      have h1:(fun i=>if i=t then seg s z t else seg s z i)=seg s z:=by
       funext i
       by_cases h:i=t
       ·rw[if_pos h,h]
       ·rw[if_neg h]
      rw[h1]at H';have hsb:∀b,((Value.slice (some ⟨gv,0,none⟩) m cv).ownBlock=some b∨∃j,j<m∧Fb (Ac j) (bN (z j)) b)→b<wo.heap.size∧tg b=0:=fun b hb=>⟨by
       rcases hb with hb|⟨j,hj,hb⟩
       ·exact(HS2.o.own.lt b hb).2
       ·exact(HS2.o.far j hj b hb).2.1,HT2.o b hb⟩
      have hsz:=HW2.o.size;have hS':yX (w.heap.size+2) z (.slice (some ⟨gv,0,none⟩) m cv) m Ac cc (w'.setCell ⟨w.heap.size+1,1,none⟩ (.slice A9 (t+1) c9)):=HS2.o.keep (by rw[oE];exact Nat.le_trans hsz eR.o.size) fun b hb=>by
       obtain⟨hb1,hb2⟩:=hsb b hb;refine(kZ _ _ _ _ (fun e=>by have e2:b=w.heap.size+1:=e;have h3:=DN.o.tb;rw[←e2]at h3;omega)).trans ((eR.o.block b qo fun e=>?_).trans (HW2.o.block b hb1));have:=IB.o.tc b e;omega
      have hT':∀b,((Value.slice (some ⟨gv,0,none⟩) m cv).ownBlock=some b∨∃j,j<m∧Fb (Ac j) (bN (z j)) b)→eZ b=0:=fun b hb=>by
       obtain⟨hb1,hb2⟩:=hsb b hb;refine hz' b hb2 (fun e=>?_) (fun e=>by have:=(hu0 b e).1;omega)
       rcases jB.o with h|h
       ·have:=IB.o.tc b (h.symm.trans e)
        omega
       ·rw[e]at h
        injection h with h;omega
      exact⟨t+1,eZ,ev,_,nE,_,by omega,qg,qh H',qh hS',qh hT',qh (Below.setCell (p:=⟨w.heap.size+1,1,none⟩) (fJ.o.trans (eR.o.own IB.o.c fJ.o.size)) (Nat.le_succ _) _)⟩
     case measure=>exact qs
  ·obtain rfl:m=t:=qo
   have HMC:=qh (show dO 129 mkS w.heap.size (w.heap.size+1) m [] (rI s z 0) wo from⟨_,_,_,_,_,by rw[Ma];exact DN.o⟩);clear DN HS2 HT2
   go_wp2_with fail
   go_loopw [12] (fun x wr=>∃i:Nat,i≤m∧x=.int .i64 i∧Hq (dO 129 mkS w.heap.size (w.heap.size+1) m (yD s z i) (rI s z i) wr)∧Hq (Below w.heap.size w wr)) (fun x _=>m-(intOf x).toNat)
   case atStart=>exact⟨0,Nat.zero_le _,rfl,HMC,HB2⟩
   case round=>
    obtain⟨i,hi,rfl,iW,HB3⟩:=hrel;obtain⟨sQ,t7,YA,n3,U3,H3⟩:=iW.o;obtain⟨A3,c3,rfl⟩:=aE H3.c;have m1:wr.cell? ⟨w.heap.size+1,1,none⟩=some (.slice A3 m c3):=H3.b.cell 1
    by_cases hil:i<m
    ·obtain⟨gz,oz,hA,hgz,hrz⟩:=HZ.o qo
     have r2:=aM HB3.o hgr HR.o.c2;have cz:=aM HB3.o hgz (hrz i hil);rw[hA]at r2;have fX:=HKK.o i hil;have hsm:=jW (mg (HF.o.seg hil));have l5:=qh hsm;have FB:=qh (Zo s z i);have tB:Hq (mY (rI s z i) m):=qh ⟨by omega,fun j hj=>(jW (mg (HF.o.rI hj))).1⟩;have hbl:=HF.o.yD hi;have cB:=qh (Mc s z i);have dE:=qh (show yD s z i++lB (bC (rI s z i) i) (z i) (seg s z i)=yD s z (i+1)by rw[Sg];rfl);have hsl:=seg_length (s:=s) (z:=z) (i:=i);obtain⟨y,hy⟩:=qx (z i)
     simp only[←hy]at cz fX hsl
     rw[←hy]at cB dE;have b1:(0:Int)≤(i:Int):=qo;have b2:(i:Int)<(m:Int):=qo;clear hA hrz hy H3
     go_wp2_with fail
     refine(U1 i y (seg s z i) iW.o HB3.o.size qo hil tB.o FB hsl (by have:=l5.o;omega) fX).mono ?_;rintro e w4 ⟨rfl,fV,hb4⟩;have Ua:=qh fV;have aW:=qh (HB3.o.trans hb4);clear fV hb4
     go_wp2_with fail
     go_roundw
     case rel=>exact⟨i+1,by omega,qg,qh (by have h:=Ua.o;rw[cB.o,dE.o]at h;exact h),aW⟩
     case measure=>exact qs
    ·obtain rfl:m=i:=qo
     clear H3
     go_wp2_with fail
     refine(WC gr o d c A m qq _ (qh (HR.o.Me HB3.o hgr)) HD.o qo).mono ?_;rintro e w4 ⟨A4,c4,rfl,hc4,oF⟩;have fV:=qh (iW.o.keep oF.bl (dD A4 m (fun j=>.int .i64 (fC d m j))) oF.rd (fun b hb=>by
      obtain⟨_,a,e,hb⟩:=hb;exact⟨hb▸oF.ab a e,hb▸oF.bb a e⟩))
     have aW:=qh (HB3.o.trans (oF.bl.mono HB3.o.size));clear oF iW HB3 m1
     go_wp2_with fail
     go_loopw [14] (fun x wr=>∃t:Nat,t≤m∧x=.int .i64 t∧Hq (@dO (dD A4 m (fun j=>.int .i64 (fC d m j))) 129 mkS w.heap.size (w.heap.size+1) m (tO s z c d m t) (dW s z d m t) wr)∧Hq (Below w.heap.size w wr)) (fun x _=>m-(intOf x).toNat)
     case atStart=>exact⟨0,Nat.zero_le _,rfl,qh (@dO.congr (dD A4 m (fun j=>.int .i64 (fC d m j))) _ _ _ _ _ _ _ _ _ fV.o fun j hj=>by rw[K3 j hj];exact if_pos hj),aW⟩
     case round=>
      obtain⟨t,ht,rfl,nG,bG⟩:=hrel;obtain⟨Xh,aaY⟩:=dO.free _ nG.o;obtain⟨tg6,ev6,cl6,n6,U6,H6⟩:=Xh
      by_cases GY:t<m
      ·obtain⟨g4,o4,rfl,hg4,hr4⟩:=aaY qo
       have k4:=hr4 t GY;have HO:=qh (AE (d:=d) GY);have tB:Hq (mY (dW s z d m t) m):=qh ⟨by omega,fun j hj=>(jW (HF.o.dW hj)).1⟩;have Ew:Hq (mY (dW s z d m (t+1)) m):=qh ⟨by omega,fun j hj=>(jW (HF.o.dW hj)).1⟩;have TS:=qh (RR (s:=s) (z:=z) (d:=d) GY);have l5:=qh (jW (mg (HF.o.fY HO.o)));have Z1:=qh (HF.o.tO (c:=c) (d:=d) ht);have HKT:=qh (TG (s:=s) (d:=d) HF.o.hz HF.o.t (show t+1≤m by omega));have hkb:=Ew.o.dX (Nat.le_refl m);have Qw:¬12<bC (dW s z d m (t+1)) m:=by
        have:=WP HK.o (t:=t+1) qo qo;rw[HKT.o];omega
       obtain⟨K,hK⟩:=qx (bC (dW s z d m (t+1)) m);obtain⟨i,hi⟩:=qx (fC d m t);have HI:=qh hi;rw[←hi]at HO TS l5;rw[←hK]at hkb Qw
       simp only[←hi]at k4
       have HKE:=qh hK;have HRW:=qh (HR.o.Me bG.o hgr);have HZW:=qh (HZ.o.below bG.o);have b1:(0:Int)≤(t:Int):=qo;have b2:(t:Int)<(m:Int):=qo;clear hr4 H6 hi hK
       go_wp2_with fail
       refine(@QW (dD (some ⟨g4,o4,none⟩) m (fun j=>.int .i64 (fC d m j))) _ _ _ _ _ _ gr o d c A m qq z i (fY s z i) nG.o bG.o.size HRW HZW.o hgr (by have:=Z1.o;omega) HO.o HO.o tB.o TS (xJ i) (by have:=l5.o;omega) (HKK.o i HO.o)).mono ?_;rintro e w7 ⟨rfl,yM,bM⟩;have QE:=qh (@dO.congr (dD (some ⟨g4,o4,none⟩) m (fun j=>.int .i64 (fC d m j))) _ _ _ _ _ _ _ (dW s z d m (t+1)) _ yM fun j hj=>by
        rw[DH GY j hj,←HI.o];unfold eW
        by_cases h:j=i
        ·rw[if_pos h,if_pos h,h]
        ·rw[if_neg h,if_neg h])
       have dV:=qh (bG.o.trans bM);obtain⟨HM9,_⟩:=dO.free _ QE.o;obtain⟨mo,ev9,cl9,n9,U9,H9⟩:=HM9;obtain⟨A9,c9,rfl⟩:=aE H9.c;have m9:w7.cell? ⟨w.heap.size+1,1,none⟩=some (.slice A9 m c9):=H9.b.cell 1;have HH9:=qh H9;clear H9 yM bM k4
       go_wp2_with fail
       refine(qX m HH9.o (Nat.le_refl m) Ew.o).mono ?_;rintro e w8 ⟨rfl,rfl⟩;rw[←HKE.o];clear m9
       go_wp2_with fail
       go_roundw
       case rel=>exact⟨t+1,by omega,qg,qh (by have h:=QE.o;rw[HI.o]at h;exact h),dV⟩
       case measure=>exact qs
      ·obtain rfl:m=t:=qo
       have HH6:=qh H6;have Ue:=qh (YB (s:=s) (d:=d) HF.o.hz (Nat.le_refl m));have gK:=qh (show∀i,i≤m→(eX (dW s z d m m) i).length≤4*i from fun i=>by
        induction i with
        |zero=>intro _;simp[eX]
        |succ i ih=>
         intro hi;have h1:=ih qo;have h2:=(HF.o.dW (d:=d) (t:=m) (show i<m by omega)).2
         simp only[eX,List.length_append]
         omega)
       have lP:=qh ((Below.refl wr.heap.size wr).alloc ql (.cells #[] 2));have HOW:=qh (World.ownsRow_made (e:=2) (size:=1) wr #[] 0 ql qm rfl)
       rename World=>w5
       clear H6 nG aaY
       go_wp2_with fail
       go_loopw [15,16] (fun cu x wq=>∃i:Nat,i≤m∧x=.int .i64 i∧Hq (wq.ownsRow w5.heap.size 2 1 cu (eX (dW s z d m m) i).length (ints (eX (dW s z d m m) i)))∧Hq (Below w5.heap.size w5 wq)) (fun _ x _=>m-(intOf x).toNat)
       case atStart=>exact⟨0,Nat.zero_le _,rfl,HOW,lP⟩
       case round=>
        obtain⟨i,hi,rfl,pC,aR⟩:=hrel;have MI:=qh (HH6.o.below aR.o);obtain⟨A7,c7,E5⟩:=aE MI.o.c;have m1:wr.cell? ⟨w.heap.size+1,1,none⟩=some (.slice A7 m c7):=by rw[←E5];exact MI.o.b.cell 1
        clear E5
        by_cases him:i<m
        ·obtain⟨gc7,cc7,hcl⟩:=MI.o.form qo
         have hH7:=MI.o;rw[hcl]at hH7;have m2:=hH7.cellAt him;have m3:wr.cell? ⟨w.heap.size+1,1,none⟩=some (.slice (some ⟨gc7,0,none⟩) m cc7):=hH7.b.cell 1;obtain⟨Au,cu,hU,hrd⟩:=hH7.read him;rw[hU]at m2;have hJ:=qh hrd;have Xj:=qh (show(eX (dW s z d m m) (i+1)).length=(eX (dW s z d m m) i).length+(dW s z d m m i).length by simp[eX]);have HL2:=qh (show eX (dW s z d m m) (i+1)=eX (dW s z d m m) i++dW s z d m m i from rfl);have hl1:=gK.o i hi;have hl2:=(HF.o.dW (d:=d) (t:=m) him).2;have b1:(0:Int)≤(i:Int):=qo;have b2:(i:Int)<(m:Int):=qo;clear m1 hH7 hU hcl hrd
         go_wp2_with (at_builtin;go_must (refine cO wr rfl (.tmp 113) (.tmp 120) _ rfl w5.heap.size 2 i0 _ 1 8 Tryz.underlying61 hi0 iz is ib rfl qo _ _ _ rfl pC.o Au (dW s z d m m i).length cu (fun j=>.int .i64 ((dW s z d m m i).getD j 0)) rfl (by rw[Nat.mul_one];exact hJ.o) (fun j=>rfl) qm qo aR.o.size ?_);intro v' w' hown' hfr;have rP:=qh hown';have dV:=qh (aR.o.trans (hfr.own pC.o aR.o.size));clear hown' hfr)
         clear m2 m3
         go_roundw
         case rel=>exact⟨i+1,by omega,qg,qh (by
          have h:=rP.o;rw[Nat.mul_one,eV _ _ rfl,←aL,←HL2.o,←Xj.o]at h;exact h),dV⟩
         case measure=>exact qs
        ·obtain rfl:m=i:=qo
         have m0:wr.cell? ⟨w.heap.size+1,0,none⟩=some ev6:=MI.o.b.cell 0
         go_wp2_with fail
         go_ret3
         refine⟨_,_,n6,rfl,MI.o.e,?_,bG.o.trans (aR.o.mono bG.o.size)⟩;have h:=eU pC.o bG.o.size;rw[Ue.o]at h;exact h
theorem Zj {d:Int}(h:gQ d=true):d=1∨d= -1:=by simpa [gQ]using h
theorem ig (d cc:Int)(gr LR:Nat)(A2:OA)(m c2:Nat)(A:OA)(n c:Nat)(A3:OA)(c3:Nat)(s z F:Nat→Int)(w:World)(hd:gQ d=true)(pO:Hq (F=fun j=>(gT s z m).getD j 0))(H:Hq (iM w gr LR d cc A2 m c2))(ha:Rd w A n (fun j=>.int .i64 (s j)))(hb:Rd w A2 m (fun j=>.int .i64 (z j)))(h3:Rd w A3 (bH z m) (fun j=>.int .i64 (F j)))(hs:fF s n=true)(hz:cM z m=true)(ht:aF z m=n):
 Calls Tryz.prog 124 #[.slice A n c,.slice A3 (bH z m) c3,.pointer (some ⟨gr,LR,none⟩)] w fun e w'=>e=.returned (.bool (iT s n z m d m))∧Below w.heap.size w w':=by
 rcases Zj hd with rfl|rfl
 ·exact WD cc gr LR A2 m c2 A n c A3 c3 s z F w pO H ha hb h3 hs hz ht
 ·exact WE cc gr LR A2 m c2 A n c A3 c3 s z F w pO H ha hb h3 hs hz ht
structure xB (w:World)(g o:Nat)(aA:Int)(A:OA)(n q:Nat):Prop where
 c0:w.cell? ⟨g,o,none⟩=some (.int .i64 aA)
 c1:w.cell? ⟨g,o+1,none⟩=some (.slice A n q)
theorem xB.below {w w':World}{g o:Nat}{aA:Int}{A:Option Addr}{n q:Nat}(h:xB w g o aA A n q)(hb:Below w.heap.size w w'):xB w' g o aA A n q:=by
 have hg:g<w.heap.size:=World.block_lt_of_cell? w _ h.c0;exact⟨aM hb hg h.c0,aM hb hg h.c1⟩
def ones (k:Nat):List Int:=List.replicate k 1
theorem UC (g0 o0:Nat)(aA:Int)(A:OA)(n q:Nat)(d c:Nat→Int)(As:Nat→OA)(ns cs:Nat→Nat)(z:Nat→Nat→Int)(w:World)(H:Hq (xB w g0 o0 aA A n q))(ha:eC A n d c As ns cs z w)(hn:n≤1048576)(hns:∀j,j<n→ns j≤1048576):
 Calls Tryz.prog 74 #[.pointer (some ⟨g0,o0,none⟩)] w (adx (dL aA n d c ns z) w):=by
 obtain⟨i0,hi,iz,is,ib⟩:=info_parts BI;obtain⟨j0,hj0,jz,js,jb⟩:=info_parts info64;have jY:=qh hns;have HA:=qh ha;have LA:=qh (cU A n d c As ns cs z);have h0:=H.o.c0;have h1:=H.o.c1;clear ha hns
 cases hcb:aJ aA 1 8
 ·have HC:=qh (show dL aA n d c ns z=false by simp[dL,hcb])
  have FD:=qh hcb;clear hcb
  go_enter Tryz.func74,Tryz.ntmps74
  go_wp2_with ((go_at_call 47;refine(cH _ _ _ _).mono ?_;rintro e w' ⟨rfl,rfl⟩;rw[FD.o]))
  go_ret2
  exact⟨.slice none 0 0,by rw[HC.o];rfl,Below.refl _ _⟩
 have hc18:=mN hcb
 by_cases NL:1≤n∧n≤8
 case neg=>
  have HC:=qh (show dL aA n d c ns z=false by simp[dL,NL]);have FD:=qh hcb;have QC:=qh (show aJ (n:Int) 1 8=false by cases h:aJ (n:Int) 1 8 with
   |false=>rfl
   |true=>have:=mN h;omega)
  clear hcb NL
  go_enter Tryz.func74,Tryz.ntmps74
  go_wp2_with (first|(go_at_call_of 47 (Value.int .i64 aA);refine(cH _ _ _ _).mono ?_;rintro e w' ⟨rfl,rfl⟩;rw[FD.o])|(go_at_call_of 47 (Value.int .i64 (n:Int));refine(cH _ _ _ _).mono ?_;rintro e w' ⟨rfl,rfl⟩;rw[QC.o]))
  go_ret2
  exact⟨.slice none 0 0,by rw[HC.o];rfl,Below.refl _ _⟩
 obtain⟨hn1,BK⟩:=NL;obtain⟨C,rfl⟩:=Int.eq_ofNat_of_zero_le (show 0≤aA by omega);have hC:dL C n d c ns z=kD C d c ns z n:=by simp[dL,hcb,hn1,BK]
 have HC:=qh hC;have FD:=qh hcb;have QC:=qh (show aJ (n:Int) 1 8=true by simp[aJ];omega);have Kj:1≤C∧C≤8:=qo;clear hC hcb
 go_enter Tryz.func74,Tryz.ntmps74
 go_wp2_with (first|(go_at_call_of 47 (Value.int .i64 (C:Int));refine(cH _ _ _ _).mono ?_;rintro e w' ⟨rfl,rfl⟩;rw[FD.o])|(go_at_call_of 47 (Value.int .i64 (n:Int));refine(cH _ _ _ _).mono ?_;rintro e w' ⟨rfl,rfl⟩;rw[QC.o]))
 clear h0 h1
 go_loopg [4] C (fun qq v wr=>∃k:Nat,k≤C∧qq+k=C∧wr.ownsRow w.heap.size 2 1 v k (ints (ones k))∧(∃A' c',v=.slice A' k c')∧Below w.heap.size w wr)
 case atStart=>exact⟨0,Nat.zero_le _,rfl,World.ownsRow_made _ #[] 0 ql qm rfl,⟨_,_,rfl⟩,qb⟩
 case round=>
  obtain⟨k,hk,hq,hown,⟨A',c',rfl⟩,hbl⟩:=hrel;have HB:=qh hbl;have HOWN:=qh hown;have hAt:=H.o.below hbl;have h0:=hAt.c0;clear hbl hown hAt
  by_cases hlt:k<C
  ·go_wp2_with (at_builtin;go_must (refine bW wr rfl (.tmp 32) (.tmp 33) _ rfl w.heap.size 2 j0 _ 1 8 Tryz.underlying61 hj0 jz js jb rfl qo (.slice A' k c') k (ints (ones k)) rfl HOWN.o _ 1 1 _ rfl rfl (by simp[Value.oneCell']) qm qo HB.o.size ?_);intro v' w' hown' hb';have HOWN':=qh hown';have oC:=qh (HB.o.trans hb');clear hown' hb')
   go_roundg (C-(k+1))
   case measure=>omega
   case rel=>exact⟨k+1,by omega,by omega,by rw[ones,List.replicate_succ',aL];exact HOWN'.o,aE HOWN'.o,oC.o⟩
  ·obtain rfl:C=k:=qo
   have hs1:=HB.o.size;have hnew:=New.sC HB.o HOWN.o;obtain⟨A2,c2,e2,hc2,hn2⟩:=hnew;injection e2 with e2 _ e3;subst e2 e3;rw[Nat.mul_one]at hn2;have aaX:sH wr (.slice A' C c') (i4 C ns z 0) (iV C ns z 0):=sH.of (hn2.congr fun j hj=>by rw[MT hj];simp[ones,ints,List.getD,hj]) qo hc2;have agf:=qh aaX;clear aaX hn2
   go_wp2_with fail
   go_loopw [4,5,6] (fun sv v i wi=>∃k:Nat,k≤n∧i=.int .i64 k∧Hq (kD C d c ns z k=true)∧sH wi sv (i4 C ns z k) (iV C ns z k)∧(∃xs,wi.ownsRow w.heap.size 61 1 v k xs)∧Hq (∀b A' N' c',sv=.slice (some ⟨A',N',none⟩) b c'→¬v.ownBlock=some A')∧Below w.heap.size w wi) (fun _ _ i _=>n-(intOf i).toNat)
   case atStart=>
    obtain⟨g,o,c',e,hc',hr⟩:=agf.o;refine⟨0,Nat.zero_le _,rfl,qh rfl,⟨g,o,c',e,hc',hr.below (qb)⟩,⟨[],World.ownsRow_made wr #[] (base:=w.heap.size) (e:=61) (size:=1) 0 hs1 qm rfl⟩,qh ?_,HB.o.alloc hs1 _⟩;intro b A'' N' c'' e2 e3;rw[e]at e2;injection e2 with e2;injection e2 with e2;injection e2 with e2;injection e3 with e3
    simp only at e3
    obtain⟨_,_,e4,hlt,_⟩:=hr (by simp only[i4];omega);injection e4 with e4;injection e4 with e4;omega
   case round=>
    obtain⟨k,hk,rfl,TL,hst,⟨xs,hown⟩,lO,hbl⟩:=hrel;have hs0:=hbl.size;have HB:=qh hbl;have HOWN:=qh hown;have hAt:=H.o.below hbl;have h1:=hAt.c1;clear hown hAt h0
    by_cases hlt:k<n
    ·have hrr:=LA.out.below HA.o HB.o
     obtain⟨gA,oA,rfl,hgA,r0,r1,r2⟩:=eC.row hrr hlt;have HZ:=qh (hrr.2 k hlt);have hnk:=jY.o k hlt;obtain⟨g,o,c',rfl,hc',hst⟩:=hst;have HST:=qh hst;have hSN:=AX Kj TL.o;have ZK:=qh (fun h=>HC.o.trans (LP hlt h));have HRW:=qh (show iM wr gA (oA+k*3) (d k) (c k) (As k) (ns k) (cs k)from⟨r0,r1,r2⟩);clear hrr hst r0 r1 r2 hbl;obtain⟨dk,hdk⟩:=qx (d k);obtain⟨ck,hck⟩:=qx (c k);rw[←hdk,←hck]at HRW;obtain⟨V,hV⟩:∃V,V=(gQ dk&&aJ ck 1 4&&cM (z k) (ns k)):=⟨_,rfl⟩;have P5:FP C d c ns z k=(V&&decide (jK (iV C ns z k) (i4 C ns z k) (z k) (ns k)=0)&&iT (iV C ns z k) (i4 C ns z k) (z k) (ns k) dk (ns k)):=by rw[hV,hdk,hck];rfl
     have HV:=qh hV;have GL:=qh P5;clear hV P5 hdk hck;have r2:=HRW.o.c2
     cases V
     ·have HF:=qh (ZK.o (by rw[GL.o];rfl))
      go_wp2_with ((go_at_call 122;with_reducible refine(OU gA (oA+k*3) dk ck (As k) (ns k) (cs k) (z k) _ HRW HZ.o hnk).mono ?_;rintro e w' ⟨rfl,rfl⟩;rw[←HV.o]))
      go_ret2
      exact⟨.slice none 0 0,by rw[HF.o];rfl,HB.o⟩
     have abg:gQ dk=true:=by
      have:=HV.o.symm
      simp only[Bool.and_eq_true]at this
      exact this.1.1
     have agO:=qh abg;clear abg
     go_wp2_with ((go_at_call 122;with_reducible refine(OU gA (oA+k*3) dk ck (As k) (ns k) (cs k) (z k) _ HRW HZ.o hnk).mono ?_;rintro e w' ⟨rfl,rfl⟩;rw[←HV.o]))
     refine(IE (some ⟨g,o,none⟩) (i4 C ns z k) c' (As k) (ns k) (cs k) (iV C ns z k) (z k) _ HST.o HZ.o qo hnk).mono ?_;rintro e w3 ⟨A3,c3,rfl,hc3,sX⟩;have jG:=qh sX;have h1':=(H.o.below (HB.o.trans (sX.bl.mono hs0))).c1;clear sX h1 r2
     by_cases hcode:jK (iV C ns z k) (i4 C ns z k) (z k) (ns k)=0
     case neg=>
      have HF:=qh (ZK.o (by rw[GL.o,decide_eq_false hcode];simp));have hcb:(jK (iV C ns z k) (i4 C ns z k) (z k) (ns k)!=0)=true:=by simpa using hcode
      go_wp2
      go_ret2
      exact⟨.slice none 0 0,by rw[HF.o];rfl,HB.o.trans (jG.o.bl.mono hs0)⟩
     obtain⟨hss,hzz,Jo,hmm,_⟩:=AZ hcode;have hsM:pS (iV C ns z k) (i4 C ns z k) (z k) (ns k)=bH (z k) (ns k):=by rw[pS,if_pos hcode]
     rw[hsM]at jG hc3 ⊢;have FC:=qh hcode;have hcb:(jK (iV C ns z k) (i4 C ns z k) (z k) (ns k)!=0)=false:=by simpa using hcode
     have DK:=qh hss;have HZZ:=qh hzz;have yJ:=qh Jo;clear hcode hss hzz Jo hsM
     go_wp2_with fail
     refine(ig dk ck gA (oA+k*3) (As k) (ns k) (cs k) (some ⟨g,o,none⟩) (i4 C ns z k) c' A3 c3 (iV C ns z k) (z k) _ _ agO.o (qh rfl) (qh (HRW.o.below jG.o.bl)) (HST.o.below jG.o.bl) (HZ.o.below jG.o.bl) jG.o.rd DK.o HZZ.o yJ.o).mono ?_;rintro e w4 ⟨rfl,hb4⟩;have jF:=qh (jG.o.then hb4);have GM:=qh (own_below HOWN.o jF.o.bl);clear hb4 h1'
     cases hkb:iT (iV C ns z k) (i4 C ns z k) (z k) (ns k) dk (ns k)
     ·have HF:=qh (ZK.o (by rw[GL.o,hkb];simp))
      go_wp2
      go_ret2
      exact⟨.slice none 0 0,by rw[HF.o];rfl,HB.o.trans (jF.o.bl.mono hs0)⟩
     have Z2:=qh (show kD C d c ns z (k+1)=true by simp only[kD];rw[TL.o,GL.o,FC.o,hkb];rfl);have Rj:=AX Kj Z2.o;have HKB:=qh hkb;have hs4:=jF.o.bl.size;clear hkb
     go_wp2_with (at_builtin;go_must (refine d5 w4 rfl (.tmp 80) (.tmp 82) _ rfl w.heap.size 61 i0 _ 1 24 Tryz.underlying89 hi iz is ib rfl qo u5 k xs rfl GM.o _ 1 1 _ rfl rfl (by simp[Value.oneCell']) qm qo qo ?_);intro v' w' hown' hf' hat';have HOWN':=qh hown';have eR:=qh hf';have jB:=qh hat';clear hown' hf' hat')
     go_roundw
     case rel=>
      have X5:∀b,u5.ownBlock=some b→b<wr.heap.size:=fun b hb=>(HOWN.o.lt b hb).2;have Kk:∀b,Fb A3 (bH (z k) (ns k)) b→wr.heap.size≤b∧b<w4.heap.size:=fun b ⟨_,a,e,hb⟩=>⟨hb▸jF.o.ab a e,hb▸jF.o.bb a e⟩;refine⟨k+1,by omega,qg,Z2,?_,⟨_,HOWN'.o⟩,qh ?_,(HB.o.trans (jF.o.bl.mono hs0)).trans (eR.o.own GM.o qo)⟩
      ·have hrd:=(aS _ _ _).fr jF.o.rd eR.o (fun b hb he=>by have:=Kk b hb;have:=X5 b he;omega)
       obtain⟨g3,o3,e3,_⟩:=hrd (by simp only[i4]at Rj;omega);subst e3;exact⟨g3,o3,c3,rfl,hc3,hrd⟩
      ·intro b A' N' c'' e2 e3
       injection e2 with e2;have h1:=Kk A' ⟨by simp only[i4]at Rj;omega,_,e2,rfl⟩
       rcases jB.o with h2|h2
       ·have:=X5 A' (h2.symm.trans e3)
        omega
       ·rw[h2]at e3
        injection e3 with e3;omega
     case measure=>exact qs
    ·obtain rfl:n=k:=qo
     go_wp2
     go_ret2
     exact⟨u5,by rw[HC.o,TL.o];rfl,HB.o⟩
theorem SR (g0 o0:Nat)(aA:Int)(A:OA)(n q:Nat)(d c:Nat→Int)(As:Nat→OA)(ns cs:Nat→Nat)(z:Nat→Nat→Int)(w:World)(H:Hq (xB w g0 o0 aA A n q))(ha:eC A n d c As ns cs z w)(hn:n≤1048576)(hns:∀j,j<n→ns j≤1048576):
 Calls Tryz.prog 44 #[.pointer (some ⟨g0,o0,none⟩)] w fun e w'=>e=.returned (.bool (dL aA n d c ns z))∧Below w.heap.size w w':=by
 have HC:=qh (UC g0 o0 aA A n q d c As ns cs z w H ha hn hns);clear ha hns
 go_enter Tryz.func44,Tryz.ntmps44
 go_wp2_with fail
 refine HC.o.mono ?_;rintro e w2 ⟨v,rfl,hb2⟩;have HB:=qh hb2;clear hb2
 go_wp2
 go_ret
 exact⟨rfl,HB.o⟩
def DI (carrier:Int)(n:Nat):List Int:=(List.range (n*6)).map (Ej carrier)
theorem ME (carrier:Int)(n:Nat):qC carrier n=ints (DI carrier n):=by simp[qC,DI,ints,List.map_map,Function.comp_def]
theorem YC (carrier:Int)(n:Nat):(DI carrier n).length=n*6:=by simp[DI]
def Ti (w:World)(n:Nat)(L:List Int)(e:Ending)(w':World):Prop:=∃v,e=.returned v∧w'.ownsRow w.heap.size 116 6 v n (ints L)∧Below w.heap.size w w'
theorem zP18x14 {p:Prop}(h:p:=by
 go_wp2
 go_roundw
 case rel=>exact⟨k+1,by omega,qg,by rw[ES];exact hown',HB.o.trans hb'⟩
 case measure=>exact qs):p:=h
theorem U2 (n:Nat)(carrier:Int)(w:World)(hn:n≤1048576):
 Calls Tryz.prog 48 #[.int .i64 n,.int .i64 carrier] w (Ti w n (DI carrier n)):=by
 obtain⟨i0,hi,iz,is,ib⟩:=info_parts dQ
 go_enter Tryz.func48,Tryz.ntmps48
 go_wp2_with fail
 go_loopw [5,6] (fun v i wr=>∃k:Nat,k≤n∧i=.int .i64 k∧wr.ownsRow w.heap.size 116 6 v k (qC carrier k)∧Below w.heap.size w wr) (fun _ i _=>n-(intOf i).toNat)
 case atStart=>exact⟨0,Nat.zero_le _,rfl,World.ownsRow_made w #[] 0 ql qm rfl,qb⟩
 case round=>
  obtain⟨k,hk,rfl,hown,hb⟩:=hrel;have HB:=qh hb;have HOWN:=qh hown;clear hb hown
  by_cases hlt:k<n
  ·go_wp2_with (at_builtin;go_must (refine bW wr rfl (.tmp 13) (.tmp 17) _ rfl w.heap.size 116 i0 _ 6 48 Tryz.underlying42 hi iz is ib rfl qo u5 k _ rfl HOWN.o _ 1 1 _ rfl rfl (by simp[Value.oneCell']) qm qo HB.o.size ?_);intro v' w' hown' hb')
   exact zP18x14
  ·obtain rfl:k=n:=qo
   go_wp2
   go_ret
   exact⟨_,rfl,by rw[←ME];exact HOWN.o,HB.o⟩
theorem UR (n:Nat)(carrier:Int)(w:World)(hn:n≤1048576):
 Calls Tryz.prog 67 #[.int .i64 n,.int .i64 carrier] w (Ti w n (DI carrier n)):=by
 obtain⟨i0,hi,iz,is,ib⟩:=info_parts dQ
 go_enter Tryz.func67,Tryz.ntmps67
 go_wp2_with fail
 go_loopw [5,9] (fun v i wr=>∃k:Nat,k≤n∧i=.int .i64 k∧wr.ownsRow w.heap.size 116 6 v k (qC carrier k)∧Below w.heap.size w wr) (fun _ i _=>n-(intOf i).toNat)
 case atStart=>exact⟨0,Nat.zero_le _,rfl,World.ownsRow_made w #[] 0 ql qm rfl,qb⟩
 case round=>
  obtain⟨k,hk,rfl,hown,hb⟩:=hrel;have HB:=qh hb;have HOWN:=qh hown;clear hb hown
  by_cases hlt:k<n
  ·go_wp2_with (at_builtin;go_must (refine bW wr rfl (.tmp 12) (.tmp 16) _ rfl w.heap.size 116 i0 _ 6 48 Tryz.underlying42 hi iz is ib rfl qo u5 k _ rfl HOWN.o _ 1 1 _ rfl rfl (by simp[Value.oneCell']) qm qo HB.o.size ?_);intro v' w' hown' hb')
   exact zP18x14
  ·obtain rfl:k=n:=qo
   go_wp2
   go_ret
   exact⟨_,rfl,by rw[←ME];exact HOWN.o,HB.o⟩
def oG (aA:Nat)(d c:Nat→Int)(ns:Nat→Nat)(z:Nat→Nat→Int):Nat→List Int
 |0=>DI (c 0) aA
 |k+1=>oG aA d c ns z k++tO (iV aA ns z k) (z k) (c k) (d k) (ns k) (ns k)
theorem MW {aA:Nat}{d c:Nat→Int}{ns:Nat→Nat}{z:Nat→Nat→Int}{k:Nat}(h:FP aA d c ns z k=true):iR (iV aA ns z k) (z k) (i4 aA ns z k) (ns k)∧gQ (d k)=true∧iT (iV aA ns z k) (i4 aA ns z k) (z k) (ns k) (d k) (ns k)=true:=by
 simp only[FP,Bool.and_eq_true,decide_eq_true_eq]at h
 exact⟨iR.of h.1.2,h.1.1.1.1,h.2⟩
theorem G5 {aA:Nat}{d c:Nat→Int}{ns:Nat→Nat}{z:Nat→Nat→Int}{n:Nat}(hc:aA≤8)(h:kD aA d c ns z n=true){k:Nat}(hk:k≤n):(oG aA d c ns z k).length≤48+20000*k:=by
 induction k with
 |zero=>simp only[oG,YC];omega
 |succ k ih=>
  have h1:=ih qo;have h2:=(MW (xP h k qo)).1;have h3:=h2.tO (c:=c k) (d:=d k) (Nat.le_refl (ns k));have h4:=h2.m8
  simp only[oG,List.length_append]
  omega
theorem G4 {B:Nat}{w:World}{A:Option Addr}{n c:Nat}{e:TypeId}{L:List Int}(ho:w.ownsRow B e 1 (.slice A n c) n (ints L)):Rd w A n (fun j=>.int .i64 (L.getD j 0)):=fun h0=>by
 have hl:L.length=n:=by have:=ho.1;simp[ints]at this;omega
 rcases ho.2 with⟨_,h1⟩|⟨g',cap,_,hg,_⟩
 ·omega
 injection hg with hA _ hc;subst hA;refine⟨g',0,rfl,(ho.lt g' rfl).2,fun j hj=>?_⟩;rw[Nat.zero_add,ho.cellAt j qo]
 simp[ints,List.getD,show j<L.length by omega]
theorem P6 {B:Nat}{w:World}{A:Option Addr}{n c:Nat}{e:TypeId}{L:List Int}(ho:w.ownsRow B e 6 (.slice A n c) n (ints L)):Rd w A (n*6) (fun j=>.int .i64 (L.getD j 0)):=fun h0=>by
 have hl:L.length=n*6:=by have:=ho.1;simpa [ints]using this
 rcases ho.2 with⟨_,h1⟩|⟨g',cap,_,hg,_⟩
 ·omega
 injection hg with hA _ hc;subst hA;refine⟨g',0,rfl,(ho.lt g' rfl).2,fun j hj=>?_⟩;rw[Nat.zero_add,ho.cellAt j qo]
 simp[ints,List.getD,show j<L.length by omega]
def hkN (aA:Int)(n:Nat)(d c:Nat→Int)(ns:Nat→Nat)(z:Nat→Nat→Int):Nat:=if dL aA n d c ns z=true then(oG aA.toNat d c ns z n).length/6 else 0
def BL (aA:Int)(n:Nat)(d c:Nat→Int)(ns:Nat→Nat)(z:Nat→Nat→Int):Int:=if dL aA n d c ns z=true then 0 else 1
def Q2 (aA:Int)(n:Nat)(d c:Nat→Int)(ns:Nat→Nat)(z:Nat→Nat→Int)(w:World):Ending→World→Prop:=adS w (hkN aA n d c ns z) (hkN aA n d c ns z*6) (fun j=>.int .i64 ((oG aA.toNat d c ns z n).getD j 0)) (BL aA n d c ns z)
theorem Q2.no {aA:Int}{n:Nat}{d c:Nat→Int}{ns:Nat→Nat}{z:Nat→Nat→Int}{w w':World}(h:dL aA n d c ns z=false)(hb:Below w.heap.size w w'):Q2 aA n d c ns z w (.returned (.tuple #[.slice none 0 0,.int .i64 1])) w':=by
 have h1:hkN aA n d c ns z=0:=by simp[hkN,h]
 have h2:BL aA n d c ns z=1:=by simp[BL,h]
 unfold Q2;rw[h1,h2];exact⟨none,0,rfl,New.none_ hb _⟩
theorem Q2.yes {aA:Int}{n nE:Nat}{d c:Nat→Int}{ns:Nat→Nat}{z:Nat→Nat→Int}{w w':World}{v:Value}(h:dL aA n d c ns z=true)(ho:w'.ownsRow w.heap.size 116 6 v nE (ints (oG aA.toNat d c ns z n)))(hb:Below w.heap.size w w'):Q2 aA n d c ns z w (.returned (.tuple #[v,.int .i64 0])) w':=by
 have hl:(oG aA.toNat d c ns z n).length=nE*6:=by have:=ho.1;simpa [ints]using this
 have h1:hkN aA n d c ns z=nE:=by unfold hkN;rw[if_pos h,hl];omega
 have h2:BL aA n d c ns z=0:=by simp[BL,h]
 unfold Q2;rw[h1,h2];obtain⟨A,c',rfl,hnew⟩:=New.lQ hb ho;refine⟨A,c',rfl,hnew.congr fun j hj=>?_⟩
 simp[ints,List.getD,show j<(oG aA.toNat d c ns z n).length by omega]
theorem MV (aA:Int)(A:OA)(n q:Nat)(d c:Nat→Int)(As:Nat→OA)(ns cs:Nat→Nat)(z:Nat→Nat→Int)(w:World)(ha:eC A n d c As ns cs z w)(hn:n≤1048576)(hns:∀j,j<n→ns j≤1048576):
 Calls Tryz.prog 29 #[.agg #[.int .i64 aA,.slice A n q]] w (Q2 aA n d c ns z w):=by
 obtain⟨i0,hi0,iz,is,ib⟩:=info_parts info64;obtain⟨j0,hj0,jz,js,jb⟩:=info_parts dQ;have HB0:=qh ((Below.refl w.heap.size w).alloc ql (.cells #[.int .i64 aA,.slice A n q] 32));have HX:=qh (kN w #[.int .i64 aA,.slice A n q] 32);have HA:=qh ha;have jY:=qh hns;have TS:Hq (xB (w.alloc (.cells #[.int .i64 aA,.slice A n q] 32)) w.heap.size 0 aA A n q):=qh ⟨HX.o 0,HX.o 1⟩;have LA:=qh (cU A n d c As ns cs z);clear ha hns
 go_enter Tryz.func29,Tryz.ntmps29
 go_wp2_with fail
 refine(SR w.heap.size 0 aA A n q d c As ns cs z _ TS (LA.out.below HA.o HB0.o) hn jY.o).mono ?_;rintro e w2 ⟨rfl,hb2⟩;have HB2:=qh (HB0.o.trans (hb2.mono qj));have HC2:=qh (TS.o.below hb2);have Ur:Hq (Below (w.heap.size+1) (w.alloc (.cells #[.int .i64 aA,.slice A n q] 32)) w2):=qh (by have h:=hb2;simp only[World.size_alloc]at h;exact h);clear hb2
 cases hcb:dL aA n d c ns z
 ·have FD:=qh hcb
  go_wp2_with fail
  go_ret2
  exact Q2.no FD.o HB2.o
 have FD:=qh hcb;have G7:=hcb
 simp only[dL,Bool.and_eq_true,decide_eq_true_eq]at G7
 obtain⟨⟨hc18,hn1,BK⟩,hrows⟩:=G7;have hc:=mN hc18;obtain⟨C,rfl⟩:=Int.eq_ofNat_of_zero_le (show 0≤aA by omega);rw[Int.toNat_natCast]at hrows;have HRW:=qh hrows;clear hcb hrows hc18;obtain⟨gr,D7,PH,hgr,r0,r1,r2⟩:=HA.o.row (k:=0) qo;subst PH;have k0:=HC2.o.c0;have k1:=HC2.o.c1;rw[Nat.zero_add]at k1;have k2:=aM HB2.o hgr r1;rw[Nat.zero_mul,Nat.add_zero]at k2;clear r0 r1 r2;obtain⟨c0,hc0⟩:=qx (c 0);rw[←hc0]at k2;have pR:=qh hc0;have b0:(0:Int)<(n:Int):=qo;have b1:0<n:=qo;clear hc0
 go_wp2_with fail
 go_region_held3 (fun w'=>w'.cell? ⟨w.heap.size,0,none⟩=some (.int .i64 (C:Int))∧w'.cell? ⟨w.heap.size,1,none⟩=some (.slice (some ⟨gr,D7,none⟩) n q)∧w'.cell? ⟨gr,D7+1,none⟩=some (.int .i64 c0)) (go_keep)
  ((go_at_call 48;refine(U2 C c0 _ qo).mono ?_;rintro e w4 ⟨v4,rfl,d6,hb4⟩;have bS:=qh d6;have hb5:Below w2.heap.size w2 w4:=(Below.refl w2.heap.size w2).drew.trans hb4;have aW:Hq (Below w.heap.size w w4):=HB2.st hb5;have qw:=aM hb5 (World.block_lt_of_cell? w2 _ k0) k0;have Ja:=aM hb5 (World.block_lt_of_cell? w2 _ k1) k1;have BD:=aM hb5 (World.block_lt_of_cell? w2 _ k2) k2;have HC4:=qh (HC2.o.below hb5);have ZV:=qh (Ur.o.trans (hb5.mono (by have:=Ur.o.size;simpa using this)));clear d6 hb4 hb5))
 rename_i hHeld
 clear hHeld k0 k1 k2;have Tw:=qh (eU bS.o (B':=w.heap.size+1) (by have:=Ur.o.size;simpa using this));have zH:=qh ((Below.refl w4.heap.size w4).alloc ql (.cells #[] 2));have jF:=qh (World.ownsRow_made (e:=2) (size:=1) w4 #[] 0 ql qm rfl);have HKX:=qh qw;have Xk:=qh Ja;have aa4:=World.block_lt_of_cell? w4 _ qw
 simp only at aa4
 clear bS qw Ja BD
 go_wp2_with fail
 go_loopw [5,6] (fun cu x wq=>∃k:Nat,k≤C∧x=.int .i64 k∧Hq (wq.ownsRow w4.heap.size 2 1 cu k (ints (List.replicate k 1)))∧Hq (Below w4.heap.size w4 wq)) (fun _ x _=>C-(intOf x).toNat)
 case atStart=>exact⟨0,Nat.zero_le _,rfl,jF,zH⟩
 case round=>
  obtain⟨k,hk,rfl,d9,bG⟩:=hrel;have k0:=aM bG.o aa4 HKX.o
  by_cases hlt:k<C
  ·go_wp2_with (at_builtin;go_must (refine bW wr rfl (.tmp 28) (.tmp 29) _ rfl w4.heap.size 2 i0 _ 1 8 Tryz.underlying61 hi0 iz is ib rfl qo u5 k _ rfl d9.o _ 1 1 _ rfl rfl (by simp[Value.oneCell']) qm qo bG.o.size ?_);intro v' w' hown' hb';have CG:=qh hown';have bE:=qh (bG.o.trans hb');clear hown' hb')
   go_roundw
   case rel=>exact⟨k+1,by omega,qg,qh (by rw[List.replicate_succ',aL];exact CG.o),bE⟩
   case measure=>exact qs
  ·obtain rfl:C=k:=qo
   have bE:=qh (ZV.o.trans (bG.o.mono (by have:=ZV.o.size;simpa using this)));have CG:=qh (own_below Tw.o bG.o);obtain⟨A5,c5,rfl⟩:=aE d9.o;have vJ:=qh ((G4 d9.o).congr (f':=fun j=>.int .i64 (iV C ns z 0 j)) fun j hj=>rfl)
   rename World=>w6
   go_wp2_with fail
   clear k0
   go_loopw [4,5,7] (fun ov sv x wr=>∃(k nE:Nat) (tI:OA) (cs':Nat),k≤n∧x=.int .i64 k∧sv=.slice tI (i4 C ns z k) cs'∧Hq (Rd wr tI (i4 C ns z k) (fun j=>.int .i64 (iV C ns z k j)))∧Hq (wr.ownsRow (w.heap.size+1) 116 6 ov nE (ints (oG C d c ns z k)))∧Hq (Below (w.heap.size+1) (w.alloc (.cells #[.int .i64 C,.slice (some ⟨gr,D7,none⟩) n q] 32)) wr)) (fun _ _ x _=>n-(intOf x).toNat)
   case atStart=>exact⟨0,C,A5,c5,Nat.zero_le _,rfl,rfl,vJ,qh (by simp only[oG];rw[←pR.o];exact CG.o),bE⟩
   case round=>
    obtain⟨k,nE,tI,cs',hk,rfl,rfl,yK,pC,aR⟩:=hrel;have hsz:=aR.o.size
    simp only[World.size_alloc]at hsz
    have k1:=aM aR.o (Nat.lt_succ_self _) (HX.o 1);have lP:=qh (HB0.o.trans (aR.o.mono (Nat.le_succ _)));obtain⟨Ao,co,rfl⟩:=aE pC.o
    by_cases hlt:k<n
    ·obtain⟨g9,o9,e9,Jw,r0,r1,r2⟩:=(LA.out.below HA.o lP.o).row hlt
     injection e9 with e9;injection e9 with e9 e10;subst e9 e10;have agk:Hq (iM wr gr (D7+k*3) (d k) (c k) (As k) (ns k) (cs k)):=qh ⟨r0,r1,r2⟩;have HZ7:=qh ((LA.out.below HA.o lP.o).2 k hlt);have TQ:=qh (MW (xP HRW.o k hlt));have QK:=qh (G5 (d:=d) (c:=c) (show C≤8 by omega) HRW.o (k:=k+1) qo);have b1:(0:Int)≤(k:Int):=qo;have b2:(k:Int)<(n:Int):=qo;clear r0 r1 r2
     go_wp2_with fail
     refine(Cm gr (D7+k*3) (d k) (c k) (As k) (ns k) (cs k) (z k) (iV C ns z k) tI (i4 C ns z k) cs' wr agk HZ7.o yK.o Jw TQ.o.2.1 TQ.o.1 TQ.o.2.2).mono ?_;rintro e w8 ⟨ev,af,n8,rfl,gC,PB,gY⟩;obtain⟨R8,XJ⟩:=qx (tO (iV C ns z k) (z k) (c k) (d k) (ns k) (ns k));have hN1:(gT (iV C ns z k) (z k) (ns k)).length=i4 C ns z (k+1):=qY TQ.o.1.hz ql;rw[hN1]at PB;have nT:kD C d c ns z (k+1)=true:=by
      have h:=HRW.o;have:∀j,j≤n→kD C d c ns z j=true:=by
       intro j hj
       induction j with
       |zero=>rfl
       |succ j ih=>simp only[kD,Bool.and_eq_true];exact⟨ih qo,xP h j qo⟩
      exact this _ qo
     have hN8:=AX (d:=d) (c:=c) (ns:=ns) (z:=z) (k:=k+1) (show 1≤C∧C≤8 by omega) nT;rw[←XJ]at gC;have cT:=qh (show oG C d c ns z (k+1)=oG C d c ns z k++R8 by rw[XJ];rfl);have XN:R8.length=n8*6:=by have:=gC.1;simpa [ints]using this
     have hLk:(oG C d c ns z k).length=nE*6:=by have:=pC.o.1;simpa [ints]using this
     have hEL:=QK.o;rw[cT.o,List.length_append,XN,hLk]at hEL;obtain⟨ga,ca,hAf,hga⟩:∃ga ca,af=.slice (some ⟨ga,0,none⟩) (i4 C ns z (k+1)) ca∧wr.heap.size≤ga:=by
      rcases PB.2 with⟨_,h0⟩|⟨g,cap,_,e,hb,_⟩
      ·omega
      ·exact⟨g,cap,e,hb⟩
     subst hAf;obtain⟨Ae,ce,rfl⟩:=aE gC;have Nl:=qh ((G4 PB).congr (f':=fun j=>.int .i64 (iV C ns z (k+1) j)) fun j hj=>rfl);have Z1:=qh (P6 gC);have rP:=qh (own_below pC.o gY);have dV:=qh (aR.o.trans (gY.mono qo));have zw:=qh (show∀b,(Value.slice Ao nE co).ownBlock=some b→b<wr.heap.size from fun b hb=>(pC.o.lt b hb).2);have HIG:=qh (eV R8 (n8*6) XN);have zB:=dV.o.size
     simp only[World.size_alloc]at zB
     clear gC PB gY XJ hN1 nT XN hLk k1
     go_wp2_with (at_builtin;go_must (refine cO w8 rfl (.tmp 48) (.tmp 49) _ rfl (w.heap.size+1) 116 j0 _ 6 48 Tryz.underlying42 hj0 jz js jb rfl qo _ _ _ rfl rP.o Ae n8 ce (fun j=>.int .i64 (R8.getD j 0)) rfl Z1.o (fun j=>rfl) qm qo zB ?_);intro v' w' hown' hfr;have CF:=qh hown';have jU:=qh hfr;clear hown' hfr)
     go_roundw
     case rel=>exact⟨k+1,nE+n8,some ⟨ga,0,none⟩,ca,by omega,qg,rfl,qh ((aS _ _ _).fr Nl.o jU.o fun b hb e=>by
      obtain⟨_,a,e2,hb2⟩:=hb;injection e2 with e2;subst e2;have:=zw.o b e
      simp only at hb2
      omega),qh (by
      have h:=CF.o;rw[HIG.o,←aL,←cT.o]at h;exact h),qh (dV.o.trans (jU.o.own rP.o zB))⟩
     case measure=>exact qs
    ·obtain rfl:n=k:=qo
     go_wp2_with fail
     go_ret2
     exact Q2.yes FD.o (by rw[Int.toNat_natCast];exact eU pC.o (Nat.le_succ _)) lP.o
theorem NW (p:Int)(a b:Nat)(s:Int)(w:World)(hp:0≤p∧p≤1000000000)(ha:a≤1000)(hb:b≤1000)(hs:s=1∨s= -1):
 Calls Tryz.prog 216 #[.int .i64 p,.int .i64 a,.int .i64 b,.int .i64 s] w (LF w (b*a) (b*a) (fun j=>.int .i64 ((gV s (bY p a b)).getD j 0))):=by
 obtain⟨i0,hi,iz,is,ib⟩:=info_parts info64;have HS:=qh hs;clear hs
 go_enter Tryz.func216,Tryz.ntmps216
 go_wp2
 go_loopg [9,14] b (fun q v i wr=>∃t:Nat,t≤b∧q+t=b∧i=.int .i64 t∧wr.ownsRow w.heap.size 2 1 v (t*a) (ints (gV s (bY p a t)))∧Below w.heap.size w wr)
 case atStart=>exact⟨0,Nat.zero_le _,rfl,rfl,by rw[Nat.zero_mul];exact World.ownsRow_made _ #[] 0 ql qm rfl,qb⟩
 case round=>
  obtain⟨t,ht,hq,rfl,hown,hbl⟩:=hrel;have HB:=qh hbl;have HOWN:=qh hown;clear hbl hown
  by_cases hlt:t<b
  ·have EN:t*a≤1000000:=Nat.le_trans (Nat.mul_le_mul (show t≤1000 by omega) ha) qo
   have TI:=qh (show(t+1)*a=t*a+a from Nat.succ_mul t a);have HE:=qh (show gV s (bY p a (t+1))=gV s (bY p a t)++gV s (D2 p t a)by simp only[bY,WA]);obtain⟨N,hN⟩:=qx (t*a);rw[←hN]at EN HOWN TI;have tC:=qh hN;clear hN
   go_wp2_with fail
   go_loopg [9,11] a (fun q2 v i wi=>∃(r:Nat) (xs:List Int),r≤a∧q2=r∧i=.int .i64 ((r:Int)-1)∧wi.ownsRow w.heap.size 2 1 v (N+(a-r)) (ints xs)∧Hq (xs++gV s (D2 p t r)=gV s (bY p a (t+1)))∧Below w.heap.size w wi)
   case atStart=>exact⟨a,gV s (bY p a t),Nat.le_refl _,rfl,qg,by rw[Nat.sub_self,Nat.add_zero];exact HOWN.o,qh HE.o.symm,HB.o⟩
   case round=>
    obtain⟨r,xs,hr,hq2,rfl,hown2,HX,BN⟩:=hrel;have HB2:=qh BN;have gP:=qh hown2;clear hown2 BN
    by_cases hr0:0<r
    ·obtain⟨r',rfl⟩:∃r',r=r'+1:=⟨r-1,by omega⟩
     have e1:((r'+1:Nat):Int)-1=(r':Int):=qo;rw[e1];have hV:∃V,V=s*(p+t+r'+1)∧ -2000000000≤V∧V≤2000000000:=⟨_,rfl,by rcases HS.o with h|h<;>rw[h]<;>omega,by rcases HS.o with h|h<;>rw[h]<;>omega⟩;obtain⟨V,hV,hV1,hV2⟩:=hV;have s1:IntKind.i64.wrap (s*(p+t+r'+1))=V:=by rw[←hV];exact IntWalk.i64_in _ qo
     have s2:wrap64 (s*(p+t+r'+1))=V:=(IntWalk.i64_left _).symm.trans s1;have HV:=qh hV;clear hV
     go_wp2_with (at_builtin;go_must (refine bW _ rfl (.tmp 23) (.tmp 32) _ rfl w.heap.size 2 i0 _ 1 8 Tryz.underlying61 hi iz is ib rfl qo u9 (N+(a-(r'+1))) (ints xs) rfl gP.o _ 1 1 _ rfl rfl (by simp[Value.oneCell']) qm qo HB2.o.size ?_);intro v' w' hown' hb';have HOWN':=qh hown';have oC:=qh (HB2.o.trans hb');clear hown' hb')
     exact zP18x9
    ·obtain rfl:r=0:=qo
     exact zP18x8
  ·obtain rfl:b=t:=qo
   exact zP18x5
theorem Py (s:Int)(l:List Int){j:Nat}(hj:j<l.length):(gV s l).getD j 0=s*(l.getD j 0+1):=by
 simp[gV,List.getD,hj]
theorem jw (s:Int)(l:List Int){j:Nat}(hj:j<l.length):bL s (l.take (j+1))=bL s (l.take j)++gH 1 (l.getD j 0) s 0 0 0:=by
 rw[List.take_succ_eq_append_getElem hj,GA]
 simp[bL,List.getD,hj]
theorem rV (p:Int)(a b:Nat)(s:Int)(w:World)(hp:0≤p∧p≤1000000000)(ha:a≤100)(hb:b≤100):
 Calls Tryz.prog 187 #[.int .i64 p,.int .i64 a,.int .i64 b,.int .i64 s] w (Ti w (b*a) (bL s (bY p a b))):=by
 obtain⟨i0,hi,iz,is,ib⟩:=info_parts dQ;have XK:b*a≤10000:=Nat.le_trans (Nat.mul_le_mul hb ha) qo;have F1:=qh (qS p a b);have DL:=qh (fun x hx=>FQ (p:=p) (a:=a) (t:=b) x hx);have HW0:=qh ((Below.refl w.heap.size w).alloc ql (.cells #[] 116));have QB:=qh (World.ownsRow_made (e:=116) (size:=6) w #[] 0 ql qm rfl)
 go_enter Tryz.func187,Tryz.ntmps187
 go_wp2_with fail
 refine(NW p a b 1 _ hp qo qo (.inl rfl)).mono ?_;rintro e w1 ⟨A1,c1,rfl,hc1,hn1⟩;have gJ:=qh hn1;have HB1:=qh (HW0.o.trans (hn1.bl.mono qj));have aT:=qh (own_below QB.o hn1.bl);obtain⟨N,hN⟩:=qx (b*a);rw[←hN]at XK F1 gJ hc1 ⊢;have tC:=qh hN;clear hn1 hN
 go_wp2_with fail
 go_loopw [9,18] (fun v x wr=>∃k:Nat,k≤N∧x=.int .i64 k∧Hq (wr.ownsRow w.heap.size 116 6 v k (ints (bL s ((bY p a b).take k))))∧Hq (Rd wr A1 N (fun j=>.int .i64 ((gV 1 (bY p a b)).getD j 0)))∧Hq (∀q,v.ownBlock=some q→¬Fb A1 N q)∧Hq (∀q,Fb A1 N q→q<wr.heap.size)∧Hq (Below w.heap.size w wr)) (fun _ x _=>N-(intOf x).toNat)
 case atStart=>exact⟨0,Nat.zero_le _,rfl,qh (by simp only[List.take_zero,bL];exact aT.o),qh gJ.o.rd,qh (fun q hq hF=>by
  injection hq with hq;subst hq;obtain⟨_,ad,e,hb⟩:=hF;have h1:=gJ.o.ab ad e;have h2:ad.block=w.heap.size:=hb
  simp only[World.size_alloc]at h1
  omega),qh (fun q ⟨_,ad,e,hb⟩=>hb▸gJ.o.bb ad e),HB1⟩
 case round=>
  obtain⟨k,hk,rfl,aI,HR2,HD2,dB,HB2⟩:=hrel
  by_cases hlt:k<N
  ·obtain⟨g4,o4,rfl,hg4,hr4⟩:=HR2.o qo
   have hkl:k<(bY p a b).length:=by rw[F1.o];exact hlt
   have c4:=hr4 k hlt
   simp only[Py 1 (bY p a b) hkl,Int.one_mul]at c4
   have hxb:=DL.o ((bY p a b).getD k 0) (by simp[List.getD,hkl]);have HT:=qh (jw s (bY p a b) hkl);obtain⟨y,hy⟩:∃y,y=(bY p a b).getD k 0:=⟨_,rfl⟩;rw[←hy]at hxb HT
   simp only[←hy]at c4
   have b1:(0:Int)≤(k:Int):=qo;have b2:(k:Int)<(N:Int):=qo;have e1:y+1-1=y:=qo;have HK4:=qh c4;clear hr4 hy
   go_wp2_with (at_builtin;go_must (refine d5 wr rfl (.tmp 22) (.tmp 27) _ rfl w.heap.size 116 i0 _ 6 48 Tryz.underlying42 hi iz is ib rfl qo u9 k _ rfl aI.o _ 1 1 [.int .i64 1,.int .i64 y,.int .i64 s,.int .i64 0,.int .i64 0,.int .i64 0] rfl rfl (by simp[Value.oneCell']) qm qo HB2.o.size ?_);intro v' w' hown' hf' hat';have cI:=qh hown';have pD:=qh hf';have g7:=qh hat';clear hown' hf' hat')
   go_roundw
   case rel=>exact⟨k+1,by omega,qg,qh (by
    have h:=cI.o;rw[HT.o,aL];exact h),qh ((aS _ _ _).fr HR2.o pD.o fun q hq e=>HD2.o q e hq),qh (fun q hq hF=>by
    rcases g7.o with h|h
    ·exact HD2.o q (h.symm.trans hq) hF
    ·have:=dB.o q hF
     rw[hq]at h;injection h with h;omega),qh (fun q hq=>Nat.lt_of_lt_of_le (dB.o q hq) pD.o.size),qh (HB2.o.trans (pD.o.own aI.o HB2.o.size))⟩
   case measure=>exact qs
  ·obtain rfl:N=k:=qo
   go_wp2
   go_ret
   refine⟨_,rfl,?_,HB2.o⟩;have h:=aI.o;have e:(bY p a b).take N=bY p a b:=by rw[←F1.o,List.take_length]
   rw[e]at h;rw[←tC.o];exact h
end Go.Proofs.YtimlpmbabbbcaaaGreat
