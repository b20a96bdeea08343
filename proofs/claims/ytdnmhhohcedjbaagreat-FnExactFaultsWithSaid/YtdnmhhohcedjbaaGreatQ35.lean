/- Walks and plain lemmas. -/
import Derived.Test.YtdnmhhohcedjbaaGreatQ29
set_option linter.unusedVariables false
set_option linter.unusedSimpArgs false
set_option maxHeartbeats 16000000
set_option maxRecDepth 20000
namespace Go.Proofs.YtdnmhhohcedjbaaGreat
open Go.RowKit
def fN (f k:Int):Bool:=if f=1 then k==4 else if f=2 then(k==1||k==2||k==5)else if f=3 then k==1 else if f=4 then k==7 else false
theorem afy (k:Int):fN 2 k=(k==1||k==2||k==5):=rfl
theorem Yy (k:Int):fN 3 k=(k==1):=rfl
theorem Fg (k:Int):fN 4 k=(k==7):=rfl
theorem Yz {f k:Int}(h1:f≠1)(h2:f≠2)(h3:f≠3)(h4:f≠4):fN f k=false:=by
 unfold fN;rw[if_neg h1,if_neg h2,if_neg h3,if_neg h4]
theorem zQ35x2 {p:Prop}(h:p:=by
 rcases hk with rfl|rfl|rfl|rfl|rfl|rfl|rfl|rfl|rfl
 all_goals
  go_enter Tryz.func38,Tryz.ntmps38
  go_wp2
  go_ret
  exact⟨rfl,rfl⟩):p:=h
theorem qX (f k:Int)(w:World)(h1:1≤k)(h9:k≤9):Calls Tryz.prog 38 #[.int .i64 f,.int .i64 k] w fun e w'=>e=.returned (.bool (fN f k))∧w=w':=by
 have hk:k=1∨k=2∨k=3∨k=4∨k=5∨k=6∨k=7∨k=8∨k=9:=qo;have CJ:=qh (aU k w h1 h9);clear h1 h9
 by_cases f1:f=1
 ·subst f1
  clear CJ
  exact zQ35x2
 ·have f1':(f==1)=false:=by simpa using f1
  by_cases f2:f=2
  ·subst f2
   rcases hk with rfl|rfl|rfl|rfl|rfl|rfl|rfl|rfl|rfl
   all_goals
    go_enter Tryz.func38,Tryz.ntmps38
    go_wp2_with fail
    refine CJ.o.mono ?_;rintro e w1 ⟨rfl,rfl⟩
    go_wp2_with fail
    go_ret
    exact⟨rfl,rfl⟩
  ·have f2':(f==2)=false:=by simpa using f2
   clear CJ
   by_cases f3:f=3
   ·subst f3
    exact zQ35x2
   ·have f3':(f==3)=false:=by simpa using f3
    by_cases f4:f=4
    ·subst f4
     exact zQ35x2
    ·have f4':(f==4)=false:=by simpa using f4
     have HC:=qh (Yz (k:=k) f1 f2 f3 f4);clear f1 f2 f3 f4 hk
     go_enter Tryz.func38,Tryz.ntmps38
     go_wp2
     go_ret
     exact⟨by rw[HC.o];rfl,rfl⟩
theorem zQ35x1 {p:Prop}(h:p:=by
 rcases hk with rfl|rfl|rfl|rfl|rfl|rfl|rfl|rfl|rfl
 all_goals
  go_enter Tryz.func32,Tryz.ntmps32
  go_wp2
  go_ret
  exact⟨rfl,rfl⟩):p:=h
theorem CU (f k:Int)(ga o:Nat)(w:World)(h0:w.cell? ⟨ga,o,none⟩=some (.int .i64 k))(h1:1≤k)(h9:k≤9):Calls Tryz.prog 32 #[.int .i64 f,.pointer (some ⟨ga,o,none⟩)] w fun e w'=>e=.returned (.bool (fN f k))∧w=w':=by
 have hk:k=1∨k=2∨k=3∨k=4∨k=5∨k=6∨k=7∨k=8∨k=9:=qo;clear h1 h9
 by_cases f1:f=1
 ·subst f1
  exact zQ35x1
 ·have f1':(f==1)=false:=by simpa using f1
  by_cases f2:f=2
  ·subst f2
   exact zQ35x1
  ·have f2':(f==2)=false:=by simpa using f2
   by_cases f3:f=3
   ·subst f3
    exact zQ35x1
   ·have f3':(f==3)=false:=by simpa using f3
    by_cases f4:f=4
    ·subst f4
     exact zQ35x1
    ·have f4':(f==4)=false:=by simpa using f4
     have HC:=qh (Yz (k:=k) f1 f2 f3 f4);clear f1 f2 f3 f4 hk
     go_enter Tryz.func32,Tryz.ntmps32
     go_wp2
     go_ret
     exact⟨by rw[HC.o];rfl,rfl⟩
def fK (z:Nat→Int)(i:Nat)(b:List Int):Nat→List Int
 |0=>b
 |f+1=>if fN ((f:Int)+1) (z (i*8))=true then fK z i b f++[(f:Int)+1,(i:Int)]else fK z i b f
def fL (z:Nat→Int):Nat→List Int
 |0=>[]
 |i+1=>fK z i (fL z i) 4
theorem Mt (z:Nat→Int)(i m:Nat)(b:List Int)(h:b.length=2*m):∀f,∃m',(fK z i b f).length=2*m'∧m'≤m+f
 |0=>⟨m,h,Nat.le_refl _⟩
 |f+1=>by
  obtain⟨m',h1,h2⟩:=Mt z i m b h f;unfold fK
  split
  ·exact⟨m'+1,by simp[h1];omega,by omega⟩
  ·exact⟨m',h1,by omega⟩
theorem Ms (z:Nat→Int):∀i,∃m,(fL z i).length=2*m∧m≤4*i
 |0=>⟨0,rfl,Nat.le_refl _⟩
 |i+1=>by
  obtain⟨m,h1,h2⟩:=Ms z i;obtain⟨m',h3,h4⟩:=Mt z i m _ h1 4;exact⟨m',h3,by omega⟩
theorem OD:(Tryz.prog.info? 30).map (fun i=>(i.zero,i.size,i.bytes))=some (some (.agg #[.int .i64 0,.int .i64 0]),2,16):=by kernel_rfl
def FaP (w:World)(L:List Int)(e:Ending)(w':World):Prop:=∃(v:Value) (m:Nat),e=.returned v∧L.length=2*m∧m≤6000∧w'.ownsRow w.heap.size 30 2 v m (ints L)∧Below w.heap.size w w'
section
variable (A:OA)(n q:Nat)(z:Nat→Int)(w:World)
theorem zQ35x3 {p:Prop}(h:p:=by
 have HN:Hq (L'=fL z (i+1)):=qh (by rw[ZI.o,HL.o];rfl)
 go_wp2_with fail
 go_roundw
 case rel=>exact⟨i+1,m',L',dC.o,qg,HN.o,FM.o,by omega,HOWN'.o,EA.o⟩
 case measure=>exact qs):p:=h
theorem zQ35x4 {p:Prop}(h:p:=by
 obtain⟨A',c',rfl⟩:=aF HOWN.o
 go_wp2_with fail
 go_ret
 exact⟨_,m,rfl,by rw[←HL.o];exact HLEN.o,by omega,by rw[←HL.o];exact HOWN.o,HB.o⟩):p:=h
theorem U9 (ha:Rd w A (n*8) (fun j=>.int .i64 (z j)))(hn:n≤1500)(hk:∀i,i<n→1≤z (i*8)∧z (i*8)≤9):Calls Tryz.prog 50 #[.slice A n q] w (FaP w (fL z n)):=by
 obtain⟨i0,hi,iz,is,ib⟩:=info_parts OD;have HA:=qh ha;have HKK:=qh hk;have H0:Hq ((w.alloc (.cells #[] 30)).ownsRow w.heap.size 30 2 (.slice (some ⟨w.heap.size,0,none⟩) 0 0) 0 (ints (fL z 0))):=qh (oA w [] 0 ql (Nat.zero_le _) rfl);clear ha hk
 go_enter Tryz.func50,Tryz.ntmps50
 go_wp2_with fail
 go_loopw [3,4,5] (fun ov iv _ wr=>∃(i m:Nat) (L:List Int),i≤n∧iv=.int .i64 i∧L=fL z i∧L.length=2*m∧m≤4*i∧wr.ownsRow w.heap.size 30 2 ov m (ints L)∧Below w.heap.size w wr) (fun _ iv _ _=>n-(intOf iv).toNat)
 case atStart=>exact⟨0,0,_,Nat.zero_le _,rfl,rfl,rfl,Nat.le_refl _,H0.o,qb⟩
 case round=>
  obtain⟨i,m,L,hile,rfl,hL,hlen,hmi,hown,hb⟩:=hrel;have HL:=qh hL;have HOWN:=qh hown;have HB:=qh hb;have HLEN:=qh hlen;clear hL hown hb hlen
  by_cases hlt:i<n
  ·have dC:=qh hlt
   obtain⟨ga,o,rfl,hga,hra⟩:=HA.o qo;have HO:Hq (∀w',Below w.heap.size w w'→w'.cell? ⟨ga,o+i*8,none⟩=some (.int .i64 (z (i*8)))):=qh fun w' hb=>((aA hb).1 ga _ hga).trans (hra (i*8) qo);have hk1:=(HKK.o i hlt).1;have zQ:=(HKK.o i hlt).2;obtain⟨k,hk⟩:=qx (z (i*8));rw[←hk]at HO hk1 zQ;have HK:=qh hk;have Ag:=qh hk1;have Ae:=qh zQ;clear hra hga hk hk1 zQ
   go_wp2_with fail
   go_loopw [3,5] (fun ov fv wx=>∃(f m':Nat) (L':List Int),f≤4∧fv=.int .i64 ((f:Int)+1)∧L'=fK z i L f∧L'.length=2*m'∧m'≤m+f∧wx.ownsRow w.heap.size 30 2 ov m' (ints L')∧Below w.heap.size w wx) (fun _ fv _=>5-(intOf fv).toNat)
   case atStart=>exact⟨0,m,L,Nat.zero_le _,rfl,rfl,HLEN.o,Nat.le_refl _,HOWN.o,HB.o⟩
   case round=>
    obtain⟨f,m',L',hf,rfl,hL',hlen',hm',hown',hb'⟩:=hrel;have ZI:=qh hL';have HOWN':=qh hown';have EA:=qh hb';have FM:=qh hlen';clear hL' hown' hb' hlen'
    by_cases fW:f<4
    ·have e0:=HO.o _ EA.o
     have hkk:=CU ((f:Int)+1) k ga (o+i*8) _ e0 Ag.o Ae.o
     cases hc:fN ((f:Int)+1) k
     ·rw[hc]at hkk
      have HN:Hq (fK z i L (f+1)=L'):=qh ((show fK z i L (f+1)=if fN ((f:Int)+1) (z (i*8))=true then fK z i L f++[(f:Int)+1,(i:Int)]else fK z i L f from rfl).trans (by rw[←HK.o,hc,if_neg (by decide),ZI.o]));have ZJ:=qh hkk;clear hkk e0 hc
      go_wp2_with fail
      refine ZJ.o.mono ?_;rintro e w1 ⟨rfl,rfl⟩
      go_wp2_with fail
      go_roundw
      case rel=>exact⟨f+1,m',L',fW,qg,HN.o.symm,FM.o,by omega,HOWN'.o,EA.o⟩
      case measure=>exact qs
     ·rw[hc]at hkk
      have HN:Hq (fK z i L (f+1)=L'++[(f:Int)+1,(i:Int)]):=qh ((show fK z i L (f+1)=if fN ((f:Int)+1) (z (i*8))=true then fK z i L f++[(f:Int)+1,(i:Int)]else fK z i L f from rfl).trans (by rw[←HK.o,hc,if_pos rfl,ZI.o]));have ZJ:=qh hkk;clear hkk e0 hc
      go_wp2_with fail
      refine ZJ.o.mono ?_;rintro e w1 ⟨rfl,rfl⟩;obtain⟨Ao,co,rfl⟩:=aF HOWN'.o
      go_wp2_with (at_builtin;go_must (refine bV _ rfl (.tmp 22) (.tmp 26) _ rfl w.heap.size 30 i0 _ 2 16 Tryz.underlying41 hi iz is ib rfl qo (.slice Ao m' co) m' _ (by rfl) HOWN'.o _ 1 1 (ints [(f:Int)+1,(i:Int)]) rfl rfl (iP _) qm qo EA.o.size ?_);intro v' w' hown' hb';rw[←aT]at hown';have f9:=qh hown';have HB2:=qh (EA.o.trans hb');clear hown' hb')
      go_wp2_with fail
      go_roundw
      case rel=>exact⟨f+1,m'+1,L'++[(f:Int)+1,(i:Int)],fW,qg,HN.o.symm,by have:=FM.o;simp;omega,by omega,f9.o,HB2.o⟩
      case measure=>exact qs
    ·obtain rfl:f=4:=qo
     exact zQ35x3
  ·obtain rfl:i=n:=qo
   exact zQ35x4
theorem XS (ha:Rd w A (n*8) (fun j=>.int .i64 (z j)))(hn:n≤1500)(hk:∀i,i<n→1≤z (i*8)∧z (i*8)≤9):Calls Tryz.prog 79 #[.slice A n q] w (FaP w (fL z n)):=by
 obtain⟨i0,hi,iz,is,ib⟩:=info_parts OD;have HA:=qh ha;have HKK:=qh hk;have H0:Hq ((w.alloc (.cells #[] 30)).ownsRow w.heap.size 30 2 (.slice (some ⟨w.heap.size,0,none⟩) 0 0) 0 (ints (fL z 0))):=qh (oA w [] 0 ql (Nat.zero_le _) rfl);clear ha hk
 go_enter Tryz.func79,Tryz.ntmps79
 go_wp2_with fail
 go_loopw [3,10] (fun ov iv wr=>∃(i m:Nat) (L:List Int),i≤n∧iv=.int .i64 i∧L=fL z i∧L.length=2*m∧m≤4*i∧wr.ownsRow w.heap.size 30 2 ov m (ints L)∧Below w.heap.size w wr) (fun _ iv _=>n-(intOf iv).toNat)
 case atStart=>exact⟨0,0,_,Nat.zero_le _,rfl,rfl,rfl,Nat.le_refl _,H0.o,qb⟩
 case round=>
  obtain⟨i,m,L,hile,rfl,hL,hlen,hmi,hown,hb⟩:=hrel;have HL:=qh hL;have HOWN:=qh hown;have HB:=qh hb;have HLEN:=qh hlen;clear hL hown hb hlen
  by_cases hlt:i<n
  ·have dC:=qh hlt
   obtain⟨ga,o,rfl,hga,hra⟩:=HA.o qo;have hce:=lR (hra.below hga HB.o) hlt;have hk1:=(HKK.o i hlt).1;have zQ:=(HKK.o i hlt).2;obtain⟨k,hx0⟩:=qx (z (i*8));obtain⟨d,hx1⟩:=qx (z (i*8+1));obtain⟨fb,hx2⟩:=qx (z (i*8+2));obtain⟨fa,hx3⟩:=qx (z (i*8+3));obtain⟨tb,hx4⟩:=qx (z (i*8+4));obtain⟨ta,hx5⟩:=qx (z (i*8+5));obtain⟨c,hx6⟩:=qx (z (i*8+6));obtain⟨r,hx7⟩:=qx (z (i*8+7));rw[←hx0]at hk1 zQ;rw[←hx0,←hx1,←hx2,←hx3,←hx4,←hx5,←hx6,←hx7]at hce;have HK:=qh hx0;have Ag:=qh hk1;have Ae:=qh zQ;have o0:=hce.c0;have o1:=hce.c1;have o2:=hce.c2;have o3:=hce.c3;have o4:=hce.c4;have o5:=hce.c5;have o6:=hce.c6;have o7:=hce.c7;clear hra hga hx0 hx1 hx2 hx3 hx4 hx5 hx6 hx7 hk1 zQ hce
   go_upto_region 5 with(fail)
   obtain⟨W1,hW1⟩:=qx (wr.alloc (.cells #[.int .i64 k,.int .i64 d,.int .i64 fb,.int .i64 fa,.int .i64 tb,.int .i64 ta,.int .i64 c,.int .i64 r] 67));rw[←hW1];obtain⟨bx,hbx⟩:=qx (wr.heap.size);rw[←hbx];obtain⟨AO,cO,rfl⟩:=aF HOWN.o;have hb1:Below wr.heap.size wr W1:=hW1▸qb;have bA:Hq (aB W1 bx 67 #[.int .i64 k,.int .i64 d,.int .i64 fb,.int .i64 fa,.int .i64 tb,.int .i64 ta,.int .i64 c,.int .i64 r]):=qh (hW1▸aB.at_ _ _ _ hbx);have CI:=qh (own_below HOWN.o hb1);have HB1:=HB.st hb1;have mE:Hq (∀b,(Value.slice AO m cO).ownBlock=some b→b≠bx):=qh fun b hb=>by have:=(HOWN.o.lt b hb).2;omega
   clear hb1 hW1 hbx o0 o1 o2 o3 o4 o5 o6 o7
   go_wp2_with fail
   go_loopw [3,6] (fun ov fv wx=>∃(f m':Nat) (L':List Int),f≤4∧fv=.int .i64 ((f:Int)+1)∧L'=fK z i L f∧L'.length=2*m'∧m'≤m+f∧wx.ownsRow w.heap.size 30 2 ov m' (ints L')∧(∀b,ov.ownBlock=some b→b≠bx)∧aB wx bx 67 #[.int .i64 k,.int .i64 d,.int .i64 fb,.int .i64 fa,.int .i64 tb,.int .i64 ta,.int .i64 c,.int .i64 r]∧Below w.heap.size w wx) (fun _ fv _=>5-(intOf fv).toNat)
   case atStart=>exact⟨0,m,L,Nat.zero_le _,rfl,rfl,HLEN.o,Nat.le_refl _,CI.o,mE.o,bA.o,HB1.o⟩
   case round=>
    obtain⟨f,m',L',hf,rfl,hL',hlen',hm',hown',hne',adb,hb'⟩:=hrel;have ZI:=qh hL';have HOWN':=qh hown';have EA:=qh hb';have FM:=qh hlen';have Uu:=qh hne';have Gh:=qh adb;clear hL' hown' hb' hlen' hne' adb
    by_cases fW:f<4
    ·have e0:=Gh.o.cell 0
     replace e0:=(show _=some (Value.int .i64 k)from e0);have hkk:=fun w0:World=>qX ((f:Int)+1) k w0 Ag.o Ae.o
     cases hc:fN ((f:Int)+1) k
     ·rw[hc]at hkk
      have HN:Hq (fK z i L (f+1)=L'):=qh ((show fK z i L (f+1)=if fN ((f:Int)+1) (z (i*8))=true then fK z i L f++[(f:Int)+1,(i:Int)]else fK z i L f from rfl).trans (by rw[←HK.o,hc,if_neg (by decide),ZI.o]));have ZJ:=qh hkk;clear hkk hc
      go_wp2_with fail
      refine(ZJ.o _).mono ?_;rintro e w1 ⟨rfl,rfl⟩
      go_wp2_with fail
      go_roundw
      case rel=>exact⟨f+1,m',L',fW,qg,HN.o.symm,FM.o,by omega,HOWN'.o,Uu.o,Gh.o,EA.o⟩
      case measure=>exact qs
     ·rw[hc]at hkk
      have HN:Hq (fK z i L (f+1)=L'++[(f:Int)+1,(i:Int)]):=qh ((show fK z i L (f+1)=if fN ((f:Int)+1) (z (i*8))=true then fK z i L f++[(f:Int)+1,(i:Int)]else fK z i L f from rfl).trans (by rw[←HK.o,hc,if_pos rfl,ZI.o]));have ZJ:=qh hkk;clear hkk hc
      go_wp2_with fail
      refine(ZJ.o _).mono ?_;rintro e w1 ⟨rfl,rfl⟩;obtain⟨Ao,co,rfl⟩:=aF HOWN'.o
      go_wp2_with (at_builtin;go_must (refine cB _ rfl (.tmp 23) (.tmp 27) _ rfl w.heap.size 30 i0 _ 2 16 Tryz.underlying41 hi iz is ib rfl qo (.slice Ao m' co) m' _ (by rfl) HOWN'.o _ 1 1 (ints [(f:Int)+1,(i:Int)]) rfl rfl (iP _) qm qo EA.o.size ?_);intro v' w' hown' zS hat';have HB2:=qh (EA.o.trans (zS.own HOWN'.o EA.o.size));have aiJ:=qh (Gh.o.fr zS (fun e=>Uu.o _ e rfl));have ail:Hq (∀b,v'.ownBlock=some b→b≠bx):=qh (fun b hb=>by rcases hat' with h|h;exact Uu.o b (h.symm.trans hb);have h1:=Option.some.inj (hb.symm.trans h);have h2:=Gh.o.lt;omega);rw[←aT]at hown';have f9:=qh hown';clear hown' zS hat')
      go_wp2_with fail
      go_roundw
      case rel=>exact⟨f+1,m'+1,L'++[(f:Int)+1,(i:Int)],fW,qg,HN.o.symm,by have:=FM.o;simp;omega,by omega,f9.o,ail.o,aiJ.o,HB2.o⟩
      case measure=>exact qs
    ·obtain rfl:f=4:=qo
     exact zQ35x3
  ·obtain rfl:i=n:=qo
   exact zQ35x4
end
def qA (y:Nat→Int)(j:Nat):List Int:=[y (j*8),y (j*8+1),y (j*8+2),y (j*8+3),y (j*8+4),y (j*8+5),y (j*8+6),y (j*8+7)]
def opsL (y:Nat→Int):Nat→List Int
 |0=>[]
 |j+1=>opsL y j++qA y j
def eT (p:aI×List Int)(y:Nat→Int)(j:Nat):aI×List Int:=if kC p.1 y j=0 then(kS p.1 y j,p.2++qA y j)else p
def dQ (y:Nat→Int)(p:aI×List Int):Nat→aI×List Int
 |0=>p
 |j+1=>eT (dQ y p j) y j
def sU (fb fa:Int):List Int:=[6,0,fb,fa,0,0,0,0]
def rF (d fb fa c:Int):List Int:=[3,d,fb,fa,0,0,c,0]
def newR (r:Int):Int:=if r<3 then r+1 else r-1
def BQ (r:Int):List Int:=[7,0,0,0,0,0,0,newR r]
def xP (s:aI)(z:Nat→Int)(i:Nat)(f:Int):List Int:=
 if f=2 then qA z i++sU (z (i*8+2)) (z (i*8+3))
 else if f=3 then(if aM s (z (i*8+2)) (z (i*8+3))=0 then rF (z (i*8+1)) (z (i*8+2)) (z (i*8+3)) (z (i*8+6))else sU (z (i*8+2)) (z (i*8+3))++rF (z (i*8+1)) (z (i*8+2)) (z (i*8+3)) (z (i*8+6)))
 else if f=4 then BQ (z (i*8+7))else []
def fM (s:aI)(z:Nat→Int)(i:Nat)(f:Int):Nat:=
 if f=2 then 2 else if f=3 then(if aM s (z (i*8+2)) (z (i*8+3))=0 then 1 else 2)else if f=4 then 1 else 0
def fT (s:aI)(z:Nat→Int)(i:Nat)(f:Int)(t:Nat):Int:=(xP s z i f).getD t 0
theorem Sb (s:aI)(z:Nat→Int)(i:Nat)(f:Int):(xP s z i f).length=8*fM s z i f:=by
 unfold xP fM
 by_cases h2:f=2
 ·rw[if_pos h2,if_pos h2];rfl
 ·rw[if_neg h2,if_neg h2]
  by_cases h3:f=3
  ·rw[if_pos h3,if_pos h3]
   by_cases h:aM s (z (i*8+2)) (z (i*8+3))=0
   ·rw[if_pos h,if_pos h];rfl
   ·rw[if_neg h,if_neg h];rfl
  ·rw[if_neg h3,if_neg h3]
   by_cases h4:f=4
   ·rw[if_pos h4,if_pos h4];rfl
   ·rw[if_neg h4,if_neg h4];rfl
theorem JV (s:aI)(z:Nat→Int)(i:Nat)(f:Int):fM s z i f≤2:=by
 unfold fM
 split
 ·omega
 ·split
  ·split<;>omega
  ·split<;>omega
theorem W5 {W:Nat}{z y:Nat→Int}{i j:Nat}(h:dR W z i=true)(hk:z (i*8)=1∨z (i*8)=2∨z (i*8)=5)(h0:y (j*8)=6)(h1:y (j*8+1)=0)(h2:y (j*8+2)=z (i*8+2))(h3:y (j*8+3)=z (i*8+3))(h4:y (j*8+4)=0)(h5:y (j*8+5)=0)(h6:y (j*8+6)=0)(h7:y (j*8+7)=0):dR W y j=true:=by
 unfold dR at h ⊢;rw[h0,h1,h2,h3,h4,h5,h6,h7];generalize z (i*8+2)=fb at*;generalize z (i*8+3)=fa at*;generalize z (i*8+1)=d at*;generalize z (i*8+4)=tb at*;generalize z (i*8+5)=ta at*;generalize z (i*8+6)=c at*;generalize z (i*8+7)=r at*;generalize z (i*8)=k at*
 rcases hk with rfl|rfl|rfl
 all_goals
  simp[aW,kG,aK,kA]at h ⊢
  omega
theorem W4 {W:Nat}{z y:Nat→Int}{i j:Nat}(h:dR W z i=true)(hk:z (i*8)=1)(h0:y (j*8)=3)(h1:y (j*8+1)=z (i*8+1))(h2:y (j*8+2)=z (i*8+2))(h3:y (j*8+3)=z (i*8+3))(h4:y (j*8+4)=0)(h5:y (j*8+5)=0)(h6:y (j*8+6)=z (i*8+6))(h7:y (j*8+7)=0):dR W y j=true:=by
 unfold dR at h ⊢;rw[h0,h1,h2,h3,h4,h5,h6,h7];rw[hk]at h;generalize z (i*8+2)=fb at*;generalize z (i*8+3)=fa at*;generalize z (i*8+1)=d at*;generalize z (i*8+4)=tb at*;generalize z (i*8+5)=ta at*;generalize z (i*8+6)=c at*;generalize z (i*8+7)=r at*
 simp[aW,kG,aK,kA]at h ⊢
 omega
theorem Rc {W:Nat}{z y:Nat→Int}{i j:Nat}(hW:1≤W)(h:dR W z i=true)(hk:z (i*8)=7)(h0:y (j*8)=7)(h1:y (j*8+1)=0)(h2:y (j*8+2)=0)(h3:y (j*8+3)=0)(h4:y (j*8+4)=0)(h5:y (j*8+5)=0)(h6:y (j*8+6)=0)(h7:y (j*8+7)=newR (z (i*8+7))):dR W y j=true:=by
 unfold dR at h ⊢;rw[h0,h1,h2,h3,h4,h5,h6,h7];rw[hk]at h;unfold newR;generalize z (i*8+2)=fb at*;generalize z (i*8+3)=fa at*;generalize z (i*8+1)=d at*;generalize z (i*8+4)=tb at*;generalize z (i*8+5)=ta at*;generalize z (i*8+6)=c at*;generalize z (i*8+7)=r at*
 simp[aW,kG,aK,kA]at h ⊢
 by_cases hr:r<3
 ·rw[if_pos hr];omega
 ·rw[if_neg hr];omega
theorem tV {W:Nat}{z y:Nat→Int}{i j:Nat}(h:dR W z i=true)(he:∀t,t<8→y (j*8+t)=z (i*8+t)):dR W y j=true:=by
 have h0:=he 0 qo;rw[Nat.add_zero,Nat.add_zero]at h0;unfold dR at h ⊢;rw[h0,he 1 qo,he 2 qo,he 3 qo,he 4 qo,he 5 qo,he 6 qo,he 7 qo];exact h
theorem OB {W:Nat}{s:aI}{z:Nat→Int}{i j:Nat}{f:Int}(hW:1≤W)(h:dR W z i=true)(hc:fN f (z (i*8))=true)(hj:j<fM s z i f):dR W (fT s z i f) j=true:=by
 by_cases h2:f=2
 ·subst h2
  have hk:z (i*8)=1∨z (i*8)=2∨z (i*8)=5:=by
   rw[afy]at hc
   simpa [or_assoc]using hc
  have hj':j=0∨j=1:=by have:=JV s z i 2;omega
  rcases hj' with rfl|rfl
  ·refine tV h fun t ht=>?_
   have h8:t=0∨t=1∨t=2∨t=3∨t=4∨t=5∨t=6∨t=7:=qo
   rcases h8 with rfl|rfl|rfl|rfl|rfl|rfl|rfl|rfl<;>rfl
  ·exact W5 h hk rfl rfl rfl rfl rfl rfl rfl rfl
 ·by_cases h3:f=3
  ·subst h3
   have hk:z (i*8)=1:=by rw[Yy]at hc;simpa using hc
   have hL:xP s z i 3=(if aM s (z (i*8+2)) (z (i*8+3))=0 then rF (z (i*8+1)) (z (i*8+2)) (z (i*8+3)) (z (i*8+6))else sU (z (i*8+2)) (z (i*8+3))++rF (z (i*8+1)) (z (i*8+2)) (z (i*8+3)) (z (i*8+6))):=rfl;have hN:fM s z i 3=(if aM s (z (i*8+2)) (z (i*8+3))=0 then 1 else 2):=rfl
   by_cases hl:aM s (z (i*8+2)) (z (i*8+3))=0
   ·rw[if_pos hl]at hL hN
    obtain rfl:j=0:=qo;exact W4 h hk (by unfold fT;rw[hL];rfl) (by unfold fT;rw[hL];rfl) (by unfold fT;rw[hL];rfl) (by unfold fT;rw[hL];rfl) (by unfold fT;rw[hL];rfl) (by unfold fT;rw[hL];rfl) (by unfold fT;rw[hL];rfl) (by unfold fT;rw[hL];rfl)
   ·rw[if_neg hl]at hL hN
    have hj':j=0∨j=1:=qo
    rcases hj' with rfl|rfl
    ·exact W5 h (.inl hk) (by unfold fT;rw[hL];rfl) (by unfold fT;rw[hL];rfl) (by unfold fT;rw[hL];rfl) (by unfold fT;rw[hL];rfl) (by unfold fT;rw[hL];rfl) (by unfold fT;rw[hL];rfl) (by unfold fT;rw[hL];rfl) (by unfold fT;rw[hL];rfl)
    ·exact W4 h hk (by unfold fT;rw[hL];rfl) (by unfold fT;rw[hL];rfl) (by unfold fT;rw[hL];rfl) (by unfold fT;rw[hL];rfl) (by unfold fT;rw[hL];rfl) (by unfold fT;rw[hL];rfl) (by unfold fT;rw[hL];rfl) (by unfold fT;rw[hL];rfl)
  ·by_cases h4:f=4
   ·subst h4
    have hk:z (i*8)=7:=by rw[Fg]at hc;simpa using hc
    obtain rfl:j=0:=by have:fM s z i 4=1:=rfl;omega
    exact Rc hW h hk rfl rfl rfl rfl rfl rfl rfl rfl
   ·have:fM s z i f=0:=by unfold fM;rw[if_neg h2,if_neg h3,if_neg h4]
    omega
def eU (W:Nat)(z:Nat→Int)(f:Int)(At:Nat):Nat→aI×List Int
 |0=>(jC W,[])
 |i+1=>if i=At then dQ (fT (eU W z f At i).1 z i f) (eU W z f At i) (fM (eU W z f At i).1 z i f)else eT (eU W z f At i) z i
structure IT (W:Nat)(D m:Nat)(p:aI×List Int):Prop where
 w:p.1.W=W
 o:bW p.1 D
 l:∃k,p.2.length=8*k∧k≤m
theorem V3 {W D m:Nat}{p:aI×List Int}{y:Nat→Int}{j:Nat}(hW:1≤W)(h:IT W D m p)(hp:dR W y j=true):IT W (D+4) (m+1) (eT p y j):=by
 obtain⟨k,hk,hkm⟩:=h.l;unfold eT
 split
 ·have hq:=gC hW hp
  rw[←h.w]at hq;exact⟨(Nk _ _ _ _ _ _ _ _ _).trans h.w,yg h.o hq ‹_›,k+1,by simp[qA,hk];omega,by omega⟩
 ·exact⟨h.w,{h.o with db:=Nat.le_trans h.o.db (Nat.le_add_right _ _)},k,hk,by omega⟩
theorem DC {W D m:Nat}{p:aI×List Int}{y:Nat→Int}(hW:1≤W)(h:IT W D m p):∀K,(∀j,j<K→dR W y j=true)→IT W (D+4*K) (m+K) (dQ y p K)
 |0,_=>h
 |K+1,hp=>by
  have h1:=V3 (j:=K) hW (DC hW h K fun j hj=>hp j qo) (hp K qo);exact⟨h1.w,{h1.o with db:=Nat.le_trans h1.o.db qo},by obtain⟨k,h2,h3⟩:=h1.l;exact⟨k,h2,by omega⟩⟩
theorem IT.more {W D m D' m':Nat}{p:aI×List Int}(h:IT W D m p)(hD:D≤D')(hm:m≤m'):IT W D' m' p:=
 ⟨h.w,{h.o with db:=Nat.le_trans h.o.db hD},by obtain⟨k,h2,h3⟩:=h.l;exact⟨k,h2,by omega⟩⟩
theorem XN {W:Nat}{z:Nat→Int}{f:Int}{At:Nat}(h1:1≤W)(h2:W≤24):∀i,(∀j,j<i→dR W z j=true)→(At<i→fN f (z (At*8))=true)→IT W (8*i) (2*i) (eU W z f At i)
 |0,_,_=>⟨rfl,zI (z:=z) h1 h2 0 (fun _ h=>absurd h (Nat.not_lt_zero _)) fun _ h=>absurd h (Nat.not_lt_zero _),0,rfl,Nat.le_refl _⟩
 |i+1,hp,hc=>by
  have h:=XN (f:=f) (At:=At) h1 h2 i (fun j hj=>hp j qo) fun hi=>hc qo;unfold eU
  by_cases hi:i=At
  ·rw[if_pos hi]
   have hN:=JV (eU W z f At i).1 z i f;exact(DC h1 h _ fun j hj=>OB h1 (hp i qo) (by rw[hi];exact hc qo) hj).more qo qo
  ·rw[if_neg hi]
   exact(V3 h1 h (hp i qo)).more qo qo
theorem OR {W:Nat}{z:Nat→Int}{f:Int}{At:Nat}:∀i,i≤At→mV W z i→eU W z f At i=(bB W z i,opsL z i)
 |0,_,_=>rfl
 |i+1,hi,hok=>by
  have h:=OR (f:=f) (At:=At) i qo fun j hj=>hok j qo;unfold eU;rw[if_neg qo,h];unfold eT;rw[if_pos (hok i qo)]
  rfl
theorem VZ (y:Nat→Int):∀j,(opsL y j).length=8*j
 |0=>rfl
 |j+1=>by
  have:=VZ y j
  simp[opsL,qA,this]
  omega
def xR (w:World)(L:List Int)(K:Nat)(e:Ending)(w':World):Prop:=∃v,e=.returned v∧w'.ownsRow w.heap.size 67 8 v K (ints L)∧Below w.heap.size w w'
section
variable {tg:Nat→Nat}{a:bC}{s:aI}{D:Nat}{w:World}
abbrev opC (k d fb fa tb ta c r:Int):Array Value:=#[.int .i64 k,.int .i64 d,.int .i64 fb,.int .i64 fa,.int .i64 tb,.int .i64 ta,.int .i64 c,.int .i64 r]
structure In3 (w Wc:World)(k d fb fa tb ta c r:Int):Prop where
 x:aB Wc w.heap.size 67 (opC k d fb fa tb ta c r)
 o:Wc.ownsRow w.heap.size 67 8 (.slice (some ⟨w.heap.size+1,0,none⟩) 0 0) 0 []
 y:aB Wc (w.heap.size+1+1) 67 (opC 6 0 fb fa 0 0 0 0)
 b:Below w.heap.size w Wc
theorem Yg (w:World)(k d fb fa tb ta c r:Int):In3 w (((w.alloc (.cells (opC k d fb fa tb ta c r) 67)).alloc (.cells #[] 67)).alloc (.cells (opC 6 0 fb fa 0 0 0 0) 67)) k d fb fa tb ta c r:=by
 have h:=World.ownsRow_made (e:=67) (size:=8) (w.alloc (.cells (opC k d fb fa tb ta c r) 67)) #[] 0 ql qm rfl;rw[World.size_alloc]at h;exact⟨((aB.at_ _ _ _ rfl).alloc _).alloc _,(eF h (Nat.le_succ _)).alloc _,aB.at_ _ _ _ qj,((qb).alloc qj _).alloc (by simp;omega) _⟩
theorem aaX (k d fb fa tb ta c r f:Int)(h2:f≠2)(h3:f≠3)(h4:f≠4):Calls Tryz.prog 92 #[.pointer (some ⟨a.g,0,none⟩),.agg (opC k d fb fa tb ta c r),.int .i64 f] w (xR w [] 0):=by
 have h2':(f==2)=false:=by simpa using h2
 have h3':(f==3)=false:=by simpa using h3
 have h4':(f==4)=false:=by simpa using h4
 have H3:=qh (Yg w k d fb fa tb ta c r);clear h2 h3 h4
 go_enter Tryz.func92,Tryz.ntmps92
 go_upto_region 3 with(fail)
 obtain⟨Wc,hWc⟩:∃x,x=((w.alloc (.cells (opC k d fb fa tb ta c r) 67)).alloc (.cells #[] 67)).alloc (.cells (opC 6 0 fb fa 0 0 0 0) 67):=⟨_,rfl⟩;rw[←hWc]at H3 ⊢;clear hWc
 go_wp2_with fail
 go_ret
 exact⟨_,rfl,H3.o.o,H3.o.b⟩
theorem aaW (k d fb fa tb ta c r:Int):Calls Tryz.prog 92 #[.pointer (some ⟨a.g,0,none⟩),.agg (opC k d fb fa tb ta c r),.int .i64 2] w (xR w ([k,d,fb,fa,tb,ta,c,r]++sU fb fa) 2):=by
 obtain⟨i0,hi,iz,is,ib⟩:=info_parts wK;have H3:=qh (Yg w k d fb fa tb ta c r)
 go_enter Tryz.func92,Tryz.ntmps92
 go_upto_region 3 with(fail)
 obtain⟨Wc,hWc⟩:∃x,x=((w.alloc (.cells (opC k d fb fa tb ta c r) 67)).alloc (.cells #[] 67)).alloc (.cells (opC 6 0 fb fa 0 0 0 0) 67):=⟨_,rfl⟩;rw[←hWc]at H3 ⊢;clear hWc;have x0:=(show _=some (Value.int .i64 k)from H3.o.x.cell 0);have x1:=(show _=some (Value.int .i64 d)from H3.o.x.cell 1);have x2:=(show _=some (Value.int .i64 fb)from H3.o.x.cell 2);have x3:=(show _=some (Value.int .i64 fa)from H3.o.x.cell 3);have x4:=(show _=some (Value.int .i64 tb)from H3.o.x.cell 4);have x5:=(show _=some (Value.int .i64 ta)from H3.o.x.cell 5);have x6:=(show _=some (Value.int .i64 c)from H3.o.x.cell 6);have x7:=(show _=some (Value.int .i64 r)from H3.o.x.cell 7);have y0:=(show _=some (Value.int .i64 6)from H3.o.y.cell 0);have y1:=(show _=some (Value.int .i64 0)from H3.o.y.cell 1);have y2:=(show _=some (Value.int .i64 fb)from H3.o.y.cell 2);have y3:=(show _=some (Value.int .i64 fa)from H3.o.y.cell 3);have y4:=(show _=some (Value.int .i64 0)from H3.o.y.cell 4);have y5:=(show _=some (Value.int .i64 0)from H3.o.y.cell 5);have y6:=(show _=some (Value.int .i64 0)from H3.o.y.cell 6);have y7:=(show _=some (Value.int .i64 0)from H3.o.y.cell 7)
 go_wp2_with (at_builtin;go_must (refine bV Wc rfl (.tmp 16) (.tmp 19) _ rfl w.heap.size 67 i0 _ 8 64 Tryz.underlying28 hi iz is ib rfl qo (.slice (some ⟨w.heap.size+1,0,none⟩) 0 0) 0 [] (by rfl) H3.o.o _ 2 2 (ints ([k,d,fb,fa,tb,ta,c,r]++sU fb fa)) rfl rfl (iP _) qm qo H3.o.b.size ?_);intro v' w' hown' hb';rw[Nat.zero_add,List.nil_append]at hown';have HOWN:=qh hown';have HB:=qh (H3.o.b.trans hb');clear hown' hb')
 go_wp2_with fail
 go_ret
 exact⟨_,rfl,HOWN.o,HB.o⟩
theorem aaV (H:Mem tg a s w)(k d fb fa tb ta c r:Int)(ha0:0≤fa)(ha1:fa<s.W):Calls Tryz.prog 92 #[.pointer (some ⟨a.g,0,none⟩),.agg (opC k d fb fa tb ta c r),.int .i64 3] w (xR w (if aM s fb fa=0 then rF d fb fa c else sU fb fa++rF d fb fa c) (if aM s fb fa=0 then 1 else 2)):=by
 obtain⟨i0,hi,iz,is,ib⟩:=info_parts wK;have H3:=qh (Yg w k d fb fa tb ta c r);have HM:=qh H;obtain⟨Al,cl,hal⟩:=(H.lU (b:=fb) ha0 ha1).form;have iX:=qh hal;obtain⟨ln,hln⟩:=qx (aM s fb fa);rw[←hln]at iX ⊢;clear H hal hln
 by_cases h0:ln=0
 ·rw[if_pos h0,if_pos h0]
  subst h0
  go_enter Tryz.func92,Tryz.ntmps92
  go_upto_region 3 with(fail)
  obtain⟨Wc,hWc⟩:∃x,x=((w.alloc (.cells (opC k d fb fa tb ta c r) 67)).alloc (.cells #[] 67)).alloc (.cells (opC 6 0 fb fa 0 0 0 0) 67):=⟨_,rfl⟩;rw[←hWc]at H3 ⊢;clear hWc;have x2:=(show _=some (Value.int .i64 fb)from H3.o.x.cell 2);have x3:Wc.cell? ⟨w.heap.size,2+1,none⟩=some (Value.int .i64 fa):=H3.o.x.cell 3;have hon:=pA fb fa Wc (HM.o.below H3.o.b) ha0 ha1;rw[iX.o]at hon;have gV:=qh hon;clear hon
  go_wp2_with fail
  refine gV.o.mono ?_;rintro e Wd ⟨rfl,hbd⟩;have hx:=H3.o.x.below hbd H3.o.x.lt;have hy:=H3.o.y.below hbd H3.o.y.lt;have HX:=qh hx;have HY:=qh hy;have HO:=qh (own_below H3.o.o hbd);have HB:=qh (H3.o.b.trans (hbd.mono H3.o.b.size));clear hbd x2 x3;have z1:=(qc hx 1 rfl);have z2:=(qc hx 2 rfl);have z3:Wd.cell? ⟨w.heap.size,2+1,none⟩=some (Value.int .i64 fa):=hx.cell 3;have z6:=(qc hx 6 rfl);clear hx hy
  go_wp2_with (at_builtin;go_must (refine bV Wd rfl (.tmp 33) (.tmp 41) _ rfl w.heap.size 67 i0 _ 8 64 Tryz.underlying28 hi iz is ib rfl qo (.slice (some ⟨w.heap.size+1,0,none⟩) 0 0) 0 [] (by rfl) HO.o _ 1 1 (ints (rF d fb fa c)) rfl rfl (iP _) qm qo HB.o.size ?_);intro v' w' hown' hb';rw[Nat.zero_add,List.nil_append]at hown';have HOWN:=qh hown';have HB2:=qh (HB.o.trans hb');clear hown' hb')
  go_wp2_with fail
  go_ret
  exact⟨_,rfl,HOWN.o,HB2.o⟩
 ·rw[if_neg h0,if_neg h0]
  have hlp:(0:Int)<(ln:Int):=qo;clear h0
  go_enter Tryz.func92,Tryz.ntmps92
  go_upto_region 3 with(fail)
  obtain⟨Wc,hWc⟩:∃x,x=((w.alloc (.cells (opC k d fb fa tb ta c r) 67)).alloc (.cells #[] 67)).alloc (.cells (opC 6 0 fb fa 0 0 0 0) 67):=⟨_,rfl⟩;rw[←hWc]at H3 ⊢;clear hWc;have x2:=(show _=some (Value.int .i64 fb)from H3.o.x.cell 2);have x3:Wc.cell? ⟨w.heap.size,2+1,none⟩=some (Value.int .i64 fa):=H3.o.x.cell 3;have hon:=pA fb fa Wc (HM.o.below H3.o.b) ha0 ha1;rw[iX.o]at hon;have gV:=qh hon;clear hon
  go_wp2_with fail
  refine gV.o.mono ?_;rintro e Wd ⟨rfl,hbd⟩;have hx:=H3.o.x.below hbd H3.o.x.lt;have hy:=H3.o.y.below hbd H3.o.y.lt;have HX:=qh hx;have HY:=qh hy;have HO:=qh (own_below H3.o.o hbd);have HB:=qh (H3.o.b.trans (hbd.mono H3.o.b.size));clear hbd x2 x3;have y0:=(qc hy 0 rfl);have y1:=(qc hy 1 rfl);have y2:=(qc hy 2 rfl);have y3:=(qc hy 3 rfl);have y4:=(qc hy 4 rfl);have y5:=(qc hy 5 rfl);have y6:=(qc hy 6 rfl);have y7:=(qc hy 7 rfl);clear hx hy
  go_upto_region 9 with(at_builtin;go_must (refine gq Wd rfl (.tmp 29) (.tmp 31) _ rfl w.heap.size 67 i0 _ 8 64 Tryz.underlying28 hi iz is ib rfl qo (.slice (some ⟨w.heap.size+1,0,none⟩) 0 0) 0 [] (by rfl) HO.o _ 1 1 (ints (sU fb fa)) rfl rfl (iP _) qm qo HB.o.size ?_);intro v' w' hown' zS;have eI:=qh (HX.o.fr zS (fun e=>by have h1:w.heap.size+1=w.heap.size:=Option.some.inj e;omega));have HB2:=qh (HB.o.trans (zS.own HO.o HB.o.size));rw[Nat.zero_add,List.nil_append]at hown';have HOWN:=qh hown';clear hown' zS)
  have z1:=(show _=some (Value.int .i64 d)from eI.o.cell 1);have z2:=(show _=some (Value.int .i64 fb)from eI.o.cell 2);have z3:w'.cell? ⟨w.heap.size,2+1,none⟩=some (Value.int .i64 fa):=eI.o.cell 3;have z6:=(show _=some (Value.int .i64 c)from eI.o.cell 6);clear y0 y1 y2 y3 y4 y5 y6 y7
  go_wp2_with (at_builtin;go_must (refine bV w' rfl (.tmp 33) (.tmp 41) _ rfl w.heap.size 67 i0 _ 8 64 Tryz.underlying28 hi iz is ib rfl qo v' 1 _ (by rfl) HOWN.o _ 1 1 (ints (rF d fb fa c)) rfl rfl (iP _) qm qo HB2.o.size ?_);intro v2 w2 hown2 hb2;rw[←aT]at hown2;have f9:=qh hown2;have HB3:=qh (HB2.o.trans hb2);clear hown2 hb2)
  go_wp2_with fail
  go_ret
  exact⟨_,rfl,f9.o,HB3.o⟩
theorem aaU (r:Int)(hr0: -3≤r)(hr1:r≤3):Calls Tryz.prog 92 #[.pointer (some ⟨a.g,0,none⟩),.agg (opC 7 0 0 0 0 0 0 r),.int .i64 4] w (xR w (BQ r) 1):=by
 obtain⟨i0,hi,iz,is,ib⟩:=info_parts wK;have H3:=qh (Yg w 7 0 0 0 0 0 0 r);obtain⟨r',hr'⟩:∃x,x=newR r:=⟨_,rfl⟩;have HR':=qh hr';clear hr'
 go_enter Tryz.func92,Tryz.ntmps92
 go_upto_region 3 with(fail)
 obtain⟨Wc,hWc⟩:∃x,x=((w.alloc (.cells (opC 7 0 0 0 0 0 0 r) 67)).alloc (.cells #[] 67)).alloc (.cells (opC 6 0 0 0 0 0 0 0) 67):=⟨_,rfl⟩;rw[←hWc]at H3 ⊢;clear hWc;have x7:=(show _=some (Value.int .i64 r)from H3.o.x.cell 7);have f7:=H3.o.x.frozen 7
 by_cases h3:r<3
 ·have hn:r'=r+1:=HR'.o.trans (if_pos h3)
  have hw1:IntKind.i64.wrap (r+1)=r+1:=by rw[IntKind.wrap_i64];omega
  have HN:=qh hn;clear hn
  go_upto_region 14 with(fail)
  obtain⟨Wd,hWd⟩:=qx (Wc.setCell ⟨w.heap.size,7,none⟩ (.int .i64 (r+1)));rw[←hWd];have HX:Hq (aB Wd w.heap.size 67 (opC 7 0 0 0 0 0 0 (r+1))):=qh (hWd▸H3.o.x.bJ 7 (.int .i64 (r+1)));have HO:Hq (Wd.ownsRow w.heap.size 67 8 (.slice (some ⟨w.heap.size+1,0,none⟩) 0 0) 0 []):=qh (hWd▸bF H3.o.o fun b hb=>aE _ _ _ _ (by intro e;have h1:w.heap.size+1=b:=Option.some.inj hb;rw[show b=w.heap.size from e]at h1;omega));have HB:Hq (Below w.heap.size w Wd):=qh (hWd▸H3.o.b.setCell ql _);have x0:=(show _=some (Value.int .i64 7)from HX.o.cell 0);have x1:=(show _=some (Value.int .i64 0)from HX.o.cell 1);have x2:=(show _=some (Value.int .i64 0)from HX.o.cell 2);have x3:=(show _=some (Value.int .i64 0)from HX.o.cell 3);have x4:=(show _=some (Value.int .i64 0)from HX.o.cell 4);have x5:=(show _=some (Value.int .i64 0)from HX.o.cell 5);have x6:=(show _=some (Value.int .i64 0)from HX.o.cell 6);have x7':=(show _=some (Value.int .i64 (r+1))from HX.o.cell 7);clear hWd x7 f7
  go_wp2_with (at_builtin;go_must (refine bV Wd rfl (.tmp 56) (.tmp 58) _ rfl w.heap.size 67 i0 _ 8 64 Tryz.underlying28 hi iz is ib rfl qo (.slice (some ⟨w.heap.size+1,0,none⟩) 0 0) 0 [] (by rfl) HO.o _ 1 1 (ints [7,0,0,0,0,0,0,r+1]) rfl rfl (iP _) qm qo HB.o.size ?_);intro v' w' hown' hb';rw[Nat.zero_add,List.nil_append]at hown';have HOWN:=qh hown';have HB2:=qh (HB.o.trans hb');clear hown' hb')
  go_wp2_with fail
  go_ret
  exact⟨_,rfl,by unfold BQ;rw[←HR'.o,HN.o];exact HOWN.o,HB2.o⟩
 ·have hn:r'=r-1:=HR'.o.trans (if_neg h3)
  have hw1:IntKind.i64.wrap (r-1)=r-1:=by rw[IntKind.wrap_i64];omega
  have HN:=qh hn;clear hn
  go_upto_region 14 with(fail)
  obtain⟨Wd,hWd⟩:=qx (Wc.setCell ⟨w.heap.size,7,none⟩ (.int .i64 (r-1)));rw[←hWd];have HX:Hq (aB Wd w.heap.size 67 (opC 7 0 0 0 0 0 0 (r-1))):=qh (hWd▸H3.o.x.bJ 7 (.int .i64 (r-1)));have HO:Hq (Wd.ownsRow w.heap.size 67 8 (.slice (some ⟨w.heap.size+1,0,none⟩) 0 0) 0 []):=qh (hWd▸bF H3.o.o fun b hb=>aE _ _ _ _ (by intro e;have h1:w.heap.size+1=b:=Option.some.inj hb;rw[show b=w.heap.size from e]at h1;omega));have HB:Hq (Below w.heap.size w Wd):=qh (hWd▸H3.o.b.setCell ql _);have x0:=(show _=some (Value.int .i64 7)from HX.o.cell 0);have x1:=(show _=some (Value.int .i64 0)from HX.o.cell 1);have x2:=(show _=some (Value.int .i64 0)from HX.o.cell 2);have x3:=(show _=some (Value.int .i64 0)from HX.o.cell 3);have x4:=(show _=some (Value.int .i64 0)from HX.o.cell 4);have x5:=(show _=some (Value.int .i64 0)from HX.o.cell 5);have x6:=(show _=some (Value.int .i64 0)from HX.o.cell 6);have x7':=(show _=some (Value.int .i64 (r-1))from HX.o.cell 7);clear hWd x7 f7
  go_wp2_with (at_builtin;go_must (refine bV Wd rfl (.tmp 56) (.tmp 58) _ rfl w.heap.size 67 i0 _ 8 64 Tryz.underlying28 hi iz is ib rfl qo (.slice (some ⟨w.heap.size+1,0,none⟩) 0 0) 0 [] (by rfl) HO.o _ 1 1 (ints [7,0,0,0,0,0,0,r-1]) rfl rfl (iP _) qm qo HB.o.size ?_);intro v' w' hown' hb';rw[Nat.zero_add,List.nil_append]at hown';have HOWN:=qh hown';have HB2:=qh (HB.o.trans hb');clear hown' hb')
  go_wp2_with fail
  go_ret
  exact⟨_,rfl,by unfold BQ;rw[←HR'.o,HN.o];exact HOWN.o,HB2.o⟩
end
theorem RY {W:Nat}{z:Nat→Int}{i:Nat}(h:dR W z i=true)(hk:z (i*8)=7):z (i*8+1)=0∧z (i*8+2)=0∧z (i*8+3)=0∧z (i*8+4)=0∧z (i*8+5)=0∧z (i*8+6)=0:=by
 unfold dR at h;rw[hk]at h;generalize z (i*8+2)=fb at*;generalize z (i*8+3)=fa at*;generalize z (i*8+1)=d at*;generalize z (i*8+4)=tb at*;generalize z (i*8+5)=ta at*;generalize z (i*8+6)=c at*;generalize z (i*8+7)=r at*
 simp[aW,kG,aK,kA]at h
 omega
section
variable {tg:Nat→Nat}{a:bC}{s:aI}{D:Nat}{w:World}
theorem QR {W:Nat}{z:Nat→Int}{i:Nat}{f:Int}(H:Mem tg a s w)(hW:s.W=W)(hW1:1≤W)(h:dR W z i=true)(hc:fN f (z (i*8))=true):
 Calls Tryz.prog 92 #[.pointer (some ⟨a.g,0,none⟩),.agg (opC (z (i*8)) (z (i*8+1)) (z (i*8+2)) (z (i*8+3)) (z (i*8+4)) (z (i*8+5)) (z (i*8+6)) (z (i*8+7))),.int .i64 f] w (xR w (xP s z i f) (fM s z i f)):=by
 have hp:=gC hW1 h
 by_cases h2:f=2
 ·subst h2
  exact aaW _ _ _ _ _ _ _ _
 ·by_cases h3:f=3
  ·subst h3
   exact aaV H _ _ _ _ _ _ _ _ hp.f0 (by rw[hW];exact hp.f1)
  ·by_cases h4:f=4
   ·subst h4
    have hk:z (i*8)=7:=by rw[Fg]at hc;simpa using hc
    obtain⟨e1,e2,e3,e4,e5,e6⟩:=RY h hk;rw[hk,e1,e2,e3,e4,e5,e6];exact aaU _ hp.r0 hp.r1
   ·have e1:xP s z i f=[]:=by unfold xP;rw[if_neg h2,if_neg h3,if_neg h4]
    have e2:fM s z i f=0:=by unfold fM;rw[if_neg h2,if_neg h3,if_neg h4]
    rw[e1,e2];exact aaX _ _ _ _ _ _ _ _ f h2 h3 h4
end
def FyL (w:World)(L:List Int)(e:Ending)(w':World):Prop:=∃(v:Value) (m:Nat),e=.returned v∧L.length=8*m∧m≤3000∧w'.ownsRow w.heap.size 67 8 v m (ints L)∧Below w.heap.size w w'
theorem fu (p:aI×List Int)(z:Nat→Int)(i:Nat):eT p (fun t=>z (i*8+t)) 0=eT p z i:=by
 have e1:kC p.1 (fun t=>z (i*8+t)) 0=kC p.1 z i:=by simp only[kC,Nat.zero_mul,Nat.zero_add,Nat.add_zero]
 have e2:kS p.1 (fun t=>z (i*8+t)) 0=kS p.1 z i:=by simp only[kS,Nat.zero_mul,Nat.zero_add,Nat.add_zero]
 have e3:qA (fun t=>z (i*8+t)) 0=qA z i:=by simp only[qA,Nat.zero_mul,Nat.zero_add,Nat.add_zero]
 unfold eT;rw[e1,e2,e3]
theorem aaY (L:List Int){j:Nat}(hj:j<L.length):(ints L)[j]?=some (.int .i64 (L.getD j 0)):=by
 unfold ints;rw[List.getElem?_map,List.getElem?_eq_getElem hj,List.getD_eq_getElem?_getD,List.getElem?_eq_getElem hj]
 rfl
theorem JO {w:World}{B m g c:Nat}{A:Option Addr}{L:List Int}{y:Nat→Int}(h:w.ownsRow B 67 8 (.slice A m c) m (ints L))(hy:∀t,t<m*8→y t=L.getD t 0):Rd w A (m*8) (fun t=>.int .i64 (y t)):=fun h0=>by
 rcases h.2 with⟨_,h1⟩|⟨g,cap,cur,e,hg,hh,_⟩
 ·omega
 ·injection e with e1 e2 e3
  subst e1;have hl:L.length=m*8:=by simpa [ints]using h.1
  refine⟨g,0,rfl,(Array.getElem?_eq_some_iff.1 hh).1,fun t ht=>?_⟩;rw[Nat.zero_add,h.cellAt t qo,aaY L qo];show _=some (Value.int .i64 (y t));rw[hy t ht]
theorem zQ35x0 {p:Prop}(h:p:=by
 go_wp2_with fail
 go_loopw [8,11] (fun ov kv wx=>∃(j:Nat) (tg:Nat→Nat) (a:bC) (m:Nat) (L:List Int),j≤K∧kv=.int .i64 j∧a.g=gm∧Runs Wb tg a (dQ y p0 j).1 wx∧L=(dQ y p0 j).2∧L.length=8*m∧wx.ownsRow Wb.heap.size 67 8 ov m (ints L)∧(∀b,ov.ownBlock=some b→tg b=0)∧Rd wx AL (K*8) (fun t=>.int .i64 (y t))∧(∀ad,AL=some ad→tg ad.block=0∧ov.ownBlock≠some ad.block)) (fun _ kv _=>K-(intOf kv).toNat)
 case atStart=>exact⟨0,_,_,_,_,Nat.zero_le _,rfl,HIG.o,BA.o,rfl,E8.o,Qa.o,Pz.o,TS.o,iK.o⟩
 case round=>
  obtain⟨j,tg,a,m,L,hjK,rfl,hg,hr,hL,hlen,hown,hut,hrd,hna⟩:=hrel;have HG:=qh hg;have HR:=qh hr;have HL:=qh hL;have HLEN:=qh hlen;have HOWN:=qh hown;have IX:=qh hut;have iJ:=qh hrd;have J5:=qh hna;have wL:=DC hW1 Pg.o j fun q hq=>HY.o q qo;have Oq:Hq (gm<wr.heap.size):=qh (by rw[←hg];exact hr.m.lt a.g (by rw[hr.m.tm];omega));obtain⟨s,hsv⟩:∃s,s=(dQ y p0 j).1:=⟨_,rfl⟩;have zO:=wL.w;have hs:=wL.o;have ID:=wL.l;rw[←hL,hlen]at ID;have Lp:m≤3000:=by obtain⟨k',h1,h2⟩:=ID;have:=RF.o;have:=tO.o;omega
  rw[←hsv]at HR zO hs;have wZ:=qh hsv;have IZ:=qh zO;have HS:=qh hs;obtain⟨mL,SH,mD,SC,SI,hcells⟩:=HR.o.m.sev;have sE:=qh hcells;clear hg hr hL hlen hown hut hrd hna wL hsv zO hs ID hcells;have hk2:=tO.o
  by_cases hlt:j<K
  ·have dC:=qh hlt
   obtain⟨gl,ol,iG,hgl,hrl⟩:=iJ.o qo;have hce:=lR hrl hlt;have hp:=gC hW1 (HY.o j hlt);rw[←IZ.o]at hp;have oS:Hq (gl<wr.heap.size):=qh hgl;have N2:=qh hrl;have Ah:Hq (tg gl=0):=qh (J5.o _ iG).1;have mN:=qh (J5.o _ iG).2;have JF:=qh iG;obtain⟨k,hx0⟩:=qx (y (j*8));obtain⟨d,hx1⟩:=qx (y (j*8+1));obtain⟨fb,hx2⟩:=qx (y (j*8+2));obtain⟨fa,hx3⟩:=qx (y (j*8+3));obtain⟨tb,hx4⟩:=qx (y (j*8+4));obtain⟨ta,hx5⟩:=qx (y (j*8+5));obtain⟨c,hx6⟩:=qx (y (j*8+6));obtain⟨r,hx7⟩:=qx (y (j*8+7));rw[←hx0,←hx1,←hx2,←hx3,←hx4,←hx5,←hx6,←hx7]at hce hp;have HX:Hq (k=y (j*8)∧d=y (j*8+1)∧fb=y (j*8+2)∧fa=y (j*8+3)∧tb=y (j*8+4)∧ta=y (j*8+5)∧c=y (j*8+6)∧r=y (j*8+7)):=qh ⟨hx0,hx1,hx2,hx3,hx4,hx5,hx6,hx7⟩;have HO:=qh hce;have HP:=qh hp;clear hx0 hx1 hx2 hx3 hx4 hx5 hx6 hx7 hce hp hrl hgl iG;have ho:=EU (D:=8*1500+8) HR.o.m {HS.o with db:=Nat.le_trans HS.o.db (by have:=RF.o;have:=tO.o;omega)} qo;rw[HG.o]at ho;have HOW:=qh ho;clear ho;have XH:=JF.o;subst XH
   go_wp2_with fail
   refine HOW.o.mono ?_;rintro e w3 ⟨v,rfl,⟨mU,⟨g1,SX,T9,SW,ck1,SZ,oO,F1,K1,L1,D1⟩,rfl,hlo1,hlt1,⟨⟨TY,SA,TB,hL1⟩,⟨TZ,SB,TC,hD1⟩⟩,zP⟩,hb3⟩;obtain rfl:L1=_:=hL1;obtain rfl:D1=_:=hD1;clear HOW
   simp only[dM]at zP ⊢
   obtain⟨w4,hw4⟩:=qx (w3.alloc (.cells #[.int .i64 s.W,.int .i64 s.rk,.slice (some ⟨SX,0,none⟩) s.W T9,.slice (some ⟨SW,0,none⟩) s.W ck1,.slice (some ⟨SZ,0,none⟩) 4 oO,.slice TY SA TB,.slice TZ SB TC] 58));have hb4:Below w3.heap.size w3 w4:=hw4▸qb;have fQ:Hq (Mem (eX mU w3.heap.size) ⟨w3.heap.size,SX,T9,SW,ck1,SZ,oO,F1,K1,.slice TY SA TB,.slice TZ SB TC⟩ s w4):=qh (zP w3.heap.size w4 (Decidable.byContradiction fun hn=>Nat.lt_irrefl _ (hlt1 _ hn)) (fun b hb=>hb4.block b (hlt1 b hb)) hb4.size (hw4▸aB.at_ _ _ _ rfl));have HB3:=qh hb3;have aR:=qh (hb3.trans (hb4.mono hb3.size));have xC:Hq (∀b,eX mU w3.heap.size b≠0→wr.heap.size≤b):=qh fun b hb=>by
    unfold eX at hb
    split at hb
    ·have:=HB3.o.size;omega
    ·exact hlo1 b hb
   have CF:=qh hw4;clear hlo1 hlt1 zP hb3 hb4 hw4
   go_upto_region 13 with(fail)
   rw[←CF.o];have bP:Hq (gI gl (ol+j*8) k d fb fa tb ta c r w4):=qh ((dA _ _ _ _ _ _ _ _ _ _).1 _ _ HO.o fun q hq=>by subst hq;exact aR.o.block _ oS.o);have ZQ:Hq (eX mU w3.heap.size gl=0):=qh (Decidable.byContradiction fun hn=>by have h1:=xC.o gl hn;have h2:=oS.o;omega);have hd:=BX (D:=8*1500+8) gl (ol+j*8) (k:=k) (d:=d) (fb:=fb) (fa:=fa) (tb:=tb) (ta:=ta) (c:=c) (r:=r) fQ.o {HS.o with db:=Nat.le_trans HS.o.db (by have:=RF.o;have:=tO.o;omega)} qo bP.o ZQ.o HP.o;obtain⟨code,hcode⟩:=qx (aX s k d fb fa tb ta (c-1).toNat);rw[←hcode]at hd;have pN:Hq (kC (dQ y p0 j).1 y j=code):=qh (by
    obtain⟨e0,e1,e2,e3,e4,e5,e6,e7⟩:=HX.o;unfold kC;rw[←wZ.o,←e0,←e1,←e2,←e3,←e4,←e5,←e6];exact hcode.symm)
   clear hcode
   go_wp2_with fail
   refine hd.mono ?_;rintro e w5 ⟨rfl,rY,qB⟩;clear hd;have eJ:=qh rY;have xD:Hq (∀b,b<wr.heap.size→w5.heap[b]?=wr.heap[b]?):=qh fun b hb=>(eJ.o.block b (Nat.lt_of_lt_of_le hb aR.o.size) (fun hn=>by have h1:=xC.o b hn;omega)).trans (aR.o.block b hb);have G8:Hq (wr.heap.size≤w5.heap.size):=qh (Nat.le_trans aR.o.size eJ.o.size);have kV:Hq (Runs Wb tg a s w5):=qh ⟨HR.o.m.same (fun b hb=>xD.o b (HR.o.m.lt b hb)) G8.o,(HR.o.b.trans (aR.o.mono HR.o.b.size)).trans (eJ.o.below (Nat.le_trans HR.o.b.size aR.o.size) fun b hb=>Nat.le_trans HR.o.b.size (xC.o b hb)),HR.o.lo⟩;have FJ:Hq (w5.ownsRow Wb.heap.size 67 8 u8 m (ints L)):=qh (bF HOWN.o fun b hb=>xD.o b (HOWN.o.lt b hb).2);have YX:Hq (bI w5 gl ol (K*8) (fun t=>.int .i64 (y t))):=qh (N2.o.blk (xD.o gl oS.o));have hbk:=kV.o.m.m;rw[sE.o,HG.o]at hbk;have m0:=(qc hbk 0 rfl);have m1:=(qc hbk 1 rfl);have m2:=(qc hbk 2 rfl);have m3:=(qc hbk 3 rfl);have m4:=(qc hbk 4 rfl);have m5:=(qc hbk 5 rfl);have m6:=(qc hbk 6 rfl);have rE:=qh hbk;clear rY hbk
   by_cases hc0:code=0
   ·obtain⟨wB,a5,hg5,oK,_,zN⟩:=qB hc0
    subst hc0;obtain⟨pL,S0,pD,RZ,S1,oM⟩:=oK.sev;have ZF:Hq (∀b,wB b≠0→wr.heap.size≤b):=qh fun b hb=>by
     rcases zN b hb with h1|h1
     ·exact xC.o b h1
     ·exact Nat.le_trans aR.o.size h1
    have hb5:=oK.m;have mM:=qh (oK.makes ZF.o);rw[oM]at mM;rw[oM,hg5]at hb5;obtain⟨s',hs'⟩:∃x,x=cV s k d fb fa tb ta r (c-1).toNat:=⟨_,rfl⟩;rw[←hs']at mM hb5;have pJ:Hq (dQ y p0 (j+1)=(s',L++[k,d,fb,fa,tb,ta,c,r])):=qh (by
     obtain⟨e0,e1,e2,e3,e4,e5,e6,e7⟩:=HX.o;show eT (dQ y p0 j) y j=_;unfold eT;rw[if_pos pN.o,←HL.o,hs'];unfold kS qA;rw[←wZ.o,←e0,←e1,←e2,←e3,←e4,←e5,←e6,←e7])
    have p0':=(qc hb5 0 rfl);have p1':=(qc hb5 1 rfl);have p2':=(qc hb5 2 rfl);have p3':=(qc hb5 3 rfl);have p4':=(qc hb5 4 rfl);have Wp:=(qc hb5 5 rfl);have p6':=(qc hb5 6 rfl);have f0:=fun o=>rE.o.frozen o;clear oK zN hg5 oM hs' qB hb5;obtain⟨w6,jU⟩:∃x,x=((((((w5.setCell ⟨gm,0,none⟩ (.int .i64 s'.W)).setCell ⟨gm,1,none⟩ (.int .i64 s'.rk)).setCell ⟨gm,2,none⟩ (.slice (some ⟨a5.gf,0,none⟩) s'.W a5.cf)).setCell ⟨gm,3,none⟩ (.slice (some ⟨a5.gk,0,none⟩) s'.W a5.ck)).setCell ⟨gm,4,none⟩ (.slice (some ⟨a5.gc,0,none⟩) 4 a5.cc)).setCell ⟨gm,5,none⟩ (.slice pL s'.n S0)).setCell ⟨gm,6,none⟩ (.slice pD RZ S1):=⟨_,rfl⟩;have J9:Hq (∀b,b≠gm→w6.heap[b]?=w5.heap[b]?):=qh fun b hb=>by rw[jU];exact QB hb _ _ _ _ _ _ _
    have PH:Hq (w6.heap.size=w5.heap.size):=qh (by rw[jU];simp only[fR]);have bN:Hq (∃qT a6,a6.g=gm∧Runs Wb qT a6 s' w6∧∀b,b<wr.heap.size→b≠gm→qT b=0):=qh (by
     obtain⟨xY,a2,hv,hlo2,hlt2,_,WW⟩:=mM.o;have hcs:=Value.agg.inj hv;have h0:xY gm=0:=Decidable.byContradiction fun hn=>by have h1:=hlo2 _ hn;have h2:=Oq.o;omega
     refine⟨eX xY gm,{a2 with g:=gm},rfl,⟨WW gm w6 h0 (fun b hb=>?_) ?_ ?_,?_,fun b hb=>?_⟩,fun b hb hbg=>?_⟩
     ·exact J9.o b (fun e=>hb (by rw[e];exact h0))
     ·rw[PH.o];exact Nat.le_refl _
     ·rw[←hcs,jU]
      exact aB.s7 rE.o _ _ _ _ _ _ _
     ·rw[jU]
      exact vM kV.o.b GH.o _ _ _ _ _ _ _
     ·unfold eX at hb
      split at hb
      ·have:=GH.o;omega
      ·exact Nat.le_trans HR.o.b.size (hlo2 b hb)
     ·unfold eX
      rw[if_neg hbg];exact Decidable.byContradiction fun hn=>by have:=hlo2 b hn;omega)
    have Ou:=qh jU;clear jU
    go_upto_region 15 with(fail)
    rw[←Ou.o];obtain⟨qT,a6,mJ,SQ,WT⟩:=bN.o;have ZK:Hq (u8.ownBlock≠some gm):=qh fun e=>by have h1:=IX.o gm e;rw[←HG.o,HR.o.m.tm]at h1;omega
    have ZL:Hq (gl≠gm):=qh fun e=>by have h1:=Ah.o;rw[e,←HG.o,HR.o.m.tm]at h1;omega
    have FI:Hq (w6.ownsRow Wb.heap.size 67 8 u8 m (ints L)):=qh (bF FJ.o fun b hb=>J9.o b (fun e=>ZK.o (by rw[←e];exact hb)));have YW:Hq (bI w6 gl ol (K*8) (fun t=>.int .i64 (y t))):=qh (YX.o.blk (J9.o gl ZL.o));have mC:=qh SQ;have PY:=qh mJ;have YS:Hq (∀b,u8.ownBlock=some b→qT b=0):=qh fun b hb=>WT b (HOWN.o.lt b hb).2 (fun e=>ZK.o (by rw[←e];exact hb));have Vh:Hq (qT gl=0):=qh (WT gl oS.o ZL.o);have mH:=lR YW.o dC.o;obtain⟨e0,e1,e2,e3,e4,e5,e6,e7⟩:=HX.o;rw[←e0,←e1,←e2,←e3,←e4,←e5,←e6,←e7]at mH;have c0:=mH.c0;have c1:=mH.c1;have c2:=mH.c2;have c3:=mH.c3;have c4:=mH.c4;have c5:=mH.c5;have c6:=mH.c6;have c7:=mH.c7;clear mJ SQ WT mH e0 e1 e2 e3 e4 e5 e6 e7 m0 m1 m2 m3 m4 m5 m6 p0' p1' p2' p3' p4' Wp p6' f0;have Me:Wb.heap.size≤w6.heap.size:=mC.o.b.size;have TM:=qh Me;obtain⟨Ao,co,hov⟩:=aF FI.o;subst hov
    go_wp2_with (at_builtin;go_must (refine cB w6 rfl (.tmp 51) (.tmp 56) _ rfl Wb.heap.size 67 i0 _ 8 64 Tryz.underlying28 hi iz is ib rfl qo (.slice Ao m co) m _ (by rfl) FI.o _ 1 1 (ints [k,d,fb,fa,tb,ta,c,r]) rfl rfl (iP _) qm qo TM.o ?_);intro v' w7 F3 IE X9;rw[←aT]at F3;have yR:=qh F3;have BB:=qh IE;have Vr:=qh X9;clear F3 IE X9)
    have Ow:Hq (∀b,v'.ownBlock=some b→qT b=0∧b≠gl):=qh fun b hb=>by
     rcases Vr.o with h|h
     ·exact⟨YS.o b (h.symm.trans hb),fun e=>mN.o (by rw[←e];exact h.symm.trans hb)⟩
     ·have h1:b=w6.heap.size+1:=Option.some.inj (hb.symm.trans h)
      exact⟨Decidable.byContradiction fun hn=>by have:=mC.o.m.lt b hn;omega,by have:=oS.o;have:=G8.o;have:=PH.o;omega⟩
    have l8:Hq (Runs Wb qT a6 s' w7):=qh ⟨mC.o.m.same (fun b hb=>BB.o.block b (mC.o.m.lt b hb) (fun e=>hb (YS.o b e))) BB.o.size,mC.o.b.trans (BB.o.below TM.o fun b hb=>(FI.o.lt b hb).1),mC.o.lo⟩;have xT:Hq (Rd w7 (some ⟨gl,ol,none⟩) (K*8) (fun t=>.int .i64 (y t))):=qh fun _=>⟨gl,ol,rfl,by have:=oS.o;have:=G8.o;have:=PH.o;have:=BB.o.size;omega,YW.o.blk (BB.o.block gl (by have:=oS.o;have:=G8.o;have:=PH.o;omega) mN.o)⟩;clear c0 c1 c2 c3 c4 c5 c6 c7 Me
    go_wp2_with fail
    go_roundw
    case rel=>exact⟨j+1,qT,a6,m+1,L++[k,d,fb,fa,tb,ta,c,r],dC.o,qg,PY.o,by rw[pJ.o];exact l8.o,by rw[pJ.o],by have:=HLEN.o;simp;omega,yR.o,fun b hb=>(Ow.o b hb).1,xT.o,fun ad he=>by obtain rfl:=Option.some.inj he;exact⟨Vh.o,fun e=>(Ow.o _ e).2 rfl⟩⟩
    case measure=>exact qs
   ·have hc1:(code==0)=false:=by simpa using hc0
    have pJ:Hq (dQ y p0 (j+1)=dQ y p0 j):=qh (by
     show eT (dQ y p0 j) y j=_;unfold eT;rw[if_neg (by rw[pN.o];exact hc0)])
    have xT:Hq (Rd w5 (some ⟨gl,ol,none⟩) (K*8) (fun t=>.int .i64 (y t))):=qh fun _=>⟨gl,ol,rfl,Nat.lt_of_lt_of_le oS.o G8.o,YX.o⟩;clear qB hc0 m0 m1 m2 m3 m4 m5 m6
    go_wp2_with fail
    go_roundw
    case rel=>exact⟨j+1,tg,a,m,L,dC.o,qg,HG.o,by rw[pJ.o,←wZ.o];exact kV.o,by rw[pJ.o];exact HL.o,HLEN.o,FJ.o,IX.o,xT.o,fun ad he=>J5.o ad he⟩
    case measure=>exact qs
  ·obtain rfl:j=K:=qo
   go_wp2_with fail
   go_roundw
   case rel=>exact⟨io+1,tg,a,m,L,HIT.o,qg,HG.o,by rw[ZP.o,←wZ.o];exact HR.o,by rw[ZP.o];exact HL.o,HLEN.o,HOWN.o,IX.o⟩
   case measure=>exact qs):p:=h
theorem U8 (W:Nat)(A:OA)(n q:Nat)(z:Nat→Int)(f:Int)(At:Nat)(w:World)(ha:Rd w A (n*8) (fun j=>.int .i64 (z j)))(hW1:1≤W)(hW2:W≤24)(hn:n≤1500)(hops:∀i,i<n→dR W z i=true)(hAt:At<n)(hc:fN f (z (At*8))=true):
 Calls Tryz.prog 63 #[.int .i64 W,.slice A n q,.agg #[.int .i64 f,.int .i64 At]] w (FyL w (eU W z f At n).2):=by
 obtain⟨i0,hi,iz,is,ib⟩:=info_parts wK;obtain⟨Wb,m7⟩:=qx (w.alloc (.cells #[.int .i64 f,.int .i64 At] 30));have HB0:Hq (Below w.heap.size w Wb):=qh (m7▸qb);have bA:Hq (aB Wb w.heap.size 30 #[.int .i64 f,.int .i64 At]):=qh (m7▸aB.at_ _ _ _ rfl);have iT:=qh m7;have HA:=qh (ha.below HB0.o);have dT:=qh hops;have HAT:=qh hAt;have HC:=qh hc;have HW:Hq (1≤W∧W≤24):=qh ⟨hW1,hW2⟩;clear ha hops m7 hAt hc
 go_enter Tryz.func63,Tryz.ntmps63
 go_upto_region 1 with(fail)
 rw[←iT.o]
 go_wp2_with fail
 refine(EV W Wb HW.o.1 HW.o.2).mono ?_;rintro e w2 ⟨v,rfl,⟨iM,⟨g0,gf,cf,gk,ck,gc,cc,F0,K0,L0,D0⟩,rfl,hlo,gK,⟨⟨AL,nL,cL,hL⟩,⟨AD,nD,cD,hD⟩⟩,hmk⟩,hb2⟩;obtain rfl:L0=_:=hL;obtain rfl:D0=_:=hD;obtain⟨gm,hgm⟩:=qx (w2.heap.size);have GH:Hq (Wb.heap.size≤gm):=qh (by rw[hgm];exact hb2.size);obtain⟨Wm,KO⟩:=qx (w2.alloc (.cells (dM ⟨g0,gf,cf,gk,ck,gc,cc,F0,K0,.slice AL nL cL,.slice AD nD cD⟩ (jC W)) 58));have OM:Below w2.heap.size w2 Wm:=KO▸qb;have H0:Hq (Runs Wb (eX iM gm) ⟨gm,gf,cf,gk,ck,gc,cc,F0,K0,.slice AL nL cL,.slice AD nD cD⟩ (jC W) Wm):=qh ⟨hmk gm Wm (by rw[hgm];exact Decidable.byContradiction fun hn=>Nat.lt_irrefl _ (gK _ hn)) (fun b hb=>OM.block b (gK b hb)) OM.size (KO▸aB.at_ _ _ _ hgm),
  hb2.trans (OM.mono hb2.size),fun q hq=>by
   unfold eX at hq
   split at hq
   ·have:=GH.o;omega
   ·exact hlo q hq⟩
 have HGM1:Hq (gm<Wm.heap.size):=qh (by rw[hgm,KO];simp);have Ot:=qh KO;have Vi:=qh hgm;have HSZ2:=qh hb2.size;clear hlo gK hmk hb2 KO hgm OM
 simp only[dM,jC]at Ot ⊢
 go_upto_region 2 with(fail)
 rw[←Ot.o,←Vi.o];have H8:Hq ((Wm.alloc (.cells #[] 67)).ownsRow Wb.heap.size 67 8 (.slice (some ⟨Wm.heap.size,0,none⟩) 0 0) 0 (ints [])):=qh (eF (World.ownsRow_made (e:=67) (size:=8) Wm #[] 0 ql qm rfl) H0.o.b.size);have KZ:Hq (Runs Wb (eX iM gm) ⟨gm,gf,cf,gk,ck,gc,cc,F0,K0,.slice AL nL cL,.slice AD nD cD⟩ (eU W z f At 0).1 (Wm.alloc (.cells #[] 67))):=qh (H0.o.below (qb));have Zl:Hq (∀b,(Value.slice (some ⟨Wm.heap.size,0,none⟩) 0 0).ownBlock=some b→eX iM gm b=0):=qh fun b hb=>by
  have h1:Wm.heap.size=b:=Option.some.inj hb;exact Decidable.byContradiction fun hn=>by have:=H0.o.m.lt b hn;omega
 go_wp2_with fail
 go_loopw [8,9] (fun ov iv wr=>∃(i:Nat) (tg:Nat→Nat) (a:bC) (m:Nat) (L:List Int),i≤n∧iv=.int .i64 i∧a.g=gm∧Runs Wb tg a (eU W z f At i).1 wr∧L=(eU W z f At i).2∧L.length=8*m∧wr.ownsRow Wb.heap.size 67 8 ov m (ints L)∧(∀b,ov.ownBlock=some b→tg b=0)) (fun _ iv _=>n-(intOf iv).toNat)
 case atStart=>exact⟨0,_,_,0,[],Nat.zero_le _,rfl,rfl,KZ.o,rfl,rfl,H8.o,Zl.o⟩
 case round=>
  obtain⟨io,Vy,ao,mo,Lo,hile,rfl,hgo,hro,hLo,Yl,C3,acQ⟩:=hrel;have HGo:=qh hgo;have Pb:=qh hro;have ZD:=qh hLo;have V1:=qh Yl;have V0:=qh C3;have adZ:=qh acQ;have wL:=XN (f:=f) (At:=At) HW.o.1 HW.o.2 io (fun j hj=>dT.o j qo) fun _=>HC.o;have zn:=qh wL;obtain⟨Aoo,Yx,rfl⟩:=aF C3;clear hgo hro hLo Yl C3 acQ wL
  by_cases hit:io<n
  ·have HIT:=qh hit
   have RF:Hq (io≤1499):=qh qo;obtain⟨ga,o,rfl,hga,hra⟩:=HA.o qo;have hraw:=hra.below hga Pb.o.b;have hce:=lR hraw hit;have HGAo:Hq (ga<Wb.heap.size):=qh hga;obtain⟨k,hx0⟩:=qx (z (io*8));obtain⟨d,hx1⟩:=qx (z (io*8+1));obtain⟨fb,hx2⟩:=qx (z (io*8+2));obtain⟨fa,hx3⟩:=qx (z (io*8+3));obtain⟨tb,hx4⟩:=qx (z (io*8+4));obtain⟨ta,hx5⟩:=qx (z (io*8+5));obtain⟨c,hx6⟩:=qx (z (io*8+6));obtain⟨r,hx7⟩:=qx (z (io*8+7));rw[←hx0,←hx1,←hx2,←hx3,←hx4,←hx5,←hx6,←hx7]at hce;have HXo:Hq (k=z (io*8)∧d=z (io*8+1)∧fb=z (io*8+2)∧fa=z (io*8+3)∧tb=z (io*8+4)∧ta=z (io*8+5)∧c=z (io*8+6)∧r=z (io*8+7)):=qh ⟨hx0,hx1,hx2,hx3,hx4,hx5,hx6,hx7⟩;have aeT:=qh hce;have c0:=hce.c0;have c1:=hce.c1;have c2:=hce.c2;have c3:=hce.c3;have c4:=hce.c4;have c5:=hce.c5;have c6:=hce.c6;have c7:=hce.c7;clear hx0 hx1 hx2 hx3 hx4 hx5 hx6 hx7 hce hra hraw hga
   go_upto_region 7 with(fail)
   obtain⟨w1,hw1⟩:=qx (wr.alloc (.cells (opC k d fb fa tb ta c r) 67));rw[←hw1];obtain⟨AL,iG⟩:∃x:Option Addr,x=some ⟨wr.heap.size,0,none⟩:=⟨_,rfl⟩;rw[←iG];have hb1:Below wr.heap.size wr w1:=hw1▸qb;have hx1:aB w1 wr.heap.size 67 (opC k d fb fa tb ta c r):=hw1▸aB.at_ _ _ _ rfl;have HB1:=qh hb1;have dN:=qh hx1;have HR1:=qh (Pb.o.below hb1);have aO:=qh (own_below V0.o hb1);have hbx:=bA.o.below HR1.o.b bA.o.lt;have b0:=(qc hbx 0 rfl);have b1:=(qc hbx 1 rfl);have JF:=qh iG;clear hw1 iG hb1 hx1 hbx c0 c1 c2 c3 c4 c5 c6 c7
   by_cases hia:io=At
   ·have ahI:((io:Int)==(At:Int))=true:=by simp[hia]
    have DB:Hq (gI ga (o+io*8) k d fb fa tb ta c r w1):=qh ((dA _ _ _ _ _ _ _ _ _ _).1 _ _ aeT.o fun q hq=>by subst hq;exact HB1.o.block _ (World.block_lt_of_cell? _ _ aeT.o.c0));have c0:=DB.o.c0;have c1:=DB.o.c1;have c2:=DB.o.c2;have c3:=DB.o.c3;have c4:=DB.o.c4;have c5:=DB.o.c5;have c6:=DB.o.c6;have c7:=DB.o.c7;have HIA:=qh hia;obtain⟨p0,hp0⟩:=qx (eU W z f At io);rw[←hp0]at zn HR1;have hcan:fN f (z (io*8))=true:=by rw[hia];exact HC.o
    have F4:=QR (tg:=Vy) (a:=ao) (s:=p0.1) (w:=w1.drewN 1) (W:=W) (z:=z) (i:=io) (f:=f) (HR1.o.m.drewN 1) zn.o.w HW.o.1 (dT.o io HIT.o) hcan;obtain⟨e0,e1,e2,e3,e4,e5,e6,e7⟩:=HXo.o;rw[←e0,←e1,←e2,←e3,←e4,←e5,←e6,←e7,HGo.o]at F4;have RE:=qh F4;obtain⟨K,hK⟩:=qx (fM p0.1 z io f);obtain⟨LI,hLI⟩:=qx (xP p0.1 z io f);rw[←hK,←hLI]at RE;have B8:=qh hK;have ait:=qh hLI;have N5:=qh hp0;have pS:=qh hcan;clear hia e0 e1 e2 e3 e4 e5 e6 e7 F4 hK hLI hp0 hcan
    go_wp2_with fail
    go_region_held3 (fun w'=>w'.cell? ⟨ga,o+io*8,none⟩=some (.int .i64 k)∧w'.cell? ⟨ga,o+io*8+1,none⟩=some (.int .i64 d)∧w'.cell? ⟨ga,o+io*8+2,none⟩=some (.int .i64 fb)∧w'.cell? ⟨ga,o+io*8+3,none⟩=some (.int .i64 fa)∧w'.cell? ⟨ga,o+io*8+4,none⟩=some (.int .i64 tb)∧w'.cell? ⟨ga,o+io*8+5,none⟩=some (.int .i64 ta)∧w'.cell? ⟨ga,o+io*8+6,none⟩=some (.int .i64 c)∧w'.cell? ⟨ga,o+io*8+7,none⟩=some (.int .i64 r)∧w'.cell? ⟨w.heap.size,0,none⟩=some (.int .i64 f)) (go_keep)
     ((go_at_call 92;refine RE.o.mono ?_;rintro e wi ⟨vi,rfl,EY,hbi⟩;obtain⟨LF,ci,rfl⟩:=aF EY;have Zt:Hq (wi.ownsRow w1.heap.size 67 8 (.slice LF K ci) K (ints LI)):=qh EY;have bg:Hq (Below w1.heap.size w1 wi):=qh ((Below.drewN' (Below.refl w1.heap.size w1) 1).trans hbi);have JB:Hq (gI ga (o+io*8) k d fb fa tb ta c r wi):=qh ((dA _ _ _ _ _ _ _ _ _ _).1 _ _ DB.o fun q hq=>by subst hq;exact bg.o.block _ (World.block_lt_of_cell? _ _ DB.o.c0));have i0':=JB.o.c0;have i1:=JB.o.c1;have i2:=JB.o.c2;have i3:=JB.o.c3;have i4:=JB.o.c4;have i5:=JB.o.c5;have i6:=JB.o.c6;have i7:=JB.o.c7;have ib0:=((aA bg.o).1 w.heap.size 0 (World.block_lt_of_cell? _ _ b0)).trans b0;clear EY hbi))
    rename_i hHeld
    clear hHeld c0 c1 c2 c3 c4 c5 c6 c7 i0' i1 i2 i3 i4 i5 i6 i7 ib0 b0 b1;have tO:Hq (K≤2):=qh (by rw[B8.o];exact JV _ _ _ _);obtain⟨y,hy⟩:=qx (fT p0.1 z io f);have HY:Hq (∀j,j<K→dR W y j=true):=qh (by rw[hy,B8.o];exact fun j hj=>OB HW.o.1 (dT.o io HIT.o) pS.o hj);have ZP:Hq (eU W z f At (io+1)=dQ y p0 K):=qh (by
     show(if io=At then dQ (fT (eU W z f At io).1 z io f) (eU W z f At io) (fM (eU W z f At io).1 z io f)else eT (eU W z f At io) z io)=_;rw[if_pos HIA.o,←N5.o,←B8.o,←hy])
    have Pg:Hq (IT W (8*io) (2*io) p0):=qh zn.o;have HLI8:=qh (Sb p0.1 z io f);have aiz:Hq (Rd wi LF (K*8) (fun t=>.int .i64 (y t))):=qh (JO (g:=0) Zt.o fun t _=>by rw[hy];unfold fT;rw[←ait.o]);clear hy;have BA:=qh (HR1.o.below bg.o);have HIG:=HGo;have E8:Hq (p0.2.length=8*mo):=qh (by rw[N5.o,←ZD.o];exact V1.o);have Qa:Hq (wi.ownsRow Wb.heap.size 67 8 (.slice Aoo mo Yx) mo (ints p0.2)):=qh (by rw[N5.o,←ZD.o];exact own_below aO.o bg.o);have Pz:=adZ;have iK:Hq (∀ad,LF=some ad→Vy ad.block=0∧(Value.slice Aoo mo Yx).ownBlock≠some ad.block):=qh fun ad he=>by
     subst he;have hlo:w1.heap.size≤ad.block:=by
      rcases Zt.o.2 with⟨e,_⟩|⟨y',cap,cur,e,hy',_⟩
      ·cases e
      ·injection e with e1 e2 e3
       injection e1 with e1;subst e1;exact hy'
     have hs1:wr.heap.size<w1.heap.size:=dN.o.lt;exact⟨Decidable.byContradiction fun hn=>by have:=Pb.o.m.lt _ hn;omega,fun e=>by have:=(V0.o.lt _ e).2;omega⟩
    have TS:=aiz;obtain⟨AL,ahQ⟩:=qx (LF);subst ahQ
    exact zQ35x0
   ·have ahI:((io:Int)==(At:Int))=false:=by simp only[beq_eq_false_iff_ne];omega
    obtain⟨p0,hp0⟩:=qx (eU W z f At io);rw[←hp0]at zn HR1;obtain⟨K,hK⟩:∃x:Nat,x=1:=⟨_,rfl⟩;have Ag:=qh hK;have tO:Hq (K≤2):=qh qo;obtain⟨y,hy⟩:∃x:Nat→Int,x=fun t=>z (io*8+t):=⟨_,rfl⟩;have HY:Hq (∀j,j<K→dR W y j=true):=qh fun j hj=>by
     obtain rfl:j=0:=qo;rw[hy];exact tV (dT.o io HIT.o) fun t _=>by simp
    have ZP:Hq (eU W z f At (io+1)=dQ y p0 K):=qh (by
     show(if io=At then dQ (fT (eU W z f At io).1 z io f) (eU W z f At io) (fM (eU W z f At io).1 z io f)else eT (eU W z f At io) z io)=_;rw[if_neg hia,←hp0,hK,hy];exact(fu p0 z io).symm)
    have N5:=qh hp0;have Pg:Hq (IT W (8*io) (2*io) p0):=qh zn.o;have TS:Hq (Rd w1 AL (K*8) (fun t=>.int .i64 (y t))):=qh fun _=>⟨wr.heap.size,0,JF.o,dN.o.lt,fun t ht=>by
     obtain⟨e0,e1,e2,e3,e4,e5,e6,e7⟩:=HXo.o;rw[hK]at ht;have h8:t=0∨t=1∨t=2∨t=3∨t=4∨t=5∨t=6∨t=7:=qo;rw[Nat.zero_add,dN.o.cell,hy]
     rcases h8 with rfl|rfl|rfl|rfl|rfl|rfl|rfl|rfl
     ·exact congrArg (fun x=>some (Value.int .i64 x)) e0
     ·exact congrArg (fun x=>some (Value.int .i64 x)) e1
     ·exact congrArg (fun x=>some (Value.int .i64 x)) e2
     ·exact congrArg (fun x=>some (Value.int .i64 x)) e3
     ·exact congrArg (fun x=>some (Value.int .i64 x)) e4
     ·exact congrArg (fun x=>some (Value.int .i64 x)) e5
     ·exact congrArg (fun x=>some (Value.int .i64 x)) e6
     ·exact congrArg (fun x=>some (Value.int .i64 x)) e7⟩
    have BA:=HR1;have HIG:=HGo;have E8:Hq (p0.2.length=8*mo):=qh (by rw[N5.o,←ZD.o];exact V1.o);have Qa:Hq (w1.ownsRow Wb.heap.size 67 8 (.slice Aoo mo Yx) mo (ints p0.2)):=qh (by rw[N5.o,←ZD.o];exact aO.o);have Pz:=adZ;have iK:Hq (∀ad,AL=some ad→Vy ad.block=0∧(Value.slice Aoo mo Yx).ownBlock≠some ad.block):=qh fun ad he=>by
     have h1:=Option.some.inj (he.symm.trans JF.o);subst h1;exact⟨Decidable.byContradiction fun hn=>by have h1:wr.heap.size<wr.heap.size:=Pb.o.m.lt _ hn;omega,fun e=>by have h1:wr.heap.size<wr.heap.size:=(V0.o.lt _ e).2;omega⟩
    have hK1:(Value.slice AL 1 1)=.slice AL K 1:=by rw[hK]
    clear hia hy hp0 hK;rw[hK1];clear hK1
    exact zQ35x0
  ·obtain rfl:io=n:=qo
   have dU:Hq (Below w.heap.size w wr):=qh (HB0.o.trans (Pb.o.b.mono HB0.o.size));have HYl:=qh zn.o.l
   go_wp2_with fail
   go_ret
   exact⟨_,mo,rfl,by rw[←ZD.o];exact V1.o,by obtain⟨k',h1,h2⟩:=HYl.o;rw[←ZD.o,V1.o]at h1;omega,by rw[←ZD.o];exact eF V0.o HB0.o.size,dU.o⟩
theorem El (n:Nat)(w:World)(hn:n≤4000):
 Calls Tryz.prog 132 #[.slice none 0 0,.int .i64 n] w (adQ w 0 []):=by
 by_cases h0:n=0
 ·subst h0
  go_enter Tryz.func132,Tryz.ntmps132
  go_wp2_with fail
  go_ret
  exact⟨_,rfl,World.ownsRow_nil _ _ _ _,Below.refl _ _⟩
 ·exact Ej n w qo hn
def Fj (l1 l2:List Int)(k:Nat):List Int:=if k=0 then []else if k=1 then l1 else l1++l2
theorem UV (g cp:Nat)(A1 A2:OA)(n1 n2 c1 c2:Nat)(f1 f2:Nat→Int)(w:World)(h0:w.cell? ⟨g,0,none⟩=some (.slice A1 n1 c1))(h1:w.cell? ⟨g,1,none⟩=some (.slice A2 n2 c2))
 (o1:Rd w A1 (n1*8) (fun j=>.int .i64 (f1 j))) (o2:Rd w A2 (n2*8) (fun j=>.int .i64 (f2 j))) (hn1:n1≤1500) (hn2:n2≤1500):
 Calls Tryz.prog 102 #[.slice (some ⟨g,0,none⟩) 2 cp] w (xR w ((List.range (n1*8)).map f1++(List.range (n2*8)).map f2) (n1+n2)):=by
 obtain⟨i0,hi,iz,is,ib⟩:=info_parts wK;have hg:=World.block_lt_of_cell? w _ h0;have H0:=qh h0;have H1:=qh h1;have O1:=qh o1;have O2:=qh o2;clear h0 h1 o1 o2
 go_enter Tryz.func102,Tryz.ntmps102
 go_wp2
 go_loop [3,11] (fun s i=>∃k:Nat,k≤2∧i=.int .i64 k∧s=.int .i64 (sI n1 n2 k)) (fun _ i=>2-(intOf i).toNat)
 case atStart=>exact⟨0,by omega,rfl,rfl⟩
 case round=>
  obtain⟨k,hk,rfl,rfl⟩:=hrel;have k0:=H0.o;have k1:=H1.o
  rcases(show k=0∨k=1∨k=2 by omega)with rfl|rfl|rfl
  ·simp only[sI]at*
   go_wp2
   go_round
   case rel=>exact⟨1,by omega,qg,by simp⟩
   case measure=>exact qs
  ·simp only[sI]at*
   go_wp2
   go_round
   case rel=>exact⟨2,by omega,qg,by simp⟩
   case measure=>exact qs
  ·simp only[sI]at*
   go_wp2_with fail
   rw[←Int.natCast_add];refine(El (n1+n2) _ qo).mono ?_;rintro e w1 ⟨v1,rfl,ho1,hb1⟩;have aO:=qh ho1;have HB1:=qh hb1;clear ho1 hb1 k0 k1
   go_wp2_with fail
   go_loopw [6,27] (fun v i wr=>∃k:Nat,k≤2∧i=.int .i64 k∧wr.ownsRow w.heap.size 67 8 v (sI n1 n2 k) (ints (Fj ((List.range (n1*8)).map f1) ((List.range (n2*8)).map f2) k))∧Below w.heap.size w wr) (fun _ i _=>2-(intOf i).toNat)
   case atStart=>exact⟨0,by omega,rfl,aO.o,HB1.o⟩
   case round=>
    obtain⟨k,hk,rfl,hown,hb⟩:=hrel;have k0:=((aA hb).1 _ _ hg).trans H0.o;have k1:=((aA hb).1 _ _ hg).trans H1.o;have P1:=qh (O1.out.below hb);have P2:=qh (O2.out.below hb);have hgr:g<wr.heap.size:=blt hb hg;have HB:=qh hb;have HOWN:=qh hown;clear hb hown
    rcases(show k=0∨k=1∨k=2 by omega)with rfl|rfl|rfl
    ·go_wp2_with (at_builtin;go_must (refine cW _ rfl (.tmp 31) (.tmp 32) _ rfl w.heap.size 67 i0 _ 8 64 Tryz.underlying28 hi iz is ib rfl qo u6 0 (ints []) rfl HOWN.o A1 n1 c1 (fun j=>.int .i64 (f1 j)) rfl P1.out (fun j=>rfl) qm qo HB.o.size ?_);intro v' w' hown' hfr;have HOWN':=qh hown';have BG:=qh (HB.o.trans ((hfr.own HOWN.o HB.o.size).mono ql));clear hown' hfr)
     go_roundw
     case rel=>exact⟨1,by omega,qg,by simpa [sI,Fj,ints,Function.comp_def]using HOWN'.o,BG.o⟩
     case measure=>exact qs
    ·go_wp2_with (at_builtin;go_must (refine cW _ rfl (.tmp 31) (.tmp 32) _ rfl w.heap.size 67 i0 _ 8 64 Tryz.underlying28 hi iz is ib rfl qo u6 n1 (ints ((List.range (n1*8)).map f1)) rfl HOWN.o A2 n2 c2 (fun j=>.int .i64 (f2 j)) rfl P2.out (fun j=>rfl) qm qo HB.o.size ?_);intro v' w' hown' hfr;have HOWN':=qh hown';have BG:=qh (HB.o.trans ((hfr.own HOWN.o HB.o.size).mono ql));clear hown' hfr)
     go_roundw
     case rel=>exact⟨2,by omega,qg,by simpa [sI,Fj,ints,Function.comp_def]using HOWN'.o,BG.o⟩
     case measure=>exact qs
    ·go_wp2
     go_ret
     exact⟨_,rfl,HOWN.o,HB.o⟩
theorem ni (g o n c:Nat)(y:Nat→Int)(w:World)(h:Rd w (some ⟨g,o,none⟩) (n*8) (fun j=>.int .i64 (y j)))(hn:n≤1500):Calls Tryz.prog 101 #[.slice (some ⟨g,o,none⟩) n c] w (xR w ((List.range (n*8)).map y) n):=by
 obtain⟨i0,hi,iz,is,ib⟩:=info_parts wK;have hb0:Below w.heap.size w (w.alloc (.cells #[] 67)):=qb;have HR:=qh (h.below hb0);have HO:=qh (World.ownsRow_made (e:=67) (size:=8) w #[] 0 ql qm rfl);have HB:=qh hb0;clear h hb0;have hq:∀w,(binOp .eql 28 (.slice (some ⟨g,o,none⟩) n c) (.slice none 0 0)).run Tryz.prog w=.ok (.bool false) w:=fun w=>Lib.run_eql_slice_nil w _ _ (some ⟨g,o,none⟩) n c 0 0 Tryz.underlying28
 go_enter Tryz.func101,Tryz.ntmps101
 go_wp2_with (at_builtin;go_must (refine cW (w.alloc (.cells #[] 67)) rfl (.tmp 5) (.tmp 6) _ rfl w.heap.size 67 i0 _ 8 64 Tryz.underlying28 hi iz is ib rfl qo _ 0 [] rfl HO.o (some ⟨g,o,none⟩) n c (fun j=>.int .i64 (y j)) rfl HR.o (fun j=>rfl) qm qo qj ?_);intro v' w' hown' hfr;have HOWN':=qh hown';have iL:=qh hfr;clear hown' hfr)
 go_ret
 have ho:=HOWN'.o;rw[Nat.zero_add,List.nil_append]at ho;exact⟨_,rfl,by simpa [ints,Function.comp_def]using ho,HB.o.trans (iL.o.own HO.o qj)⟩
section
variable {tg:Nat→Nat}{a:bC}{s:aI}{D:Nat}{w:World}
structure In2 (w Wc:World)(k d fb fa tb ta c r:Int):Prop where
 x:aB Wc w.heap.size 67 (opC k d fb fa tb ta c r)
 y:aB Wc (w.heap.size+1) 67 (opC 6 0 fb fa 0 0 0 0)
 b:Below w.heap.size w Wc
theorem Yh (w:World)(k d fb fa tb ta c r:Int):In2 w ((w.alloc (.cells (opC k d fb fa tb ta c r) 67)).alloc (.cells (opC 6 0 fb fa 0 0 0 0) 67)) k d fb fa tb ta c r:=
 ⟨(aB.at_ _ _ _ rfl).alloc _,aB.at_ _ _ _ qj,(qb).alloc qj _⟩
theorem afp (k d fb fa tb ta c r f:Int)(h2:f≠2)(h3:f≠3)(h4:f≠4):Calls Tryz.prog 103 #[.pointer (some ⟨a.g,0,none⟩),.agg (opC k d fb fa tb ta c r),.int .i64 f] w (xR w [] 0):=by
 have h2':(f==2)=false:=by simpa using h2
 have h3':(f==3)=false:=by simpa using h3
 have h4':(f==4)=false:=by simpa using h4
 have H2:=qh (Yh w k d fb fa tb ta c r);clear h2 h3 h4
 go_enter Tryz.func103,Tryz.ntmps103
 go_upto_region 2 with(fail)
 obtain⟨Wc,hWc⟩:∃x,x=(w.alloc (.cells (opC k d fb fa tb ta c r) 67)).alloc (.cells (opC 6 0 fb fa 0 0 0 0) 67):=⟨_,rfl⟩;rw[←hWc]at H2 ⊢;clear hWc
 go_wp2_with fail
 go_ret
 exact⟨_,rfl,World.ownsRow_nil _ _ _ _,H2.o.b⟩
theorem afo (k d fb fa tb ta c r:Int):Calls Tryz.prog 103 #[.pointer (some ⟨a.g,0,none⟩),.agg (opC k d fb fa tb ta c r),.int .i64 2] w (xR w ([k,d,fb,fa,tb,ta,c,r]++sU fb fa) 2):=by
 have H2:=qh (Yh w k d fb fa tb ta c r)
 go_enter Tryz.func103,Tryz.ntmps103
 go_upto_region 2 with(fail)
 obtain⟨Wc,hWc⟩:∃x,x=(w.alloc (.cells (opC k d fb fa tb ta c r) 67)).alloc (.cells (opC 6 0 fb fa 0 0 0 0) 67):=⟨_,rfl⟩;rw[←hWc]at H2 ⊢;clear hWc;have x0:=(show _=some (Value.int .i64 k)from H2.o.x.cell 0);have x1:=(show _=some (Value.int .i64 d)from H2.o.x.cell 1);have x2:=(show _=some (Value.int .i64 fb)from H2.o.x.cell 2);have x3:=(show _=some (Value.int .i64 fa)from H2.o.x.cell 3);have x4:=(show _=some (Value.int .i64 tb)from H2.o.x.cell 4);have x5:=(show _=some (Value.int .i64 ta)from H2.o.x.cell 5);have x6:=(show _=some (Value.int .i64 c)from H2.o.x.cell 6);have x7:=(show _=some (Value.int .i64 r)from H2.o.x.cell 7);have y0:=(show _=some (Value.int .i64 6)from H2.o.y.cell 0);have y1:=(show _=some (Value.int .i64 0)from H2.o.y.cell 1);have y2:=(show _=some (Value.int .i64 fb)from H2.o.y.cell 2);have y3:=(show _=some (Value.int .i64 fa)from H2.o.y.cell 3);have y4:=(show _=some (Value.int .i64 0)from H2.o.y.cell 4);have y5:=(show _=some (Value.int .i64 0)from H2.o.y.cell 5);have y6:=(show _=some (Value.int .i64 0)from H2.o.y.cell 6);have y7:=(show _=some (Value.int .i64 0)from H2.o.y.cell 7);have HO:=qh (oA (base:=w.heap.size) (e:=67) (size:=8) Wc (ints ([k,d,fb,fa,tb,ta,c,r]++sU fb fa)) 2 H2.o.b.size qm rfl)
 go_wp2_with fail
 go_ret
 exact⟨_,rfl,HO.o,H2.o.b.alloc H2.o.b.size _⟩
theorem afn (H:Mem tg a s w)(k d fb fa tb ta c r:Int)(fB:fb=1∨fb=2)(ha0:0≤fa)(ha1:fa<s.W):Calls Tryz.prog 103 #[.pointer (some ⟨a.g,0,none⟩),.agg (opC k d fb fa tb ta c r),.int .i64 3] w (xR w (if aM s fb fa=0 then rF d fb fa c else sU fb fa++rF d fb fa c) (if aM s fb fa=0 then 1 else 2)):=by
 have H2:=qh (Yh w k d fb fa tb ta c r);have HM:=qh H;obtain⟨Al,cl,hal⟩:=(H.lU (b:=fb) ha0 ha1).form;have iX:=qh hal;obtain⟨ln,hln⟩:=qx (aM s fb fa);rw[←hln]at iX ⊢;have tP:=qh fB;clear H hal hln fB
 by_cases h0:ln=0
 ·rw[if_pos h0,if_pos h0]
  subst h0
  go_enter Tryz.func103,Tryz.ntmps103
  go_upto_region 2 with(fail)
  obtain⟨Wc,hWc⟩:∃x,x=(w.alloc (.cells (opC k d fb fa tb ta c r) 67)).alloc (.cells (opC 6 0 fb fa 0 0 0 0) 67):=⟨_,rfl⟩;rw[←hWc]at H2 ⊢;clear hWc;have x0:=(show _=some (Value.int .i64 k)from H2.o.x.cell 0);have x1:=(show _=some (Value.int .i64 d)from H2.o.x.cell 1);have x2:=(show _=some (Value.int .i64 fb)from H2.o.x.cell 2);have x3:=(show _=some (Value.int .i64 fa)from H2.o.x.cell 3);have x4:=(show _=some (Value.int .i64 tb)from H2.o.x.cell 4);have x5:=(show _=some (Value.int .i64 ta)from H2.o.x.cell 5);have x6:=(show _=some (Value.int .i64 c)from H2.o.x.cell 6);have x7:=(show _=some (Value.int .i64 r)from H2.o.x.cell 7);have x3':Wc.cell? ⟨w.heap.size,2+1,none⟩=some (Value.int .i64 fa):=H2.o.x.cell 3
  go_upto_region 7 with(fail)
  obtain⟨Wd,hWd⟩:=qx (Wc.alloc (.cells (opC 3 d fb fa 0 0 c 0) 67));rw[←hWd];obtain⟨gd,hgd⟩:=qx (Wc.heap.size);rw[←hgd];have hbd:Below Wc.heap.size Wc Wd:=hWd▸qb;have HZ:Hq (aB Wd gd 67 (opC 3 d fb fa 0 0 c 0)):=qh (hWd▸aB.at_ _ _ _ hgd);have HX:=qh (H2.o.x.below hbd H2.o.x.lt);have HY:=qh (H2.o.y.below hbd H2.o.y.lt);have JC:=qh (H2.o.b.trans (hbd.mono H2.o.b.size));have z2:=(show _=some (Value.int .i64 fb)from HX.o.cell 2);have z3:Wd.cell? ⟨w.heap.size,2+1,none⟩=some (Value.int .i64 fa):=HX.o.cell 3;have hon:=cG fb fa (HM.o.below JC.o) tP.o ha0 ha1;have gV:=qh hon;clear hon hWd hgd hbd x0 x1 x2 x3 x4 x5 x6 x7 x3'
  go_wp2_with fail
  refine gV.o.mono ?_;rintro e We ⟨rfl,hbe⟩;have hme:=(HM.o.below JC.o).below hbe;have hcl:=hme.dE (b:=fb) ha0 ha1;rw[iX.o]at hcl;have wU:=qh (HZ.o.below hbe HZ.o.lt);have PI:=qh (HY.o.below hbe HY.o.lt);have ak:=JC.st hbe;have d0:=(show _=some (Value.int .i64 3)from wU.o.cell 0);have d1:=(show _=some (Value.int .i64 d)from wU.o.cell 1);have d2:=(show _=some (Value.int .i64 fb)from wU.o.cell 2);have d3:=(show _=some (Value.int .i64 fa)from wU.o.cell 3);have d4:=(show _=some (Value.int .i64 0)from wU.o.cell 4);have d5:=(show _=some (Value.int .i64 0)from wU.o.cell 5);have d6:=(show _=some (Value.int .i64 c)from wU.o.cell 6);have d7:=(show _=some (Value.int .i64 0)from wU.o.cell 7);clear hbe hme z2 z3;have HO:=qh (oA (base:=w.heap.size) (e:=67) (size:=8) We (ints (rF d fb fa c)) 1 ak.o.size qm rfl)
  go_wp2_with fail
  go_ret
  exact⟨_,rfl,HO.o,ak.o.alloc ak.o.size _⟩
 ·rw[if_neg h0,if_neg h0]
  have hlp:(0:Int)<(ln:Int):=qo;clear h0
  go_enter Tryz.func103,Tryz.ntmps103
  go_upto_region 2 with(fail)
  obtain⟨Wc,hWc⟩:∃x,x=(w.alloc (.cells (opC k d fb fa tb ta c r) 67)).alloc (.cells (opC 6 0 fb fa 0 0 0 0) 67):=⟨_,rfl⟩;rw[←hWc]at H2 ⊢;clear hWc;have x0:=(show _=some (Value.int .i64 k)from H2.o.x.cell 0);have x1:=(show _=some (Value.int .i64 d)from H2.o.x.cell 1);have x2:=(show _=some (Value.int .i64 fb)from H2.o.x.cell 2);have x3:=(show _=some (Value.int .i64 fa)from H2.o.x.cell 3);have x4:=(show _=some (Value.int .i64 tb)from H2.o.x.cell 4);have x5:=(show _=some (Value.int .i64 ta)from H2.o.x.cell 5);have x6:=(show _=some (Value.int .i64 c)from H2.o.x.cell 6);have x7:=(show _=some (Value.int .i64 r)from H2.o.x.cell 7);have x3':Wc.cell? ⟨w.heap.size,2+1,none⟩=some (Value.int .i64 fa):=H2.o.x.cell 3
  go_upto_region 7 with(fail)
  obtain⟨Wd,hWd⟩:=qx (Wc.alloc (.cells (opC 3 d fb fa 0 0 c 0) 67));rw[←hWd];obtain⟨gd,hgd⟩:=qx (Wc.heap.size);rw[←hgd];have hbd:Below Wc.heap.size Wc Wd:=hWd▸qb;have HZ:Hq (aB Wd gd 67 (opC 3 d fb fa 0 0 c 0)):=qh (hWd▸aB.at_ _ _ _ hgd);have HX:=qh (H2.o.x.below hbd H2.o.x.lt);have HY:=qh (H2.o.y.below hbd H2.o.y.lt);have JC:=qh (H2.o.b.trans (hbd.mono H2.o.b.size));have z2:=(show _=some (Value.int .i64 fb)from HX.o.cell 2);have z3:Wd.cell? ⟨w.heap.size,2+1,none⟩=some (Value.int .i64 fa):=HX.o.cell 3;have hon:=cG fb fa (HM.o.below JC.o) tP.o ha0 ha1;have gV:=qh hon;clear hon hWd hgd hbd x0 x1 x2 x3 x4 x5 x6 x7 x3'
  go_wp2_with fail
  refine gV.o.mono ?_;rintro e We ⟨rfl,hbe⟩;have hme:=(HM.o.below JC.o).below hbe;have hcl:=hme.dE (b:=fb) ha0 ha1;rw[iX.o]at hcl;have wU:=qh (HZ.o.below hbe HZ.o.lt);have PI:=qh (HY.o.below hbe HY.o.lt);have ak:=JC.st hbe;have d0:=(show _=some (Value.int .i64 3)from wU.o.cell 0);have d1:=(show _=some (Value.int .i64 d)from wU.o.cell 1);have d2:=(show _=some (Value.int .i64 fb)from wU.o.cell 2);have d3:=(show _=some (Value.int .i64 fa)from wU.o.cell 3);have d4:=(show _=some (Value.int .i64 0)from wU.o.cell 4);have d5:=(show _=some (Value.int .i64 0)from wU.o.cell 5);have d6:=(show _=some (Value.int .i64 c)from wU.o.cell 6);have d7:=(show _=some (Value.int .i64 0)from wU.o.cell 7);have y0:=(show _=some (Value.int .i64 6)from PI.o.cell 0);have y1:=(show _=some (Value.int .i64 0)from PI.o.cell 1);have y2:=(show _=some (Value.int .i64 fb)from PI.o.cell 2);have y3:=(show _=some (Value.int .i64 fa)from PI.o.cell 3);have y4:=(show _=some (Value.int .i64 0)from PI.o.cell 4);have y5:=(show _=some (Value.int .i64 0)from PI.o.cell 5);have y6:=(show _=some (Value.int .i64 0)from PI.o.cell 6);have y7:=(show _=some (Value.int .i64 0)from PI.o.cell 7);clear hbe hme z2 z3;have HO:=qh (oA (base:=w.heap.size) (e:=67) (size:=8) We (ints (sU fb fa++rF d fb fa c)) 2 ak.o.size qm rfl)
  go_wp2_with fail
  go_ret
  exact⟨_,rfl,HO.o,ak.o.alloc ak.o.size _⟩
theorem afm (r:Int)(hr0: -3≤r)(hr1:r≤3):Calls Tryz.prog 103 #[.pointer (some ⟨a.g,0,none⟩),.agg (opC 7 0 0 0 0 0 0 r),.int .i64 4] w (xR w (BQ r) 1):=by
 have H2:=qh (Yh w 7 0 0 0 0 0 0 r);have HR:Hq (newR r=if r<3 then r+1 else r-1):=qh rfl
 by_cases h3:r=3
 ·subst h3
  go_enter Tryz.func103,Tryz.ntmps103
  go_upto_region 2 with(fail)
  obtain⟨Wc,hWc⟩:∃x,x=(w.alloc (.cells (opC 7 0 0 0 0 0 0 3) 67)).alloc (.cells (opC 6 0 0 0 0 0 0 0) 67):=⟨_,rfl⟩;rw[←hWc]at H2 ⊢;clear hWc;have x7:=(show _=some (Value.int .i64 3)from H2.o.x.cell 7);have HO:=qh (oA (base:=w.heap.size) (e:=67) (size:=8) Wc (ints (BQ 3)) 1 H2.o.b.size qm rfl)
  go_wp2_with fail
  go_ret
  exact⟨_,rfl,HO.o,H2.o.b.alloc H2.o.b.size _⟩
 ·have h3':(r==3)=false:=by simpa using h3
  have hw1:IntKind.i64.wrap (r+1)=r+1:=by rw[IntKind.wrap_i64];omega
  have HN:Hq (BQ r=[7,0,0,0,0,0,0,r+1]):=qh (by unfold BQ;rw[HR.o,if_pos qo]);clear h3
  go_enter Tryz.func103,Tryz.ntmps103
  go_upto_region 2 with(fail)
  obtain⟨Wc,hWc⟩:∃x,x=(w.alloc (.cells (opC 7 0 0 0 0 0 0 r) 67)).alloc (.cells (opC 6 0 0 0 0 0 0 0) 67):=⟨_,rfl⟩;rw[←hWc]at H2 ⊢;clear hWc;have x7:=(show _=some (Value.int .i64 r)from H2.o.x.cell 7);have HO:=qh (oA (base:=w.heap.size) (e:=67) (size:=8) Wc (ints [7,0,0,0,0,0,0,r+1]) 1 H2.o.b.size qm rfl)
  go_wp2_with fail
  go_ret
  exact⟨_,rfl,by rw[HN.o];exact HO.o,H2.o.b.alloc H2.o.b.size _⟩
theorem ko {W:Nat}{z:Nat→Int}{i:Nat}{f:Int}(H:Mem tg a s w)(hW:s.W=W)(hW1:1≤W)(h:dR W z i=true)(hc:fN f (z (i*8))=true)(fB:f=3→z (i*8+2)=1∨z (i*8+2)=2):
 Calls Tryz.prog 103 #[.pointer (some ⟨a.g,0,none⟩),.agg (opC (z (i*8)) (z (i*8+1)) (z (i*8+2)) (z (i*8+3)) (z (i*8+4)) (z (i*8+5)) (z (i*8+6)) (z (i*8+7))),.int .i64 f] w (xR w (xP s z i f) (fM s z i f)):=by
 have hp:=gC hW1 h
 by_cases h2:f=2
 ·subst h2
  exact afo _ _ _ _ _ _ _ _
 ·by_cases h3:f=3
  ·subst h3
   exact afn H _ _ _ _ _ _ _ _ (fB rfl) hp.f0 (by rw[hW];exact hp.f1)
  ·by_cases h4:f=4
   ·subst h4
    have hk:z (i*8)=7:=by rw[Fg]at hc;simpa using hc
    obtain⟨e1,e2,e3,e4,e5,e6⟩:=RY h hk;rw[hk,e1,e2,e3,e4,e5,e6];exact afm _ hp.r0 hp.r1
   ·have e1:xP s z i f=[]:=by unfold xP;rw[if_neg h2,if_neg h3,if_neg h4]
    have e2:fM s z i f=0:=by unfold fM;rw[if_neg h2,if_neg h3,if_neg h4]
    rw[e1,e2];exact afp _ _ _ _ _ _ _ _ f h2 h3 h4
end
end Go.Proofs.YtdnmhhohcedjbaaGreat
