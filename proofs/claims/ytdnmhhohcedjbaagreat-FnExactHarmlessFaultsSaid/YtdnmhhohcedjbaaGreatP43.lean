/- Walks and plain lemmas. -/
import Derived.Test.YtdnmhhohcedjbaaGreatP42
import Derived.Test.YtdnmhhohcedjbaaGreatP36
set_option linter.unusedVariables false
set_option linter.unusedSimpArgs false
set_option maxHeartbeats 4000000
set_option maxRecDepth 20000
namespace Go.Proofs.YtdnmhhohcedjbaaGreat
open Go.RowKit
theorem QJ {w:World}{B m c S:Nat}{A:Option Addr}{L:List Int}{t:TypeId}(h:w.ownsRow B t S (.slice A m c) m (ints L)):Rd w A (m*S) (fun j=>.int .i64 (nl L j)):=fun h0=>by
 have hl:L.length=m*S:=by have:=h.1;simpa [ints]using this
 rcases h.2 with⟨_,h1⟩|⟨g',cap,_,hg,_⟩
 ·rw[h1,Nat.zero_mul]at h0
  omega
 injection hg with hA _ hc;subst hA;refine⟨g',0,rfl,(h.lt g' rfl).2,fun j hj=>?_⟩;rw[Nat.zero_add,h.cellAt j qo]
 simp[ints,List.getD,show j<L.length by omega]
def Og (z:Nat→Int)(n:Nat)(L:List Int):Prop:=∃m,L.length=2*m∧∀k,k<m→∃At:Nat,nl L (k*2+1)=At∧At<n∧fN (nl L (k*2)) (z (At*8))=true
theorem Rh {z:Nat→Int}{n:Nat}{L:List Int}(h:Og z n L):Og z (n+1) L:=by
 obtain⟨m,h1,h2⟩:=h;refine⟨m,h1,fun k hk=>?_⟩;obtain⟨a,b,c,d⟩:=h2 k hk;exact⟨a,b,by omega,d⟩
theorem Wt {z:Nat→Int}{n:Nat}{b:List Int}(h:Og z (n+1) b):∀f,Og z (n+1) (fK z n b f)
 |0=>h
 |f+1=>by
  unfold fK;have h1:=Wt h f
  split
  ·rename_i hc
   obtain⟨m,hl,h2⟩:=h1;refine⟨m+1,by rw[List.length_append,hl];rfl,fun k hk=>?_⟩
   by_cases hkm:k<m
   ·obtain⟨a,b1,c,d⟩:=h2 k hkm
    refine⟨a,?_,c,?_⟩
    ·rw[EO qo];exact b1
    ·rw[EO qo];exact d
   ·obtain rfl:k=m:=qo
    refine⟨n,?_,by omega,?_⟩
    ·simp only[nl,List.getD_eq_getElem?_getD]
     rw[List.getElem?_append_right qo,show k*2+1-(fK z n b f).length=1 by omega]
     rfl
    ·rw[show nl (fK z n b f++[(f:Int)+1,(n:Int)]) (k*2)=(f:Int)+1 from by
      simp only[nl,List.getD_eq_getElem?_getD]
      rw[List.getElem?_append_right qo,show k*2-(fK z n b f).length=0 by omega]
      rfl]
     exact hc
  ·exact h1
theorem Ws (z:Nat→Int):∀n,Og z n (fL z n)
 |0=>⟨0,rfl,fun k hk=>absurd hk (Nat.not_lt_zero k)⟩
 |n+1=>Wt (Rh (Ws z n)) 4
def kI (z:Nat→Int)(n:Nat):Nat:=(fL z n).length/2
def fF (z:Nat→Int)(n k:Nat):Int:=nl (fL z n) (k*2)
def fX (z:Nat→Int)(n k:Nat):Nat:=(nl (fL z n) (k*2+1)).toNat
theorem En {z:Nat→Int}{n k:Nat}(hk:k<kI z n):nl (fL z n) (k*2+1)=(fX z n k:Int)∧fX z n k<n∧fN (fF z n k) (z (fX z n k*8))=true:=by
 obtain⟨m,hl,h⟩:=Ws z n;obtain⟨a,h1,h2,h3⟩:=h k (by unfold kI at hk;omega);have e:fX z n k=a:=by unfold fX;rw[h1,Int.toNat_natCast]
 rw[e];exact⟨h1,h2,h3⟩
theorem IL {z:Nat→Int}{n:Nat}(hn:n≤1500):kI z n≤6000:=by
 obtain⟨m,h1,h2⟩:=Ms z n;unfold kI;omega
noncomputable def EN (W:Nat)(z:Nat→Int)(n k:Nat):Option (List aV):=lD W z n (fF z n k) (fX z n k)
noncomputable def l3 (W:Nat)(z:Nat→Int)(n:Nat)(own:List aV)(k:Nat):Int:=(CR own (EN W z n k)).1
noncomputable def KT (W:Nat)(z:Nat→Int)(n:Nat)(own:List aV):Nat→List Int
 |0=>[]
 |k+1=>KT W z n own k++[l3 W z n own k]
theorem QZ (W:Nat)(z:Nat→Int)(n:Nat)(own:List aV)(k:Nat):(KT W z n own k).length=k:=by
 induction k with
 |zero=>rfl
 |succ k ih=>simp[KT,ih]
theorem XO (W:Nat)(z:Nat→Int)(n:Nat)(own:List aV){j:Nat}:∀k,j<k→nl (KT W z n own k) j=l3 W z n own j
 |0,h=>absurd h (Nat.not_lt_zero j)
 |k+1,h=>by
  show nl (KT W z n own k++[l3 W z n own k]) j=_
  by_cases hj:j<k
  ·rw[EO (by rw[QZ];exact hj)]
   exact XO W z n own k hj
  ·obtain rfl:j=k:=qo
   simp only[nl,List.getD_eq_getElem?_getD]
   rw[List.getElem?_append_right (by rw[QZ];omega),QZ,Nat.sub_self]
   rfl
noncomputable def qN (W:Nat)(z:Nat→Int)(n:Nat):Nat→Bool
 |0=>true
 |k+1=>qN W z n k&&(EN W z n k).isSome
theorem za {W:Nat}{z:Nat→Int}{n k m:Nat}(hk:k<m)(h:EN W z n k=none):qN W z n m=false:=by
 induction m with
 |zero=>omega
 |succ m ih=>
  unfold qN
  by_cases e:k=m
  ·subst e
   rw[h]
   simp
  ·rw[ih qo]
   rfl
theorem TK {W:Nat}{z:Nat→Int}{n k:Nat}{o:List aV}(h:qN W z n k=true)(h1:EN W z n k=some o):qN W z n (k+1)=true:=by
 unfold qN;rw[h,h1]
 rfl
theorem Tm (L M:List aV):(kR L M).1=0∨(kR L M).1=1∨(kR L M).1=2:=by
 unfold kR
 split
 ·exact .inl rfl
 ·split
  ·exact .inr (.inr rfl)
  ·exact .inr (.inl rfl)
theorem xg (W:Nat)(z:Nat→Int)(n:Nat)(own:List aV)(k:Nat):l3 W z n own k=0∨l3 W z n own k=1∨l3 W z n own k=2:=by
 unfold l3
 cases EN W z n k with
 |none=>exact .inl rfl
 |some o=>exact Tm own o
noncomputable def l6 (W:Int)(z:Nat→Int)(n:Nat):Int:=if codeOf W z n=0 then(if(lE W.toNat z n).isSome=true∧qN W.toNat z n (kI z n)=true then 0 else 5)else codeOf W z n
noncomputable def ownB (W:Int)(z:Nat→Int)(n:Nat):List aV:=(lE W.toNat z n).getD []
def aiS (w:World)(W:Int)(z:Nat→Int)(n:Nat)(e:Ending)(w':World):Prop:=Below w.heap.size w w'∧
 ((l6 W z n≠0∧e=.returned (.tuple #[.slice none 0 0,.slice none 0 0,.int .i64 (l6 W z n)]))∨
 (l6 W z n=0∧n≤1500∧∃A1 c1 A2 c2,e=.returned (.tuple #[.slice A1 (kI z n) c1,.slice A2 (kI z n) c2,.int .i64 0])∧Rd w' A1 (kI z n*2) (fun j=>.int .i64 (nl (fL z n) j))∧Rd w' A2 (kI z n*1) (fun j=>.int .i64 (nl (KT W.toNat z n (ownB W z n) (kI z n)) j))))
section
variable (W:Int)(A:OA)(n q:Nat)(z:Nat→Int)(w:World)
theorem NZ (ha:Rd w A (n*8) (fun j=>.int .i64 (z j)))(hn:n≤1048576):Calls Tryz.prog 43 #[.int .i64 W,.slice A n q] w (aiS w W z n):=by
 obtain⟨i0,hi,iz,is,ib⟩:=info_parts info64;have hr:=wE W A n q z w ha hn;unfold TL at hr;have HA:=qh ha;clear ha
 by_cases hc:codeOf W z n=0
 ·obtain⟨W,rfl,hW1,hW2,oG,hops,hok⟩:=wR hc
  have yI:=qh (show l6 (W:Int) z n=if(lE (W:Int).toNat z n).isSome=true∧qN (W:Int).toNat z n (kI z n)=true then 0 else 5 from if_pos hc);rw[hc]at hr;have HR:=qh hr;have dT:=qh hops;have iV:=qh hok;have HKK:Hq (∀i,i<n→1≤z (i*8)∧z (i*8)≤9):=qh fun i hi=>⟨(gC hW1 (hops i hi)).k1,(gC hW1 (hops i hi)).k9⟩;have hfm:=IL (z:=z) oG;rw[Int.toNat_natCast]at yI;clear hc hr hops hok
  go_enter Tryz.func43,Tryz.ntmps43
  go_wp2_with fail
  refine HR.o.mono ?_;rintro e w1 ⟨v,kk,⟨x0,y0,A1,B1,C1,D1,E1,a,b,c,d,e1,a',b',c',d',e',rfl⟩,rfl,hb1⟩;have HB1:=qh hb1;clear hb1
  go_upto_region 4 with(fail)
  obtain⟨w2,hw2⟩:=qx (w1.alloc (.cells #[.int .i64 x0,.int .i64 y0,.slice A1 a a',.slice B1 b b',.slice C1 c c',.slice D1 d d',.slice E1 e1 e'] 58));rw[←hw2];have HB2:Hq (Below w.heap.size w w2):=qh (hw2▸HB1.o.alloc HB1.o.size _);have jA:=qh (xL W A n q z w2 (HA.o.below HB2.o) hW1 hW2 oG dT.o iV.o);clear hw2
  go_wp2_with fail
  refine jA.o.mono ?_;rintro e w3 ⟨hb3,hr3⟩;have HB3:=HB2.st hb3;clear hb3
  cases hF:lE W z n with
  |none=>
   rw[hF]at hr3 yI;have Qi:=qh (show l6 (W:Int) z n=5 from yI.o.trans (if_neg fun h=>by cases h.1));obtain rfl:e=.returned (.tuple #[.slice none 0 0,.int .i64 5]):=hr3;clear hF
   go_wp2_with fail
   go_ret3
   exact⟨HB3.o,.inl (by rw[Qi.o];exact⟨by decide,rfl⟩)⟩
  |some own=>
   rw[hF]at hr3 yI;obtain⟨A5,c5,he,hk5⟩:=hr3;subst he;have xD:=qh hk5;have HOW:=qh (show ownB (W:Int) z n=own from by unfold ownB;rw[Int.toNat_natCast,hF];rfl);clear hF hk5
   go_wp2_with fail
   refine(U9 A n q z w3 (HA.o.below HB3.o) oG HKK.o).mono ?_;rintro e w4 ⟨v,m,rfl,hl,hm,hown,hb4⟩;obtain⟨A6,c6,rfl⟩:=aF hown;have hmm:kI z n=m:=by unfold kI;omega
   have CH:=qh (QJ hown);have aR:=HB3.st hb4;have J9:=qh (xD.o.below hb4);have aea:=qh hb4.size;have HM:=qh hmm;rw[hmm]at hfm yI;have H0:Hq ((w4.alloc (.cells #[] 2)).ownsRow w4.heap.size 2 1 (.slice (some ⟨w4.heap.size,0,none⟩) 0 0) 0 (ints (KT W z n own 0))):=qh (World.ownsRow_made (e:=2) (size:=1) w4 #[] 0 ql qm rfl);clear hown hl hm hb4 hmm xD
   go_wp2_with fail
   go_loopw [12,13] (fun ov x wr=>∃k:Nat,k≤m∧x=.int .i64 k∧Hq (qN W z n k=true)∧wr.ownsRow w4.heap.size 2 1 ov k (ints (KT W z n own k))∧Below w4.heap.size w4 wr) (fun _ x _=>m-(intOf x).toNat)
   case atStart=>exact⟨0,Nat.zero_le _,rfl,qh rfl,H0.o,qb⟩
   case round=>
    clear H0;obtain⟨k,hkm,rfl,iX,ho,hb⟩:=hrel;obtain⟨A7,c7,rfl⟩:=aF ho;have TP:=qh ho;have cS:=qh hb;clear ho hb
    by_cases hlt:k<m
    ·obtain⟨hx1,hx2,hx3⟩:=En (z:=z) (n:=n) (k:=k) (by rw[HM.o];exact hlt)
     obtain⟨gf,of,rfl,hgf,hrf⟩:=CH.o qo;have m0:wr.cell? ⟨gf,of+k*2,none⟩=some (.int .i64 (fF z n k)):=aD cS.o hgf (hrf (k*2) qo);have m1:wr.cell? ⟨gf,of+k*2+1,none⟩=some (.int .i64 (fX z n k)):=by
      have h:=aD cS.o hgf (hrf (k*2+1) qo)
      simp only[←Nat.add_assoc]at h
      rw[h,hx1]
     have LA:=qh (aR.o.trans (cS.o.mono aR.o.size));have gV:=qh (NY W A n q z (fF z n k) (fX z n k) wr own A5 c5 (HA.o.below LA.o) hW1 hW2 oG dT.o hx2 hx3 fun W' hb=>(J9.o.below ((cS.o.mono aea.o).trans (hb.mono (Nat.le_trans aea.o cS.o.size)))).goK);obtain⟨ff,pE⟩:=qx (fF z n k);obtain⟨fx,hfx⟩:=qx (fX z n k);have Fz:=qh (show EN W z n k=lD W z n ff fx from by rw[pE,hfx];rfl);have Ay:=qh (show l3 W z n own k=(CR own (lD W z n ff fx)).1 from by rw[pE,hfx];rfl);rw[←pE,←hfx]at gV;rw[←pE]at m0;rw[←hfx]at m1;have b0:(k:Int)<(m:Int):=qo;have b1:(0:Int)≤(k:Int):=qo;clear hrf hgf hx1 hx2 hx3 pE hfx
     cases hG:lD W z n ff fx with
     |none=>
      rw[hG]at gV;have Qi:=qh (show l6 (W:Int) z n=5 from yI.o.trans (if_neg fun h=>by
       have h2:=za (W:=W) (z:=z) (n:=n) hlt (Fz.o.trans hG);rw[h2]at h
       cases h.2))
      have cI:Hq (Calls Tryz.prog 34 #[.int .i64 W,.slice A n q,.agg #[.int .i64 ff,.int .i64 fx],.slice A5 own.length c5] wr fun e w'=>e=.returned (.tuple #[.int .i64 0,.int .i64 0,.int .i64 5])∧Below wr.heap.size wr w'):=gV;clear hG gV
      go_wp2_with fail
      refine cI.o.mono ?_;rintro e w5 ⟨rfl,hb5⟩;have aZ:=LA.st hb5;clear hb5 m0 m1
      go_wp2_with fail
      go_ret3
      exact⟨aZ.o,.inl (by rw[Qi.o];exact⟨by decide,rfl⟩)⟩
     |some o1=>
      rw[hG]at gV Ay;obtain⟨r,hr⟩:=qx (kR own o1);have cI:Hq (Calls Tryz.prog 34 #[.int .i64 W,.slice A n q,.agg #[.int .i64 ff,.int .i64 fx],.slice A5 own.length c5] wr fun e w'=>e=.returned (.tuple #[.int .i64 r.1,.int .i64 r.2,.int .i64 0])∧Below wr.heap.size wr w'):=by rw[hr];exact gV
      have HFQ:=qh (show KT W z n own (k+1)=KT W z n own k++[r.1]from by rw[hr];show _++[l3 W z n own k]=_;rw[Ay.o];rfl);have Vs:=qh (TK iX.o (Fz.o.trans hG));clear hG gV hr
      go_wp2_with fail
      refine cI.o.mono ?_;rintro e w5 ⟨rfl,hb5⟩;have aZ:=cS.st hb5;have PQ:=qh (own_below TP.o hb5);clear hb5 m0 m1
      go_wp2_with (at_builtin;go_must (refine bV _ rfl (.tmp 60) (.tmp 62) _ rfl w4.heap.size 2 i0 _ 1 8 Tryz.underlying34 hi iz is ib rfl qo (.slice A7 k c7) k _ (by rfl) PQ.o _ 1 1 (ints [r.1]) rfl rfl (iP _) qm qo aZ.o.size ?_);intro v' w' hown' hb';rw[←aT,←HFQ.o]at hown';have f9:=qh hown';have bG:=qh (aZ.o.trans hb');clear hown' hb')
      go_wp2_with fail
      go_roundw
      case rel=>exact⟨k+1,by omega,qg,Vs,f9.o,bG.o⟩
      case measure=>exact qs
    ·obtain rfl:k=m:=qo
     have b0:¬(k:Int)<(k:Int):=qo;have jH:=qh (show l6 (W:Int) z n=0 from yI.o.trans (if_pos ⟨rfl,iX.o⟩));have l8:=qh (QJ TP.o)
     go_wp2_with fail
     go_ret3
     refine⟨aR.o.trans (cS.o.mono aR.o.size),.inr ⟨jH.o,oG,A6,c6,A7,c7,?_,?_,?_⟩⟩
     ·rw[HM.o]
      rfl
     ·rw[HM.o]
      exact CH.o.below cS.o
     ·rw[HM.o,HOW.o,Int.toNat_natCast]
      exact l8.o
 ·obtain⟨cd,hcd⟩:=qx (codeOf W z n)
  have HC:=qh (show l6 W z n=cd from(if_neg hc).trans hcd.symm);rw[←hcd]at hr hc;have hc1:(cd==0)=false:=by simpa using hc
  have jH:=qh hc;have HR:=qh hr;clear hc hr hcd
  go_enter Tryz.func43,Tryz.ntmps43
  go_wp2_with fail
  refine HR.o.mono ?_;rintro e w1 ⟨v,kk,⟨x,y,A1,B1,C1,D1,E1,a,b,c,d,e1,a',b',c',d',e',rfl⟩,rfl,hb1⟩;have HB1:=qh hb1;clear hb1
  go_wp2_with fail
  go_ret3
  exact⟨HB1.o.alloc HB1.o.size _,.inl (by rw[HC.o];exact⟨jH.o,rfl⟩)⟩
end
end Go.Proofs.YtdnmhhohcedjbaaGreat
