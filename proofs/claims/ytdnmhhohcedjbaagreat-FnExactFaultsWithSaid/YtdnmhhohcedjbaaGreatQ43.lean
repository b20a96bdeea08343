/- Walks and plain lemmas. -/
import Derived.Test.YtdnmhhohcedjbaaGreatQ42
set_option linter.unusedVariables false
set_option linter.unusedSimpArgs false
set_option maxHeartbeats 2000000
set_option maxRecDepth 20000
namespace Go.Proofs.YtdnmhhohcedjbaaGreat
open Go.RowKit
noncomputable def CR (own:List aV)(r:Option (List aV)):Int×Int×Int:=match r with
 |none=>(0,0,5)
 |some o=>((kR own o).1,(kR own o).2,0)
section
variable (W:Nat)(A:OA)(n q:Nat)(z:Nat→Int)(f:Int)(At:Nat)(w:World)
theorem NY (own:List aV)(A5:OA)(c5:Nat)(ha:Rd w A (n*8) (fun j=>.int .i64 (z j)))(h1:1≤W)(h2:W≤24)(hn:n≤1500)(hops:∀i,i<n→dR W z i=true)(hAt:At<n)(hc:fN f (z (At*8))=true)(ho:∀W',Below w.heap.size w W'→CO W' (.slice A5 own.length c5) own):
 Calls Tryz.prog 34 #[.int .i64 W,.slice A n q,.agg #[.int .i64 f,.int .i64 At],.slice A5 own.length c5] w fun e w'=>e=.returned (.tuple #[.int .i64 (CR own (lD W z n f At)).1,.int .i64 (CR own (lD W z n f At)).2.1,.int .i64 (CR own (lD W z n f At)).2.2])∧Below w.heap.size w w':=by
 obtain⟨Wb,m7⟩:∃x',x'=w.alloc (.cells #[.int .i64 f,.int .i64 At] 30):=⟨_,rfl⟩;have HB0:Hq (Below w.heap.size w Wb):=qh (m7▸qb);have bA:Hq (aB Wb w.heap.size 30 #[.int .i64 f,.int .i64 At]):=qh (m7▸aB.at_ _ _ _ rfl);have iT:=qh m7;have HO:=qh ho;have HY:=qh (Yt h1 hops hAt hc);have TU:=qh (U8 W A n q z f At Wb (ha.below HB0.o) h1 h2 hn hops hAt hc);have b0:=(show _=some (Value.int .i64 f)from bA.o.cell 0);have b1:=(show _=some (Value.int .i64 At)from bA.o.cell 1);clear ha m7 ho hops hc bA
 go_enter Tryz.func34,Tryz.ntmps34
 go_upto_region 1 with(fail)
 rw[←iT.o]
 go_wp2_with fail
 refine TU.o.mono ?_;rintro e w1 ⟨v,m,rfl,hl,hm,hown,hb1⟩;have hLY:(eU W z f At n).2=yB W z n f At:=rfl;rw[hLY]at hown hl;have hmm:KR W z n f At=m:=by unfold KR;rw[hl];omega
 rw[hmm]at HY;obtain⟨A2,c2,rfl⟩:=aF hown;have HB1:=HB0.st hb1;have HOWN:=qh hown;have GE:=qh hmm;clear hown hb1 hl hLY hmm b0 b1
 by_cases CX:1500<m
 ·have hmI:(1500:Int)<(m:Int):=qo
  have HR:=qh (show lD W z n f At=none from if_neg (by rw[GE.o];omega));clear CX
  go_wp2_with fail
  go_ret3
  exact⟨by rw[HR.o];rfl,HB1.o⟩
 ·have hmI:¬(1500:Int)<(m:Int):=qo
  have HR:=qh (show lD W z n f At=lE W (nl (yB W z n f At)) m from by
   unfold lD;rw[GE.o,if_pos (show m≤1500 by omega)])
  have jA:=qh (xL W A2 m c2 (nl (yB W z n f At)) w1 (JO (g:=0) HOWN.o fun t ht=>rfl) h1 h2 qo HY.o.2.1 HY.o.2.2);clear CX
  go_wp2_with fail
  refine jA.o.mono ?_;rintro e w2 ⟨hb2,hr2⟩;have HB2:=HB1.st hb2;clear hb2
  cases hF:lE W (nl (yB W z n f At)) m with
  |none=>
   rw[hF]at hr2 HR;obtain rfl:e=.returned (.tuple #[.slice none 0 0,.int .i64 5]):=hr2;clear hF
   go_wp2_with fail
   go_ret3
   exact⟨by rw[HR.o];rfl,HB2.o⟩
  |some o=>
   rw[hF]at hr2 HR;obtain⟨A3,c3,he,hk⟩:=hr2;subst he;have tB:=qh (UA A5 A3 c5 c3 own o w2 (HO.o _ HB2.o) hk.goK);obtain⟨r,hr⟩:=qx (kR own o);have HRR:=qh (show CR own (lD W z n f At)=(r.1,r.2,0)from by rw[HR.o,hr];rfl);rw[←hr]at tB;clear hF hk hr
   go_wp2_with fail
   refine tB.o.mono ?_;rintro e w3 ⟨rfl,hb3⟩;have HB3:=HB2.st hb3;clear hb3
   go_wp2_with fail
   go_ret3
   exact⟨by rw[HRR.o];rfl,HB3.o⟩
theorem AB (ha:Rd w A (n*8) (fun j=>.int .i64 (z j)))(h1:1≤W)(h2:W≤24)(hn:n≤1500)(hq:n≤q)(hops:∀i,i<n→dR W z i=true)(hok:mV W z n)(hcd:codeOf (W:Int) z n=0)(hAt:At<n)(hc:fN f (z (At*8))=true):
 Calls Tryz.prog 40 #[.int .i64 W,.slice A n q,.agg #[.int .i64 f,.int .i64 At]] w (JI w (lD W z n f At)):=by
 obtain⟨Wb,m7⟩:∃x',x'=w.alloc (.cells #[.int .i64 f,.int .i64 At] 30):=⟨_,rfl⟩;have HB0:Hq (Below w.heap.size w Wb):=qh (m7▸qb);have bA:Hq (aB Wb w.heap.size 30 #[.int .i64 f,.int .i64 At]):=qh (m7▸aB.at_ _ _ _ rfl);have iT:=qh m7;have HY:=qh (Yt h1 hops hAt hc);have TU:=qh (UR W A n q z f (At:Int) Wb (ha.below HB0.o) h1 h2 hn hq hops hok hcd);have hfo:kQ n z f (At:Int)=true:=by
  unfold kQ aK;rw[Int.toNat_natCast,hc]
  simp
  omega
 have hG:(eU (W:Int).toNat z f (At:Int).toNat n).2=yB W z n f At:=rfl;have b0:=(show _=some (Value.int .i64 f)from bA.o.cell 0);have b1:=(show _=some (Value.int .i64 At)from bA.o.cell 1);have hlen:=HY.o.1;clear ha m7 hops hc hok bA;obtain⟨m,hm⟩:=qx (KR W z n f At);rw[←hm]at HY hlen;have HM:=qh hm;clear hm
 by_cases CX:m≤1500
 ·have hL:OS (W:Int) z n f (At:Int)=yB W z n f At:=by unfold OS;rw[hG,if_pos ⟨hcd,hfo,by omega⟩]
  have hC:T0 (W:Int) z n f (At:Int)=0:=by unfold T0;rw[hG,if_pos hcd,if_pos hfo,if_pos qo]
  have hN:KQ (W:Int) z n f (At:Int)=m:=by unfold KQ;rw[hL];omega
  have HR:=qh (show lD W z n f At=lE W (nl (yB W z n f At)) m from by
   unfold lD;rw[←HM.o,if_pos CX])
  rw[show oU Wb (W:Int) z n f (At:Int)=q7 Wb m (m*8) (fun j=>.int .i64 (nl (yB W z n f At) j)) 0 by unfold oU;rw[hN,hL,hC]]at TU;clear hL hC hN hG hfo hcd hlen
  go_enter Tryz.func40,Tryz.ntmps40
  go_upto_region 1 with(fail)
  rw[←iT.o]
  go_wp2_with fail
  refine TU.o.mono ?_;rintro e w1 ⟨A2,c2,rfl,hnew⟩;have HB1:=qh (HB0.o.trans (hnew.bl.mono HB0.o.size));have jA:=qh (AH W A2 m c2 (nl (yB W z n f At)) w1 hnew.rd h1 h2 CX HY.o.2.1 HY.o.2.2);clear hnew b0 b1
  go_wp2_with fail
  refine jA.o.mono ?_;rintro e w2 ⟨hb2,hr2⟩;have HB2:=HB1.st hb2;clear hb2
  cases hF:lE W (nl (yB W z n f At)) m with
  |none=>
   rw[hF]at hr2 HR;obtain rfl:e=.returned (.tuple #[.slice none 0 0,.int .i64 5]):=hr2;clear hF
   go_wp2_with fail
   go_ret2
   exact⟨HB2.o,by rw[HR.o];rfl⟩
  |some o=>
   rw[hF]at hr2 HR;obtain⟨A3,c3,he,hk⟩:=hr2;subst he;have HK:=qh hk;clear hF hk
   go_wp2_with fail
   go_ret2
   exact⟨HB2.o,by rw[HR.o];exact⟨A3,c3,rfl,HK.o.less HB1.o.size⟩⟩
 ·have hL:OS (W:Int) z n f (At:Int)=[]:=by unfold OS;rw[hG,if_neg fun h=>by have:=h.2.2;omega]
  have hC:T0 (W:Int) z n f (At:Int)=5:=by unfold T0;rw[hG,if_pos hcd,if_pos hfo,if_neg qo]
  have hN:KQ (W:Int) z n f (At:Int)=0:=by unfold KQ;rw[hL];rfl
  have HR:=qh (show lD W z n f At=none from if_neg (by rw[←HM.o];exact CX));rw[show oU Wb (W:Int) z n f (At:Int)=q7 Wb 0 (0*8) (fun j=>.int .i64 (nl [] j)) 5 by unfold oU;rw[hN,hL,hC]]at TU;clear hL hC hN hG hfo hcd hlen
  go_enter Tryz.func40,Tryz.ntmps40
  go_upto_region 1 with(fail)
  rw[←iT.o]
  go_wp2_with fail
  refine TU.o.mono ?_;rintro e w1 ⟨A2,c2,rfl,hnew⟩;have HB1:=qh (HB0.o.trans (hnew.bl.mono HB0.o.size));clear hnew b0 b1
  go_wp2_with fail
  go_ret2
  exact⟨HB1.o,by rw[HR.o];rfl⟩
end
def qO (w:World)(r:Int×Int×Int)(e:Ending)(w':World):Prop:=e=.returned (.tuple #[.int .i64 r.1,.int .i64 r.2.1,.int .i64 r.2.2])∧Below w.heap.size w w'
theorem qO.of {w w':World}{r:Int×Int×Int}{a b c:Int}{e:Ending}(h:r=(a,b,c))(he:e=.returned (.tuple #[.int .i64 a,.int .i64 b,.int .i64 c]))(hb:Below w.heap.size w w'):qO w r e w':=by
 subst h;exact⟨he,hb⟩
section
variable (W:Int)(A:OA)(n q:Nat)(z:Nat→Int)(f x:Int)(w:World)
end
theorem QJ {w:World}{B m c S:Nat}{A:Option Addr}{L:List Int}{t:TypeId}(h:w.ownsRow B t S (.slice A m c) m (ints L)):Rd w A (m*S) (fun j=>.int .i64 (nl L j)):=fun h0=>by
 have hl:L.length=m*S:=by have:=h.1;simpa [ints]using this
 rcases h.2 with⟨_,h1⟩|⟨g',cap,_,hg,_⟩
 ·rw[h1,Nat.zero_mul]at h0
  omega
 injection hg with hA _ hc;subst hA;refine⟨g',0,rfl,(h.lt g' rfl).2,fun j hj=>?_⟩;rw[Nat.zero_add,h.cellAt j qo]
 simp[ints,List.getD,show j<L.length by omega]
def Og (z:Nat→Int)(n:Nat)(L:List Int):Prop:=∃m,L.length=2*m∧∀k,k<m→∃At:Nat,nl L (k*2+1)=At∧At<n∧fN (nl L (k*2)) (z (At*8))=true
theorem Rh {z:Nat→Int}{n:Nat}{L:List Int}(h:Og z n L):Og z (n+1) L:=by
 obtain⟨m,h1,h2⟩:=h;refine⟨m,h1,fun k hk=>?_⟩;obtain⟨a,b,c,d⟩:=h2 k hk;exact⟨a,b,by omega,d⟩
theorem Wt {z:Nat→Int}{n:Nat}{b:List Int}(h:Og z (n+1) b):∀f,Og z (n+1) (fK z n b f)
 |0=>h
 |f+1=>by
  unfold fK;have h1:=Wt h f
  split
  ·rename_i hc
   obtain⟨m,hl,h2⟩:=h1;refine⟨m+1,by rw[List.length_append,hl];rfl,fun k hk=>?_⟩
   by_cases hkm:k<m
   ·obtain⟨a,b1,c,d⟩:=h2 k hkm
    refine⟨a,?_,c,?_⟩
    ·rw[EO qo];exact b1
    ·rw[EO qo];exact d
   ·obtain rfl:k=m:=qo
    refine⟨n,?_,by omega,?_⟩
    ·simp only[nl,List.getD_eq_getElem?_getD]
     rw[List.getElem?_append_right qo,show k*2+1-(fK z n b f).length=1 by omega]
     rfl
    ·rw[show nl (fK z n b f++[(f:Int)+1,(n:Int)]) (k*2)=(f:Int)+1 from by
      simp only[nl,List.getD_eq_getElem?_getD]
      rw[List.getElem?_append_right qo,show k*2-(fK z n b f).length=0 by omega]
      rfl]
     exact hc
  ·exact h1
theorem Ws (z:Nat→Int):∀n,Og z n (fL z n)
 |0=>⟨0,rfl,fun k hk=>absurd hk (Nat.not_lt_zero k)⟩
 |n+1=>Wt (Rh (Ws z n)) 4
def kI (z:Nat→Int)(n:Nat):Nat:=(fL z n).length/2
def fF (z:Nat→Int)(n k:Nat):Int:=nl (fL z n) (k*2)
def fX (z:Nat→Int)(n k:Nat):Nat:=(nl (fL z n) (k*2+1)).toNat
theorem En {z:Nat→Int}{n k:Nat}(hk:k<kI z n):nl (fL z n) (k*2+1)=(fX z n k:Int)∧fX z n k<n∧fN (fF z n k) (z (fX z n k*8))=true:=by
 obtain⟨m,hl,h⟩:=Ws z n;obtain⟨a,h1,h2,h3⟩:=h k (by unfold kI at hk;omega);have e:fX z n k=a:=by unfold fX;rw[h1,Int.toNat_natCast]
 rw[e];exact⟨h1,h2,h3⟩
theorem IL {z:Nat→Int}{n:Nat}(hn:n≤1500):kI z n≤6000:=by
 obtain⟨m,h1,h2⟩:=Ms z n;unfold kI;omega
noncomputable def EN (W:Nat)(z:Nat→Int)(n k:Nat):Option (List aV):=lD W z n (fF z n k) (fX z n k)
noncomputable def l3 (W:Nat)(z:Nat→Int)(n:Nat)(own:List aV)(k:Nat):Int:=(CR own (EN W z n k)).1
noncomputable def qN (W:Nat)(z:Nat→Int)(n:Nat):Nat→Bool
 |0=>true
 |k+1=>qN W z n k&&(EN W z n k).isSome
theorem za {W:Nat}{z:Nat→Int}{n k m:Nat}(hk:k<m)(h:EN W z n k=none):qN W z n m=false:=by
 induction m with
 |zero=>omega
 |succ m ih=>
  unfold qN
  by_cases e:k=m
  ·subst e
   rw[h]
   simp
  ·rw[ih qo]
   rfl
theorem TK {W:Nat}{z:Nat→Int}{n k:Nat}{o:List aV}(h:qN W z n k=true)(h1:EN W z n k=some o):qN W z n (k+1)=true:=by
 unfold qN;rw[h,h1]
 rfl
section
variable (W:Int)(A:OA)(n q:Nat)(z:Nat→Int)(w:World)
end
end Go.Proofs.YtdnmhhohcedjbaaGreat
