/- Walks and plain lemmas. -/
import Derived.Test.YtdnmhhohcedjbaaGreatP41
set_option linter.unusedVariables false
set_option linter.unusedSimpArgs false
set_option maxHeartbeats 4000000
set_option maxRecDepth 20000
namespace Go.Proofs.YtdnmhhohcedjbaaGreat
open Go.RowKit
noncomputable def AM (W:Int)(z:Nat→Int)(n:Nat)(f x:Int):Int×Int×Int:=
 if codeOf W z n=0 then(if kQ n z f x=true then(match lE W.toNat z n with
  |none=>(0,0,5)
  |some own=>CR own (lD W.toNat z n f x.toNat))else(0,0,3))else(0,0,codeOf W z n)
def qO (w:World)(r:Int×Int×Int)(e:Ending)(w':World):Prop:=e=.returned (.tuple #[.int .i64 r.1,.int .i64 r.2.1,.int .i64 r.2.2])∧Below w.heap.size w w'
theorem qO.of {w w':World}{r:Int×Int×Int}{a b c:Int}{e:Ending}(h:r=(a,b,c))(he:e=.returned (.tuple #[.int .i64 a,.int .i64 b,.int .i64 c]))(hb:Below w.heap.size w w'):qO w r e w':=by
 subst h;exact⟨he,hb⟩
section
variable (W:Int)(A:OA)(n q:Nat)(z:Nat→Int)(f x:Int)(w:World)
theorem LK (ha:Rd w A (n*8) (fun j=>.int .i64 (z j)))(hn:n≤1048576):Calls Tryz.prog 8 #[.int .i64 W,.slice A n q,.agg #[.int .i64 f,.int .i64 x]] w (qO w (AM W z n f x)):=by
 obtain⟨Wb,m7⟩:∃x',x'=w.alloc (.cells #[.int .i64 f,.int .i64 x] 30):=⟨_,rfl⟩;have HB0:Hq (Below w.heap.size w Wb):=qh (m7▸qb);have bA:Hq (aB Wb w.heap.size 30 #[.int .i64 f,.int .i64 x]):=qh (m7▸aB.at_ _ _ _ rfl);have iT:=qh m7;have hr:=wE W A n q z Wb (ha.below HB0.o) hn;unfold TL at hr;have HA:=qh (ha.below HB0.o);clear ha m7
 by_cases hc:codeOf W z n=0
 ·obtain⟨W,rfl,hW1,hW2,oG,hops,hok⟩:=wR hc
  have tB:=qh (show AM (W:Int) z n f x=if kQ n z f x=true then(match lE (W:Int).toNat z n with
   |none=>(0,0,5)
   |some own=>CR own (lD (W:Int).toNat z n f x.toNat))else(0,0,3)from if_pos hc)
  rw[hc]at hr;have HR:=qh hr;have dT:=qh hops;have iV:=qh hok;clear hc hr hops hok
  cases hin:aK x 0 ((n:Int)-1)
  ·have iK:=qh hin
   have HI:Hq (∀w',Calls Tryz.prog 31 #[.int .i64 x,.int .i64 0,.int .i64 ((n:Int)-1)] w' fun e w''=>e=.returned (.bool false)∧w''=w'):=qh fun w'=>(dK x 0 ((n:Int)-1) w').mono fun _ _ h=>⟨h.1.trans (by rw[iK.o]),h.2.symm⟩;have Z6:Hq (kQ n z f x=false):=qh (by unfold kQ;rw[hin];rfl);have hwn:IntKind.i64.wrap ((n:Int)-1)=(n:Int)-1:=by rw[IntKind.wrap_i64];omega
   clear hin
   go_enter Tryz.func8,Tryz.ntmps8
   go_upto_region 1 with(fail)
   rw[←iT.o]
   go_wp2_with fail
   refine HR.o.mono ?_;rintro e w1 ⟨v,kk,⟨x0,y0,A1,B1,C1,D1,E1,a,b,c,d,e1,a',b',c',d',e',rfl⟩,rfl,hb1⟩;have HB1:=qh hb1;clear hb1
   go_upto_region 4 with(fail)
   obtain⟨w2,hw2⟩:=qx (w1.alloc (.cells #[.int .i64 x0,.int .i64 y0,.slice A1 a a',.slice B1 b b',.slice C1 c c',.slice D1 d d',.slice E1 e1 e'] 58));rw[←hw2];have HB2:Hq (Below Wb.heap.size Wb w2):=qh (hw2▸HB1.o.alloc HB1.o.size _);have hbx:=bA.o.below HB2.o bA.o.lt;have b1:=(show _=some (Value.int .i64 x)from hbx.cell 1);clear hw2 hbx
   go_quiet ((go_at_call 31;exact Calls.quiet_of_same (HI.o _)))
   go_wp2_with fail
   go_ret3
   exact qO.of (tB.o.trans (if_neg (by rw[Z6.o];decide))) rfl (Below.drewN' (HB0.o.trans (HB2.o.mono HB0.o.size)) _)
  ·have hx:=EX hin
   obtain⟨At,rfl⟩:=Int.eq_ofNat_of_zero_le hx.1;have hAt:At<n:=qo;have ado:(At:Int)<(n:Int):=qo;have adp:(0:Int)≤(At:Int):=qo;have HAT:=qh hAt;have iK:=qh hin;have HI:Hq (∀w',Calls Tryz.prog 31 #[.int .i64 At,.int .i64 0,.int .i64 ((n:Int)-1)] w' fun e w''=>e=.returned (.bool true)∧w''=w'):=qh fun w'=>(dK At 0 ((n:Int)-1) w').mono fun _ _ h=>⟨h.1.trans (by rw[iK.o]),h.2.symm⟩;have hwn:IntKind.i64.wrap ((n:Int)-1)=(n:Int)-1:=by rw[IntKind.wrap_i64];omega
   have hop:=gC hW1 (dT.o At hAt);have hk1:=hop.k1;have zQ:=hop.k9;have pO:=qh (And.intro hk1 zQ);have B6:Hq (kQ n z f (At:Int)=fN f (z (At*8))):=qh (by unfold kQ;rw[hin,Int.toNat_natCast];rfl);clear hin hx hop hk1 zQ;obtain⟨k,hk⟩:=qx (z (At*8));rw[←hk]at pO B6;have B8:=qh hk;clear hk
   cases hcan:fN f k
   ·have pS:=qh hcan
    clear hcan hAt
    go_enter Tryz.func8,Tryz.ntmps8
    go_upto_region 1 with(fail)
    rw[←iT.o]
    go_wp2_with fail
    refine HR.o.mono ?_;rintro e w1 ⟨v,kk,⟨x0,y0,A1,B1,C1,D1,E1,a,b,c,d,e1,a',b',c',d',e',rfl⟩,rfl,hb1⟩;have HB1:=qh hb1;clear hb1
    go_upto_region 4 with(fail)
    obtain⟨w2,hw2⟩:=qx (w1.alloc (.cells #[.int .i64 x0,.int .i64 y0,.slice A1 a a',.slice B1 b b',.slice C1 c c',.slice D1 d d',.slice E1 e1 e'] 58));rw[←hw2];have HB2:Hq (Below Wb.heap.size Wb w2):=qh (hw2▸HB1.o.alloc HB1.o.size _);have hbx:=bA.o.below HB2.o bA.o.lt;have b0:=(show _=some (Value.int .i64 f)from hbx.cell 0);have b1:=(show _=some (Value.int .i64 At)from hbx.cell 1);obtain⟨ga,o,rfl,hga,hra⟩:=(HA.o.below HB2.o) (by have:=HAT.o;omega);have hcell:w2.cell? ⟨ga,o+At*8,none⟩=some (.int .i64 k):=(hra (At*8) (by have:=HAT.o;omega)).trans (by rw[B8.o]);have pN:Hq (∀qd,Calls Tryz.prog 32 #[.int .i64 f,.pointer (some ⟨ga,o+At*8,none⟩)] (w2.drewN qd) fun e w''=>e=.returned (.bool false)∧w''=w2.drewN qd):=qh fun qd=>(CU f k ga (o+At*8) (w2.drewN qd) hcell pO.o.1 pO.o.2).mono fun _ _ h=>⟨h.1.trans (by rw[pS.o]),h.2.symm⟩;clear hw2 hbx hra hga hcell
    go_quiet (first|(go_at_call 31;exact Calls.quiet_of_same (HI.o _))|(go_at_call 32;exact Calls.quiet_of_same (pN.o _)))
    go_wp2_with fail
    go_ret3
    exact qO.of (tB.o.trans (if_neg (by rw[B6.o,pS.o];decide))) rfl (Below.drewN' (HB0.o.trans (HB2.o.mono HB0.o.size)) _)
   ·have pS:=qh hcan
    have HCB:Hq (fN f (z (At*8))=true):=qh (by rw[←B8.o];exact hcan);have hef:=tB.o;rw[if_pos (B6.o.trans hcan),Int.toNat_natCast,Int.toNat_natCast]at hef;have HE2:=qh hef;clear hcan hAt hef tB
    go_enter Tryz.func8,Tryz.ntmps8
    go_upto_region 1 with(fail)
    rw[←iT.o]
    go_wp2_with fail
    refine HR.o.mono ?_;rintro e w1 ⟨v,kk,⟨x0,y0,A1,B1,C1,D1,E1,a,b,c,d,e1,a',b',c',d',e',rfl⟩,rfl,hb1⟩;have HB1:=qh hb1;clear hb1
    go_upto_region 4 with(fail)
    obtain⟨w2,hw2⟩:=qx (w1.alloc (.cells #[.int .i64 x0,.int .i64 y0,.slice A1 a a',.slice B1 b b',.slice C1 c c',.slice D1 d d',.slice E1 e1 e'] 58));rw[←hw2];have HB2:Hq (Below Wb.heap.size Wb w2):=qh (hw2▸HB1.o.alloc HB1.o.size _);have hbx:=bA.o.below HB2.o bA.o.lt;have b0:=(show _=some (Value.int .i64 f)from hbx.cell 0);have b1:=(show _=some (Value.int .i64 At)from hbx.cell 1);obtain⟨ga,o,hA',hga,hra⟩:=(HA.o.below HB2.o) (by have:=HAT.o;omega);subst hA';have hcell:w2.cell? ⟨ga,o+At*8,none⟩=some (.int .i64 k):=(hra (At*8) (by have:=HAT.o;omega)).trans (by rw[B8.o]);have pN:Hq (∀qd,Calls Tryz.prog 32 #[.int .i64 f,.pointer (some ⟨ga,o+At*8,none⟩)] (w2.drewN qd) fun e w''=>e=.returned (.bool true)∧w''=w2.drewN qd):=qh fun qd=>(CU f k ga (o+At*8) (w2.drewN qd) hcell pO.o.1 pO.o.2).mono fun _ _ h=>⟨h.1.trans (by rw[pS.o]),h.2.symm⟩;clear hw2 hbx hra hga hcell
    go_quiet (first|(go_at_call 31;exact Calls.quiet_of_same (HI.o _))|(go_at_call 32;exact Calls.quiet_of_same (pN.o _)))
    obtain⟨w3,hw3⟩:=qx (w2.drewN nq);rw[←hw3];have HB3:Hq (Below Wb.heap.size Wb w3):=qh (hw3▸Below.drewN' HB2.o nq);have jA:=qh (xL W (some ⟨ga,o,none⟩) n q z w3 (HA.o.below HB3.o) hW1 hW2 oG dT.o iV.o);clear hw3 b0 b1
    go_wp2_with fail
    refine jA.o.mono ?_;rintro e w4 ⟨hb4,hr4⟩;have aR:=HB3.st hb4;clear hb4
    cases hF:lE W z n with
    |none=>
     rw[hF]at hr4 HE2;obtain rfl:e=.returned (.tuple #[.slice none 0 0,.int .i64 5]):=hr4;clear hF
     go_wp2_with fail
     go_ret3
     exact qO.of HE2.o rfl (HB0.o.trans (aR.o.mono HB0.o.size))
    |some own=>
     rw[hF]at hr4 HE2;obtain⟨A5,c5,he,hk5⟩:=hr4;subst he;have xD:=qh hk5;have gV:=qh (NY W (some ⟨ga,o,none⟩) n q z f At w4 own A5 c5 (HA.o.below aR.o) hW1 hW2 oG dT.o HAT.o HCB.o fun W' hb=>(xD.o.below hb).goK);obtain⟨r,hr⟩:=qx (CR own (lD W z n f At));have nC:=qh (show AM (W:Int) z n f (At:Int)=(r.1,r.2.1,r.2.2)from HE2.o.trans hr.symm);rw[←hr]at gV;have hbx:=bA.o.below aR.o bA.o.lt;have c0:=(show _=some (Value.int .i64 f)from hbx.cell 0);have c1:=(show _=some (Value.int .i64 At)from hbx.cell 1);clear hF hk5 hbx hr
     go_wp2_with fail
     refine gV.o.mono ?_;rintro e w5 ⟨rfl,hb5⟩;have aZ:=aR.st hb5;clear hb5 c0 c1
     go_wp2_with fail
     go_ret3
     exact qO.of nC.o rfl (HB0.o.trans (aZ.o.mono HB0.o.size))
 ·obtain⟨cd,hcd⟩:=qx (codeOf W z n)
  have tB:=qh (show AM W z n f x=(0,0,cd)from(if_neg hc).trans (by rw[hcd]));rw[←hcd]at hr hc;have hc1:(cd==0)=false:=by simpa using hc
  have HR:=qh hr;clear hc hr hcd
  go_enter Tryz.func8,Tryz.ntmps8
  go_upto_region 1 with(fail)
  rw[←iT.o]
  go_wp2_with fail
  refine HR.o.mono ?_;rintro e w1 ⟨v,kk,⟨x0,y0,A1,B1,C1,D1,E1,a,b,c,d,e1,a',b',c',d',e',rfl⟩,rfl,hb1⟩;have HB1:=HB0.st hb1;clear hb1
  go_wp2_with fail
  go_ret3
  exact qO.of tB.o rfl (HB1.o.alloc HB1.o.size _)
theorem MG (ha:Rd w A (n*8) (fun j=>.int .i64 (z j)))(hn:n≤1048576)(hq:n≤q):Calls Tryz.prog 11 #[.int .i64 W,.slice A n q,.agg #[.int .i64 f,.int .i64 x]] w (qO w (AM W z n f x)):=by
 obtain⟨Wb,m7⟩:∃x',x'=w.alloc (.cells #[.int .i64 f,.int .i64 x] 30):=⟨_,rfl⟩;have HB0:Hq (Below w.heap.size w Wb):=qh (m7▸qb);have bA:Hq (aB Wb w.heap.size 30 #[.int .i64 f,.int .i64 x]):=qh (m7▸aB.at_ _ _ _ rfl);have iT:=qh m7;have hr:=KF W A n q z Wb (ha.below HB0.o) hn;have HA:=qh (ha.below HB0.o);clear ha m7
 by_cases hc:codeOf W z n=0
 ·obtain⟨W,rfl,hW1,hW2,oG,hops,hok⟩:=wR hc
  have tB:=qh (show AM (W:Int) z n f x=if kQ n z f x=true then(match lE (W:Int).toNat z n with
   |none=>(0,0,5)
   |some own=>CR own (lD (W:Int).toNat z n f x.toNat))else(0,0,3)from if_pos hc)
  have HC:=qh hc;rw[hc]at hr;have HR:=qh hr;have dT:=qh hops;have iV:=qh hok;clear hc hr hops hok
  cases hin:aK x 0 ((n:Int)-1)
  ·have iK:=qh hin
   have HI:Hq (∀w',Calls Tryz.prog 37 #[.int .i64 x,.int .i64 0,.int .i64 ((n:Int)-1)] w' fun e w''=>e=.returned (.bool false)∧w''=w'):=qh fun w'=>(eB x 0 ((n:Int)-1) w').mono fun _ _ h=>⟨h.1.trans (by rw[iK.o]),h.2.symm⟩;have Z6:Hq (kQ n z f x=false):=qh (by unfold kQ;rw[hin];rfl);have hwn:IntKind.i64.wrap ((n:Int)-1)=(n:Int)-1:=by rw[IntKind.wrap_i64];omega
   clear hin
   go_enter Tryz.func11,Tryz.ntmps11
   go_upto_region 1 with(fail)
   rw[←iT.o]
   go_wp2_with fail
   refine HR.o.mono ?_;rintro e w1 ⟨rfl,hb1⟩;have hbx:=bA.o.below hb1 bA.o.lt;have b1:=(show _=some (Value.int .i64 x)from hbx.cell 1);have HB1:=qh hb1;clear hb1 hbx
   go_upto_region 4 with(fail)
   go_quiet ((go_at_call 37;exact Calls.quiet_of_same (HI.o _)))
   go_wp2_with fail
   go_ret3
   exact qO.of (tB.o.trans (if_neg (by rw[Z6.o];decide))) rfl (Below.drewN' (HB0.o.trans (HB1.o.mono HB0.o.size)) _)
  ·have hx:=EX hin
   obtain⟨At,rfl⟩:=Int.eq_ofNat_of_zero_le hx.1;have hAt:At<n:=qo;have ado:(At:Int)<(n:Int):=qo;have adp:(0:Int)≤(At:Int):=qo;have HAT:=qh hAt;have iK:=qh hin;have HI:Hq (∀w',Calls Tryz.prog 37 #[.int .i64 At,.int .i64 0,.int .i64 ((n:Int)-1)] w' fun e w''=>e=.returned (.bool true)∧w''=w'):=qh fun w'=>(eB At 0 ((n:Int)-1) w').mono fun _ _ h=>⟨h.1.trans (by rw[iK.o]),h.2.symm⟩;have hwn:IntKind.i64.wrap ((n:Int)-1)=(n:Int)-1:=by rw[IntKind.wrap_i64];omega
   have hop:=gC hW1 (dT.o At hAt);have pO:=qh (And.intro hop.k1 hop.k9);have B6:Hq (kQ n z f (At:Int)=fN f (z (At*8))):=qh (by unfold kQ;rw[hin,Int.toNat_natCast];rfl);clear hin hx hop;obtain⟨k,hk⟩:=qx (z (At*8));rw[←hk]at pO B6;have B8:=qh hk;clear hk
   cases hcan:fN f k
   ·have HF:Hq (∀w',Calls Tryz.prog 38 #[.int .i64 f,.int .i64 k] w' fun e w''=>e=.returned (.bool false)∧w''=w'):=qh fun w'=>(qX f k w' pO.o.1 pO.o.2).mono fun _ _ h=>⟨h.1.trans (by rw[hcan]),h.2.symm⟩
    have pS:=qh hcan;clear hcan hAt
    go_enter Tryz.func11,Tryz.ntmps11
    go_upto_region 1 with(fail)
    rw[←iT.o]
    go_wp2_with fail
    refine HR.o.mono ?_;rintro e w1 ⟨rfl,hb1⟩;have hbx:=bA.o.below hb1 bA.o.lt;have b0:=(show _=some (Value.int .i64 f)from hbx.cell 0);have b1:=(show _=some (Value.int .i64 At)from hbx.cell 1);obtain⟨ga,o,rfl,hga,hra⟩:=(HA.o.below hb1) (by have:=HAT.o;omega);have hcell:w1.cell? ⟨ga,o+At*8,none⟩=some (.int .i64 k):=(hra (At*8) (by have:=HAT.o;omega)).trans (by rw[B8.o]);have HB1:=qh hb1;clear hb1 hbx hra hga
    go_upto_region 4 with(fail)
    go_quiet (first|(go_at_call 37;exact Calls.quiet_of_same (HI.o _))|(go_at_call 38;exact Calls.quiet_of_same (HF.o _)))
    go_wp2_with fail
    go_ret3
    exact qO.of (tB.o.trans (if_neg (by rw[B6.o,pS.o];decide))) rfl (Below.drewN' (HB0.o.trans (HB1.o.mono HB0.o.size)) _)
   ·have HF:Hq (∀w',Calls Tryz.prog 38 #[.int .i64 f,.int .i64 k] w' fun e w''=>e=.returned (.bool true)∧w''=w'):=qh fun w'=>(qX f k w' pO.o.1 pO.o.2).mono fun _ _ h=>⟨h.1.trans (by rw[hcan]),h.2.symm⟩
    have HCB:Hq (fN f (z (At*8))=true):=qh (by rw[←B8.o];exact hcan);have hef:=tB.o;rw[if_pos (B6.o.trans hcan),Int.toNat_natCast,Int.toNat_natCast]at hef;have HE2:=qh hef;clear hcan hAt hef tB
    go_enter Tryz.func11,Tryz.ntmps11
    go_upto_region 1 with(fail)
    rw[←iT.o]
    go_wp2_with fail
    refine HR.o.mono ?_;rintro e w1 ⟨rfl,hb1⟩;have hbx:=bA.o.below hb1 bA.o.lt;have b0:=(show _=some (Value.int .i64 f)from hbx.cell 0);have b1:=(show _=some (Value.int .i64 At)from hbx.cell 1);obtain⟨ga,o,hA',hga,hra⟩:=(HA.o.below hb1) (by have:=HAT.o;omega);subst hA';have hcell:w1.cell? ⟨ga,o+At*8,none⟩=some (.int .i64 k):=(hra (At*8) (by have:=HAT.o;omega)).trans (by rw[B8.o]);have HB1:=qh hb1;clear hb1 hbx hra hga
    go_upto_region 4 with(fail)
    go_quiet (first|(go_at_call 37;exact Calls.quiet_of_same (HI.o _))|(go_at_call 38;exact Calls.quiet_of_same (HF.o _)))
    obtain⟨w3,hw3⟩:=qx (w1.drewN nq);rw[←hw3];have HB3:Hq (Below Wb.heap.size Wb w3):=qh (hw3▸Below.drewN' HB1.o nq);have jA:=qh (AH W (some ⟨ga,o,none⟩) n q z w3 (HA.o.below HB3.o) hW1 hW2 oG dT.o iV.o);clear hw3 b0 b1 hcell
    go_wp2_with fail
    refine jA.o.mono ?_;rintro e w4 ⟨hb4,hr4⟩;have aR:=HB3.st hb4;clear hb4
    cases hF:lE W z n with
    |none=>
     rw[hF]at hr4 HE2;obtain rfl:e=.returned (.tuple #[.slice none 0 0,.int .i64 5]):=hr4;clear hF
     go_wp2_with fail
     go_ret3
     exact qO.of HE2.o rfl (HB0.o.trans (aR.o.mono HB0.o.size))
    |some own=>
     rw[hF]at hr4 HE2;obtain⟨A5,c5,he,hk5⟩:=hr4;subst he;have xD:=qh hk5;have gV:=qh (AB W (some ⟨ga,o,none⟩) n q z f At w4 (HA.o.below aR.o) hW1 hW2 oG hq dT.o iV.o HC.o HAT.o HCB.o);have hbx:=bA.o.below aR.o bA.o.lt;have c0:=(show _=some (Value.int .i64 f)from hbx.cell 0);have c1:=(show _=some (Value.int .i64 At)from hbx.cell 1);clear hF hk5 hbx
     go_wp2_with fail
     refine gV.o.mono ?_;rintro e w5 ⟨hb5,qW⟩;have aZ:=aR.st hb5;have J9:=qh (xD.o.below hb5);clear hb5 c0 c1
     cases hG:lD W z n f At with
     |none=>
      rw[hG]at qW HE2;obtain rfl:e=.returned (.tuple #[.slice none 0 0,.int .i64 5]):=qW;clear hG
      go_wp2_with fail
      go_ret3
      exact qO.of HE2.o rfl (HB0.o.trans (aZ.o.mono HB0.o.size))
     |some o6=>
      rw[hG]at qW HE2;obtain⟨A6,c6,he,zR⟩:=qW;subst he;have HED:=qh (OZ A5 A6 c5 c6 own o6 w5 J9.o.goK zR.goK);obtain⟨r,hr⟩:=qx (kR own o6);have nC:=qh (show AM (W:Int) z n f (At:Int)=(r.1,r.2,0)from HE2.o.trans (by rw[hr];rfl));rw[←hr]at HED;clear hG zR hr
      go_wp2_with fail
      refine HED.o.mono ?_;rintro e w6 ⟨rfl,hb6⟩;have bG:=aZ.st hb6;clear hb6
      go_wp2_with fail
      go_ret3
      exact qO.of nC.o rfl (HB0.o.trans (bG.o.mono HB0.o.size))
 ·obtain⟨cd,hcd⟩:=qx (codeOf W z n)
  have tB:=qh (show AM W z n f x=(0,0,cd)from(if_neg hc).trans (by rw[hcd]));rw[←hcd]at hr hc;have hc1:(cd==0)=false:=by simpa using hc
  have HR:=qh hr;clear hc hr hcd
  go_enter Tryz.func11,Tryz.ntmps11
  go_upto_region 1 with(fail)
  rw[←iT.o]
  go_wp2_with fail
  refine HR.o.mono ?_;rintro e w1 ⟨rfl,hb1⟩;have HB1:=HB0.st hb1;clear hb1
  go_wp2_with fail
  go_ret3
  exact qO.of tB.o rfl HB1.o
end
end Go.Proofs.YtdnmhhohcedjbaaGreat
