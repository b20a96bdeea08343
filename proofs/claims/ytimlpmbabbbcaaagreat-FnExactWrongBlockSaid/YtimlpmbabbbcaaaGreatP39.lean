/- Walks and plain lemmas. -/
import Derived.Test.YtimlpmbabbbcaaaGreatP38
import Derived.Test.YtimlpmbabbbcaaaGreatP34
set_option linter.unusedVariables false
set_option linter.unusedSimpArgs false
set_option maxHeartbeats 2000000
set_option maxRecDepth 20000
namespace Go.Proofs.YtimlpmbabbbcaaaGreat
open Go.RowKit
def l8 (aA:Int)(n:Nat)(d c:Nat→Int)(ns:Nat→Nat)(z:Nat→Nat→Int)(m:Nat)(y:Nat→Int):Int:=if dL aA n d c ns z=true∧kF 24 y m=true then vV 24 y 0 m else 1
def GC (m:Nat)(y:Nat→Int):Nat:=(zA 24 y m).length/6
def rX (w:World)(aA:Int)(n:Nat)(d c:Nat→Int)(ns:Nat→Nat)(z:Nat→Nat→Int)(m:Nat)(y:Nat→Int)(e:Ending)(w':World):Prop:=
 Below w.heap.size w w'∧(if l8 aA n d c ns z m y=0 then∃A1 c1 A2 c2,e=.returned (.tuple #[.slice A1 (hkN aA n d c ns z) c1,.slice A2 (GC m y) c2,.int .i64 0])∧Rd w' A1 (hkN aA n d c ns z*6) (fun j=>.int .i64 ((oG aA.toNat d c ns z n).getD j 0))∧Rd w' A2 (GC m y*6) (fun j=>.int .i64 ((zA 24 y m).getD j 0))∧GC m y≤2000
  else∃u v,e=.returned (.tuple #[u,v,.int .i64 (l8 aA n d c ns z m y)]))
theorem rX.no {w w':World}{aA:Int}{n:Nat}{d c:Nat→Int}{ns:Nat→Nat}{z:Nat→Nat→Int}{m:Nat}{y:Nat→Int}(h:¬(dL aA n d c ns z=true∧kF 24 y m=true))(u v:Value)(hb:Below w.heap.size w w'):rX w aA n d c ns z m y (.returned (.tuple #[u,v,.int .i64 1])) w':=by
 have hc:l8 aA n d c ns z m y=1:=if_neg h;refine⟨hb,?_⟩;rw[hc,if_neg (by decide)];exact⟨u,v,rfl⟩
theorem rX.yes {w w':World}{aA:Int}{n:Nat}{d c:Nat→Int}{ns:Nat→Nat}{z:Nat→Nat→Int}{m:Nat}{y:Nat→Int}(h1:dL aA n d c ns z=true)(h2:kF 24 y m=true){A1 A2:Option Addr}{c1 c2 N:Nat}(hr:Rd w' A1 (hkN aA n d c ns z*6) (fun j=>.int .i64 ((oG aA.toNat d c ns z n).getD j 0))){B:Nat}(ho:w'.ownsRow B 116 6 (.slice A2 N c2) N (ints (zA 24 y m)))(hN:N≤2000)(hb:Below w.heap.size w w'):rX w aA n d c ns z m y (.returned (.tuple #[.slice A1 (hkN aA n d c ns z) c1,.slice A2 N c2,.int .i64 (vV 24 y 0 m)])) w':=by
 have hc:l8 aA n d c ns z m y=vV 24 y 0 m:=if_pos ⟨h1,h2⟩;have hl:GC m y=N:=by
  have h:(zA 24 y m).length=N*6:=by have:=ho.1;simpa [ints]using this
  unfold GC;omega
 refine⟨hb,?_⟩;rw[hc,hl]
 by_cases h0:vV 24 y 0 m=0
 ·rw[if_pos h0,h0]
  exact⟨A1,c1,A2,c2,rfl,hr,rU ho,hN⟩
 ·rw[if_neg h0]
  exact⟨_,_,rfl⟩
theorem L5 (aA:Int)(n:Nat)(d c:Nat→Int)(ns:Nat→Nat)(z:Nat→Nat→Int):hkN aA n d c ns z≤1048576:=by
 unfold hkN
 split
 ·rename_i h
  simp only[dL,Bool.and_eq_true,decide_eq_true_eq]at h
  have h1:=mN h.1.1;have h2:=G5 (d:=d) (c:=c) (aA:=aA.toNat) qo h.2 (Nat.le_refl n);omega
 ·omega
noncomputable def DR (aA:Int)(n:Nat)(d c:Nat→Int)(ns:Nat→Nat)(z:Nat→Nat→Int)(m:Nat)(y:Nat→Int):Bool×Int:=if l8 aA n d c ns z m y=0 then qQ (jL (fun j=>(oG aA.toNat d c ns z n).getD j 0) (hkN aA n d c ns z) (fun j=>(zA 24 y m).getD j 0) (GC m y))else(false,l8 aA n d c ns z m y)
noncomputable def DQ (aA:Int)(n:Nat)(d c:Nat→Int)(ns:Nat→Nat)(z:Nat→Nat→Int)(m:Nat)(y:Nat→Int):Int×Int:=if l8 aA n d c ns z m y=0 then qV (jL (fun j=>(oG aA.toNat d c ns z n).getD j 0) (hkN aA n d c ns z) (fun j=>(zA 24 y m).getD j 0) (GC m y))else(0,l8 aA n d c ns z m y)
theorem zP39x2 {p:Prop}(h:p:=by
 have k0:=HX0.o;have k1:=jE.o
 go_wp2_with fail
 refine(FA.o _ fK.o).mono ?_;rintro e w1 ⟨rfl,hb1⟩;have HB1:=fK.st hb1;clear hb1 k0 k1
 go_wp2_with fail
 refine(oW.o _ HB1.o).mono ?_;rintro e w2 ⟨rfl,hb2⟩;have HB2:=HB1.st hb2;clear hb2
 go_wp2_with fail
 go_ret3
 exact rX.no kL.o _ _ HB2.o):p:=h
theorem zP39x3 {p:Prop}(h:p:=by
 have k0:=HX0.o;have k1:=jE.o
 go_wp2_with fail
 refine(FA.o _ fK.o).mono ?_;rintro e w1 ⟨rfl,hb1⟩;have HB1:=fK.st hb1;clear hb1 k0 k1
 go_wp2_with fail
 go_ret3
 exact rX.no kL.o _ _ HB1.o):p:=h
theorem LV (g:Nat)(aA:Int)(A:OA)(n q:Nat)(d c:Nat→Int)(As:Nat→OA)(ns cs:Nat→Nat)(z:Nat→Nat→Int)(B:OA)(m p:Nat)(y:Nat→Int)(w:World)(hx0:w.cell? ⟨g,0,none⟩=some (.int .i64 aA))(hx1:w.cell? ⟨g,1,none⟩=some (.slice A n q))(ha:eC A n d c As ns cs z w)(hb:Rd w B (m*8) (fun j=>.int .i64 (y j)))(hn:n≤1048576)(hns:∀j,j<n→ns j≤1048576)(hm:m≤1048576):
 Calls Tryz.prog 16 #[.pointer (some ⟨g,0,none⟩),.slice B m p] w (rX w aA n d c ns z m y):=by
 have hg:g<w.heap.size:=World.block_lt_of_cell? w _ hx0;have HG:=qh hg;have HX0:=qh hx0;have jE:=qh hx1;have fK:=qh (Below.refl w.heap.size w);have HA:=qh (fun(W:World) (h:Below w.heap.size w W)=>(cU A n d c As ns cs z).below ha h);have HB:=qh (fun(W:World) (h:Below w.heap.size w W)=>hb.below h);have jY:=qh hns;have FA:=qh (fun(W:World) (h:Below w.heap.size w W)=>IT aA A n q d c As ns cs z W (HA.o W h) hn jY.o);have oW:=qh (fun(W:World) (h:Below w.heap.size w W)=>Co 24 B m p y W (HB.o W h) hm);clear ha hb hns hg hx0 hx1
 cases hc:dL aA n d c ns z
 ·have kL:=qh (show¬(dL aA n d c ns z=true∧kF 24 y m=true)from fun h=>by rw[hc]at h;exact absurd h.1 (by decide))
  rw[hc]at FA;clear hc
  go_enter Tryz.func16,Tryz.ntmps16
  exact zP39x3
 cases hp:kF 24 y m
 ·have kL:=qh (show¬(dL aA n d c ns z=true∧kF 24 y m=true)from fun h=>by rw[hp]at h;exact absurd h.2 (by decide))
  rw[hc]at FA;rw[hp]at oW;clear hc hp
  go_enter Tryz.func16,Tryz.ntmps16
  exact zP39x2
 obtain⟨W,hW,h1,h2,h3,h4⟩:=S9 hp;obtain rfl:W=24:=qo;have YU:=qh (fun(W:World) (h:Below w.heap.size w W)=>WI 24 B m p y W (HB.o W h) h1 h2 h3 h4);have HC:=qh hc;have HP:=qh hp;have pQ:=qh (show BL aA n d c ns z=0 from by unfold BL;rw[if_pos hc]);have HHK:=qh (fun(W:World) (h:Below w.heap.size w W)=>MV aA A n q d c As ns cs z W (HA.o W h) hn jY.o);rw[hc]at FA;rw[hp]at oW;clear hc hp h4 hW
 go_enter Tryz.func16,Tryz.ntmps16
 have k0:=HX0.o;have k1:=jE.o
 go_wp2_with fail
 refine(FA.o _ fK.o).mono ?_;rintro e w1 ⟨rfl,hb1⟩;have HB1:=fK.st hb1;have Uo:=qh hb1;clear hb1 k0 k1
 go_wp2_with fail
 refine(oW.o _ HB1.o).mono ?_;rintro e w2 ⟨rfl,hb2⟩;have HB2:=HB1.st hb2;have Fa:=Uo.st hb2;clear hb2;have k0:=aD Fa.o HG.o HX0.o;have k1:=aD Fa.o HG.o jE.o
 go_wp2_with fail
 refine(HHK.o _ HB2.o).mono ?_;rintro e w3 ⟨A1,c1,he,hnew⟩;rw[pQ.o]at he;subst he;have HR3:=qh hnew.rd;have HB3:=qh (HB2.o.trans (hnew.bl.mono HB2.o.size));clear hnew k0 k1
 go_wp2_with fail
 refine(YU.o _ HB3.o).mono ?_;rintro e w4 ⟨v4,N,rfl,hN,d6,hb4⟩;obtain⟨A4,c4,rfl⟩:=aE d6;have HR4:=qh (HR3.o.below hb4);have aW:=HB3.st hb4;have bS:=qh d6;clear d6 hb4
 go_wp2_with fail
 go_ret3
 exact rX.yes HC.o HP.o HR4.o bS.o hN aW.o
theorem zP39x0 {p:Prop}(h:p:=by
 go_wp2_with fail
 refine KK.o.mono ?_;rintro e w1 ⟨hb1,h⟩;rw[if_neg H0.o]at h;obtain⟨u,v,he⟩:=h;rw[←HC.o]at he;subst he;have HB1:=HL.st hb1;clear hb1 k0 k1
 go_wp2_with fail
 go_ret2
 exact⟨by rw[HV.o,←HC.o];rfl,HB1.o⟩):p:=h
theorem zP39x1 {p:Prop}(h:p:=by
 go_wp2_with fail
 refine YW.o.mono ?_;rintro e w2 ⟨rfl,hb2⟩;have HB2:=HB1.st hb2;clear hb2
 go_wp2_with fail
 go_ret2
 exact⟨by rw[HV.o];rfl,HB2.o⟩):p:=h
theorem MU (aA:Int)(A:OA)(n q:Nat)(d c:Nat→Int)(As:Nat→OA)(ns cs:Nat→Nat)(z:Nat→Nat→Int)(B:OA)(m p:Nat)(y:Nat→Int)(w:World)(ha:eC A n d c As ns cs z w)(hb:Rd w B (m*8) (fun j=>.int .i64 (y j)))(hn:n≤1048576)(hns:∀j,j<n→ns j≤1048576)(hm:m≤1048576):
 Calls Tryz.prog 7 #[.agg #[.int .i64 aA,.slice A n q],.slice B m p] w fun e w'=>e=.returned (.tuple #[.bool (DR aA n d c ns z m y).1,.int .i64 (DR aA n d c ns z m y).2])∧Below w.heap.size w w':=by
 have hl:Below w.heap.size w (w.alloc (.cells #[.int .i64 aA,.slice A n q] 32)):=(Below.refl w.heap.size w).alloc ql _;have lX:=qh (aG.at_ (g':=w.heap.size) w 32 #[.int .i64 aA,.slice A n q] rfl);have KK:=qh (LV w.heap.size aA A n q d c As ns cs z B m p y _ (lX.o.cell 0) (lX.o.cell 1) ((cU A n d c As ns cs z).below ha hl) (hb.below hl) hn hns hm);have HL:=qh hl;have F6:=qh (L5 aA n d c ns z);have k0:(w.alloc (.cells #[.int .i64 aA,.slice A n q] 32)).cell? ⟨w.heap.size,0,none⟩=some (.int .i64 aA):=lX.o.cell 0;have k1:(w.alloc (.cells #[.int .i64 aA,.slice A n q] 32)).cell? ⟨w.heap.size,1,none⟩=some (.slice A n q):=lX.o.cell 1;clear ha hb hns hl
 by_cases h0:l8 aA n d c ns z m y=0
 ·have HV:=qh (show DR aA n d c ns z m y=qQ _ from if_pos h0)
  have H0:=qh h0;clear h0
  go_enter Tryz.func7,Tryz.ntmps7
  go_wp2_with fail
  refine KK.o.mono ?_;rintro e w1 ⟨hb1,h⟩;rw[if_pos H0.o]at h;obtain⟨A1,c1,A2,c2,rfl,hr1,hr2,hN⟩:=h;have HB1:=HL.st hb1;have YW:=qh (IU A1 A2 _ _ c1 c2 _ _ w1 hr1 hr2 F6.o qo);clear hr1 hr2 hb1 k0 k1
  exact zP39x1
 ·have HV:=qh (show DR aA n d c ns z m y=(false,l8 aA n d c ns z m y)from if_neg h0)
  have H0:=qh h0;obtain⟨C,hC⟩:=qx (l8 aA n d c ns z m y);have HC:=qh hC;have hc1:(C==0)=false:=by rw[beq_eq_false_iff_ne,hC];exact h0
  clear h0 hC
  go_enter Tryz.func7,Tryz.ntmps7
  exact zP39x0
theorem IS (aA:Int)(A:OA)(n q:Nat)(d c:Nat→Int)(As:Nat→OA)(ns cs:Nat→Nat)(z:Nat→Nat→Int)(B:OA)(m p:Nat)(y:Nat→Int)(w:World)(ha:eC A n d c As ns cs z w)(hb:Rd w B (m*8) (fun j=>.int .i64 (y j)))(hn:n≤1048576)(hns:∀j,j<n→ns j≤1048576)(hm:m≤1048576):
 Calls Tryz.prog 13 #[.agg #[.int .i64 aA,.slice A n q],.slice B m p] w fun e w'=>e=.returned (.tuple #[.int .i64 (DQ aA n d c ns z m y).1,.int .i64 (DQ aA n d c ns z m y).2])∧Below w.heap.size w w':=by
 have hl:Below w.heap.size w (w.alloc (.cells #[.int .i64 aA,.slice A n q] 32)):=(Below.refl w.heap.size w).alloc ql _;have lX:=qh (aG.at_ (g':=w.heap.size) w 32 #[.int .i64 aA,.slice A n q] rfl);have KK:=qh (LV w.heap.size aA A n q d c As ns cs z B m p y _ (lX.o.cell 0) (lX.o.cell 1) ((cU A n d c As ns cs z).below ha hl) (hb.below hl) hn hns hm);have HL:=qh hl;have F6:=qh (L5 aA n d c ns z);have k0:(w.alloc (.cells #[.int .i64 aA,.slice A n q] 32)).cell? ⟨w.heap.size,0,none⟩=some (.int .i64 aA):=lX.o.cell 0;have k1:(w.alloc (.cells #[.int .i64 aA,.slice A n q] 32)).cell? ⟨w.heap.size,1,none⟩=some (.slice A n q):=lX.o.cell 1;clear ha hb hns hl
 by_cases h0:l8 aA n d c ns z m y=0
 ·have HV:=qh (show DQ aA n d c ns z m y=qV _ from if_pos h0)
  have H0:=qh h0;clear h0
  go_enter Tryz.func13,Tryz.ntmps13
  go_wp2_with fail
  refine KK.o.mono ?_;rintro e w1 ⟨hb1,h⟩;rw[if_pos H0.o]at h;obtain⟨A1,c1,A2,c2,rfl,hr1,hr2,hN⟩:=h;have HB1:=HL.st hb1;have YW:=qh (CP A1 A2 _ _ c1 c2 _ _ w1 hr1 hr2 F6.o qo);clear hr1 hr2 hb1 k0 k1
  exact zP39x1
 ·have HV:=qh (show DQ aA n d c ns z m y=(0,l8 aA n d c ns z m y)from if_neg h0)
  have H0:=qh h0;obtain⟨C,hC⟩:=qx (l8 aA n d c ns z m y);have HC:=qh hC;have hc1:(C==0)=false:=by rw[beq_eq_false_iff_ne,hC];exact h0
  clear h0 hC
  go_enter Tryz.func13,Tryz.ntmps13
  exact zP39x0
theorem EV (aA:Int)(A:OA)(n q:Nat)(d c:Nat→Int)(As:Nat→OA)(ns cs:Nat→Nat)(z:Nat→Nat→Int)(B:OA)(m p:Nat)(y:Nat→Int)(w:World)(ha:eC A n d c As ns cs z w)(hb:Rd w B (m*8) (fun j=>.int .i64 (y j)))(hn:n≤1048576)(hns:∀j,j<n→ns j≤1048576)(hm:m≤1048576):
 Calls Tryz.prog 20 #[.agg #[.int .i64 aA,.slice A n q],.slice B m p] w (rX w aA n d c ns z m y):=by
 have hg:w.heap.size<(w.alloc (.cells #[.int .i64 aA,.slice A n q] 32)).heap.size:=by simp
 have HG:=qh hg;have fK:=qh ((Below.refl w.heap.size w).alloc ql (.cells #[.int .i64 aA,.slice A n q] 32));have lX:=qh (aG.at_ (g':=w.heap.size) w 32 #[.int .i64 aA,.slice A n q] rfl);have HX0:=qh (show(w.alloc (.cells #[.int .i64 aA,.slice A n q] 32)).cell? ⟨w.heap.size,0,none⟩=some (.int .i64 aA)from lX.o.cell 0);have jE:=qh (show(w.alloc (.cells #[.int .i64 aA,.slice A n q] 32)).cell? ⟨w.heap.size,1,none⟩=some (.slice A n q)from lX.o.cell 1);have HA:=qh (fun(W:World) (h:Below w.heap.size w W)=>(cU A n d c As ns cs z).below ha h);have HB:=qh (fun(W:World) (h:Below w.heap.size w W)=>hb.below h);have jY:=qh hns;have FA:=qh (fun(W:World) (h:Below w.heap.size w W)=>JG aA A n q d c As ns cs z W (HA.o W h) hn jY.o);have oW:=qh (fun(W:World) (h:Below w.heap.size w W)=>V8 24 B m p y W (HB.o W h) hm);clear ha hb hns hg
 cases hc:dL aA n d c ns z
 ·have kL:=qh (show¬(dL aA n d c ns z=true∧kF 24 y m=true)from fun h=>by rw[hc]at h;exact absurd h.1 (by decide))
  rw[hc]at FA;clear hc
  go_enter Tryz.func20,Tryz.ntmps20
  exact zP39x3
 cases hp:kF 24 y m
 ·have kL:=qh (show¬(dL aA n d c ns z=true∧kF 24 y m=true)from fun h=>by rw[hp]at h;exact absurd h.2 (by decide))
  rw[hc]at FA;rw[hp]at oW;clear hc hp
  go_enter Tryz.func20,Tryz.ntmps20
  exact zP39x2
 have G7:=hc
 simp only[dL,Bool.and_eq_true,decide_eq_true_eq]at G7
 have hcc:=mN G7.1.1;obtain⟨C,rfl⟩:=Int.eq_ofNat_of_zero_le (show 0≤aA by omega);clear G7 hcc;obtain⟨W,hW,h1,h2,h3,h4⟩:=S9 hp;obtain rfl:W=24:=qo;have YU:=qh (fun(W:World) (h:Below w.heap.size w W)=>Ga 24 B m p y W (HB.o W h) h1 h2 h3 h4);have HC:=qh hc;have HP:=qh hp;have HHK:=qh (fun(W:World) (h:Below w.heap.size w W)=>XH C A n q d c As ns cs z W (HA.o W h) HC.o);rw[hc]at FA;rw[hp]at oW;clear hc hp h4 hW
 go_enter Tryz.func20,Tryz.ntmps20
 have k0:=HX0.o;have k1:=jE.o
 go_wp2_with fail
 refine(FA.o _ fK.o).mono ?_;rintro e w1 ⟨rfl,hb1⟩;have HB1:=fK.st hb1;have Uo:=qh hb1;clear hb1 k0 k1
 go_wp2_with fail
 refine(oW.o _ HB1.o).mono ?_;rintro e w2 ⟨rfl,hb2⟩;have HB2:=HB1.st hb2;have Fa:=Uo.st hb2;clear hb2
 go_wp2_with fail
 refine(YU.o _ HB2.o).mono ?_;rintro e w3 ⟨v4,N,rfl,hN,d6,hb4⟩;obtain⟨A4,c4,rfl⟩:=aE d6;have ac9:=Fa.st hb4;have HB3:=HB2.st hb4;have bS:=qh d6;have k0:=aD ac9.o HG.o HX0.o;have k1:=aD ac9.o HG.o jE.o;clear d6 hb4
 go_wp2_with fail
 refine(HHK.o _ HB3.o).mono ?_;rintro e w4 ⟨v5,nE,rfl,JN,hb5⟩;obtain⟨A5,c5,rfl⟩:=aE JN;have aW:=HB3.st hb5;have d9:=qh (own_below bS.o hb5);have lO:=qh (show hkN (C:Int) n d c ns z=nE from by
  have h:(oG C d c ns z n).length=nE*6:=by have:=JN.1;simpa [ints]using this
  unfold hkN;rw[if_pos HC.o,Int.toNat_natCast];omega)
 have vJ:=qh (show Rd w4 A5 (hkN (C:Int) n d c ns z*6) (fun j=>.int .i64 ((oG (C:Int).toNat d c ns z n).getD j 0))from by
  rw[lO.o,Int.toNat_natCast];exact rU JN)
 clear JN hb5 k0 k1
 go_wp2_with fail
 go_ret3
 have hfin:=rX.yes (c1:=c5) HC.o HP.o vJ.o d9.o hN aW.o;rw[lO.o]at hfin;exact hfin
theorem N8 (aA:Int)(A:OA)(n q:Nat)(d c:Nat→Int)(As:Nat→OA)(ns cs:Nat→Nat)(z:Nat→Nat→Int)(B:OA)(m p:Nat)(y:Nat→Int)(w:World)(ha:eC A n d c As ns cs z w)(hb:Rd w B (m*8) (fun j=>.int .i64 (y j)))(hn:n≤1048576)(hns:∀j,j<n→ns j≤1048576)(hm:m≤1048576):
 Calls Tryz.prog 10 #[.agg #[.int .i64 aA,.slice A n q],.slice B m p] w fun e w'=>e=.returned (.tuple #[.bool (DR aA n d c ns z m y).1,.int .i64 (DR aA n d c ns z m y).2])∧Below w.heap.size w w':=by
 have hl:Below w.heap.size w (w.alloc (.cells #[.int .i64 aA,.slice A n q] 32)):=(Below.refl w.heap.size w).alloc ql _;have lX:=qh (aG.at_ (g':=w.heap.size) w 32 #[.int .i64 aA,.slice A n q] rfl);have KK:=qh (EV aA A n q d c As ns cs z B m p y _ ((cU A n d c As ns cs z).below ha hl) (hb.below hl) hn hns hm);have HL:=qh hl;have F6:=qh (L5 aA n d c ns z);have k0:(w.alloc (.cells #[.int .i64 aA,.slice A n q] 32)).cell? ⟨w.heap.size,0,none⟩=some (.int .i64 aA):=lX.o.cell 0;have k1:(w.alloc (.cells #[.int .i64 aA,.slice A n q] 32)).cell? ⟨w.heap.size,1,none⟩=some (.slice A n q):=lX.o.cell 1;clear ha hb hns hl
 by_cases h0:l8 aA n d c ns z m y=0
 ·have HV:=qh (show DR aA n d c ns z m y=qQ _ from if_pos h0)
  have H0:=qh h0;clear h0
  go_enter Tryz.func10,Tryz.ntmps10
  go_wp2_with fail
  refine KK.o.mono ?_;rintro e w1 ⟨hb1,h⟩;rw[if_pos H0.o]at h;obtain⟨A1,c1,A2,c2,rfl,hr1,hr2,hN⟩:=h;have HB1:=HL.st hb1;have YW:=qh (JH A1 A2 _ _ c1 c2 _ _ w1 hr1 hr2 F6.o qo);clear hr1 hr2 hb1 k0 k1
  exact zP39x1
 ·have HV:=qh (show DR aA n d c ns z m y=(false,l8 aA n d c ns z m y)from if_neg h0)
  have H0:=qh h0;obtain⟨C,hC⟩:=qx (l8 aA n d c ns z m y);have HC:=qh hC;have hc1:(C==0)=false:=by rw[beq_eq_false_iff_ne,hC];exact h0
  clear h0 hC
  go_enter Tryz.func10,Tryz.ntmps10
  exact zP39x0
theorem JF (aA:Int)(A:OA)(n q:Nat)(d c:Nat→Int)(As:Nat→OA)(ns cs:Nat→Nat)(z:Nat→Nat→Int)(B:OA)(m p:Nat)(y:Nat→Int)(w:World)(ha:eC A n d c As ns cs z w)(hb:Rd w B (m*8) (fun j=>.int .i64 (y j)))(hn:n≤1048576)(hns:∀j,j<n→ns j≤1048576)(hm:m≤1048576):
 Calls Tryz.prog 14 #[.agg #[.int .i64 aA,.slice A n q],.slice B m p] w fun e w'=>e=.returned (.tuple #[.int .i64 (DQ aA n d c ns z m y).1,.int .i64 (DQ aA n d c ns z m y).2])∧Below w.heap.size w w':=by
 have hl:Below w.heap.size w (w.alloc (.cells #[.int .i64 aA,.slice A n q] 32)):=(Below.refl w.heap.size w).alloc ql _;have lX:=qh (aG.at_ (g':=w.heap.size) w 32 #[.int .i64 aA,.slice A n q] rfl);have KK:=qh (EV aA A n q d c As ns cs z B m p y _ ((cU A n d c As ns cs z).below ha hl) (hb.below hl) hn hns hm);have HL:=qh hl;have F6:=qh (L5 aA n d c ns z);have k0:(w.alloc (.cells #[.int .i64 aA,.slice A n q] 32)).cell? ⟨w.heap.size,0,none⟩=some (.int .i64 aA):=lX.o.cell 0;have k1:(w.alloc (.cells #[.int .i64 aA,.slice A n q] 32)).cell? ⟨w.heap.size,1,none⟩=some (.slice A n q):=lX.o.cell 1;clear ha hb hns hl
 by_cases h0:l8 aA n d c ns z m y=0
 ·have HV:=qh (show DQ aA n d c ns z m y=qV _ from if_pos h0)
  have H0:=qh h0;clear h0
  go_enter Tryz.func14,Tryz.ntmps14
  go_wp2_with fail
  refine KK.o.mono ?_;rintro e w1 ⟨hb1,h⟩;rw[if_pos H0.o]at h;obtain⟨A1,c1,A2,c2,rfl,hr1,hr2,hN⟩:=h;have HB1:=HL.st hb1;have YW:=qh (CQ A1 A2 _ _ c1 c2 _ _ w1 hr1 hr2 F6.o qo);clear hr1 hr2 hb1 k0 k1
  exact zP39x1
 ·have HV:=qh (show DQ aA n d c ns z m y=(0,l8 aA n d c ns z m y)from if_neg h0)
  have H0:=qh h0;obtain⟨C,hC⟩:=qx (l8 aA n d c ns z m y);have HC:=qh hC;have hc1:(C==0)=false:=by rw[beq_eq_false_iff_ne,hC];exact h0
  clear h0 hC
  go_enter Tryz.func14,Tryz.ntmps14
  exact zP39x0
end Go.Proofs.YtimlpmbabbbcaaaGreat
