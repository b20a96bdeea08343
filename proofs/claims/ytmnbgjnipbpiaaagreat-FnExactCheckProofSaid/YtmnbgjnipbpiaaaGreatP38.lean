/- Walks and plain lemmas. -/
import Derived.Test.YtmnbgjnipbpiaaaGreatP37
set_option linter.unusedVariables false
set_option linter.unusedSimpArgs false
set_option maxHeartbeats 4000000
set_option maxRecDepth 20000
namespace Go.Proofs.YtmnbgjnipbpiaaaGreat
open Go.RowKit
theorem cT.AU {F:List aP}{S:List (List Int)}(h:cT F S):∀L∈S,L.length≤12000:=fun L hL=>by
 obtain⟨j,hj⟩:=List.getElem?_of_mem hL;have hjl:=(List.getElem?_eq_some_iff.1 hj).1;have hF:=h.2.1;have e2:S.getD j []=L:=by simp[List.getD,hj]
 have h2:¬f9 F S (j+1)=none:=fun hx=>cT.no (k:=j+1) qo hx h
 simp only[f9]at h2
 cases hT:f9 F S j with
 |none=>rw[hT]at h2;exact absurd rfl h2
 |some n=>
  rw[hT]at h2
  simp only at h2
  split at h2
  ·rename_i hc
   rw[←e2];exact hc.2.2.2.1
  ·exact absurd rfl h2
theorem IF {o:List aF}(hg:∀b∈o,p9 b)(hl:o.length≤60):(bS o).length≤1048576∧∀f∈bS o,i5 f:=by
 refine⟨by rw[bS,List.length_map];omega,fun f hf=>?_⟩;obtain⟨b,hb,rfl⟩:=List.mem_map.1 hf;have h:=hg b hb;refine⟨?_,fun L hL=>?_⟩
 ·have h1:=l4 (n:=b.1.toNat) (W:=b.2.1) (by have:=h.2.2.2;omega)
  simp only[n9,List.length_map]
  omega
 ·simp only[n9]at hL
  obtain⟨p,_,rfl⟩:=List.mem_map.1 hL;rw[G.a6];have:=h.2.1;omega
theorem F4 {z:Nat→Int}{n:Nat}(hN:n≤2000)(hv:(cnt z 0 n).isSome=true){o:List aF}(h:cA z n=some o):lD (bS o) (bR o)∧∀L∈bR o,L.length≤1000000*6:=by
 obtain⟨h1,h2⟩:=oS hv h;have hs:∀L∈bR o,L.length≤12000:=fun L hL=>by
  obtain⟨b,hb,rfl⟩:=List.mem_map.1 hL;have:=(h1 b hb).2;omega
 exact⟨⟨IF (fun b hb=>(h1 b hb).1) h2,⟨by rw[bR,List.length_map];omega,fun L hL=>by have:=hs L hL;omega⟩⟩,fun L hL=>by have:=hs L hL;omega⟩
open Classical in
theorem lR (A:OA)(n c:Nat)(z:Nat→Int)(A1 B1:OA)(c1 d1:Nat)(F:List aP)(S:List (List Int))(w:World)(ha:Rd w A (n*6) (fun j=>.int .i64 (z j)))(hn:n≤1048576)(hp:cE true w A1 B1 F S)(hb:lD F S):
 Calls Tryz.prog 6 #[.slice A n c,.agg #[.slice A1 F.length c1,.slice B1 S.length d1]] w fun e w'=>e=.returned (.tuple #[.bool (iX z n F S),.int .i64 (iW z n F S)])∧Below w.heap.size w w':=by
 have HW:=qh ((Below.refl w.heap.size w).alloc ql (.cells #[.slice A1 F.length c1,.slice B1 S.length d1] 36));obtain⟨w1,hw1⟩:=qx (w.alloc (.cells #[.slice A1 F.length c1,.slice B1 S.length d1] 36));have hblk:aA w1 w.heap.size 36 #[.slice A1 F.length c1,.slice B1 S.length d1]:=by rw[hw1];exact aA.at_ w _ _ rfl
 rw[←hw1]at HW;have HA:=qh (ha.below HW.o);have HP:=qh (hp.below HW.o);have cV:=qh hb;have HK:=qh hblk;have x0:w1.cell? ⟨w.heap.size,0,none⟩=some (.slice A1 F.length c1):=hblk.cell 0;have x1:w1.cell? ⟨w.heap.size,1,none⟩=some (.slice B1 S.length d1):=hblk.cell 1;have hz:=hblk.lt;have qZ:=qh (fun Q=>BP w.heap.size A1 B1 c1 d1 F S (w1.drewN Q) x0 x1 (HP.o.below (Below.drewN' (Below.refl _ _) Q)) hb);obtain⟨VB,n8⟩:=qx (iX z n F S);obtain⟨VC,n7⟩:=qx (iW z n F S);rw[←n8,←n7];have mA:=qh n8;have m9:=qh n7;clear ha hp hb hblk n8 n7
 go_enter Tryz.func6,Tryz.ntmps6
 go_wp2_with fail
 rw[←hw1];clear hw1;refine(tB A n c z _ HA.o hn).mono ?_;rintro e w2 ⟨v2,rfl,q2,rfl⟩;have HW2:=qh (Below.drewN' HW.o q2)
 cases h1:(dY z n).isSome with
 |false=>
  have HR:=qh (mR (F:=F) (S:=S) (fun h=>by rw[h1]at h;exact Bool.false_ne_true h.1));clear h1
  go_wp2_with fail
  go_ret2
  exact⟨by rw[mA.o,m9.o,HR.o.1,HR.o.2];first|done|rfl,HW2.o⟩
 |true=>
 have H1:=qh h1;clear h1
 go_wp2_with fail
 refine(qZ.o q2).mono ?_;rintro e w3 ⟨rfl,hb3⟩;have HW3:=HW2.st hb3;have x0:=a7 hb3 hz x0;have x1:=a7 hb3 hz x1;have wH:=qh (Rd.below (HA.o.drewN q2) hb3);have lG:=qh (HP.o.below ((Below.drewN' (Below.refl _ _) q2).trans hb3));have hz3:=Nat.lt_of_lt_of_le hz hb3.size;clear hb3 qZ
 by_cases h2:cT F S
 case neg=>
  have HR:=qh (mR (z:=z) (n:=n) (fun h=>h2 h.2));rw[decide_eq_false h2];clear h2
  go_wp2_with fail
  go_ret2
  exact⟨by rw[mA.o,m9.o,HR.o.1,HR.o.2];first|done|rfl,HW3.o⟩
 rw[decide_eq_true h2];have H2:=qh h2;clear h2;obtain⟨hN,hv⟩:=mQ H1.o;have HN:=qh hN;have HV:=qh hv;have HX:=qh (rJ A n c z w3 wH.o hN hv);clear hN hv
 go_wp2_with fail
 refine HX.o.mono ?_;rintro e w4 ⟨hb4,h4⟩;have dU:=HW3.st hb4;have x0:=a7 hb4 hz3 x0;have x1:=a7 hb4 hz3 x1;have mF:=qh (lG.o.below hb4);have eA:=Nat.lt_of_lt_of_le hz3 hb4.size;clear hb4 HX
 cases hF:cA z n with
 |none=>
  have HR:=qh (vE H1.o H2.o hF);rw[hF]at h4;have h4:e=.returned (.tuple #[.slice none 0 0,.int .i64 5]):=h4;subst h4;clear hF
  go_wp2_with fail
  go_ret2
  exact⟨by rw[mA.o,m9.o,HR.o.1,HR.o.2];first|done|rfl,dU.o⟩
 |some o=>
  have HR:=qh (vD H1.o H2.o hF);have gE:=qh (F4 HN.o HV.o hF);rw[hF]at h4;obtain⟨A5,c5,d5,rfl,L0⟩:=h4;obtain⟨A6,c6,d6,e6,KW,L4⟩:=L0.OF HV.o HN.o hF;injection e6 with e6 e7 e8;subst e6 e8;have PN:=qh (tA A5 c5 o d6 (w4.drewN 1) (KW.drewN 1) L4 (fun b hb=>((oS HV.o hF).1 b hb).1));have eX:=qh (fun(q:Bool) A c B d w' (h1:cE q w' A B (bS o) (bR o)) (h2:cE true w' A1 B1 F S)=>mU (bS o) F (bR o) S A A1 B B1 c c1 d d1 w' h1 h2 gE.o.1 cV.o gE.o.2 (fun L hL=>by have:=H2.o.AU L hL;omega));clear hF L0 KW L4 e7;obtain⟨U,hU⟩:∃U,U=(decide (bS o=F)&&decide (bR o=S)):=⟨_,rfl⟩;rw[←hU]at HR eX;clear hU
  go_wp2_with fail
  go_region_held3 (fun w'=>w'.cell? ⟨w.heap.size,0,none⟩=some (.slice A1 F.length c1)∧w'.cell? ⟨w.heap.size,1,none⟩=some (.slice B1 S.length d1)) (go_keep) (first
   |(go_at_call 18;refine PN.o.mono ?_;rintro e w5 ⟨q5,A7,c7,B7,d7,rfl,eP,aY⟩;have gD:=qh eP;have fF:=qh aY;have y0:=a7 aY eA x0;have y1:=a7 aY eA x1;have hJ:=qh (mF.o.below ((Below.drewN' (Below.refl _ _) 1).trans aY));have yL:=qh ((Below.drewN' dU.o 1).trans (aY.mono dU.o.size));have oG:=Nat.lt_of_lt_of_le eA aY.size;clear eP aY)
   |(go_at_call 17;refine(eX.o q5 A7 c7 B7 d7 w5 gD.o hJ.o).mono ?_;rintro e w6 ⟨rfl,cH⟩;have vQ:=yL.st cH;have y0:=a7 cH oG y0;have y1:=a7 cH oG y1;clear cH))
  rename_i hHeld
  clear hHeld
  go_wp2_with fail
  go_ret2
  exact⟨by rw[mA.o,m9.o,HR.o.1,HR.o.2];first|done|rfl,vQ.o⟩
open Classical in
theorem lW {q:Bool}(A:OA)(n c:Nat)(z:Nat→Int)(A1 B1:OA)(c1 d1:Nat)(F:List aP)(S:List (List Int))(w:World)(ha:Rd w A (n*6) (fun j=>.int .i64 (z j)))(hn:n≤1048576)(hp:cE q w A1 B1 F S)(hb:lD F S):
 Calls Tryz.prog 9 #[.slice A n c,.agg #[.slice A1 F.length c1,.slice B1 S.length d1]] w fun e w'=>e=.returned (.tuple #[.bool (iX z n F S),.int .i64 (iW z n F S)])∧Below w.heap.size w w':=by
 have HW:=qh ((Below.refl w.heap.size w).alloc ql (.cells #[.slice A1 F.length c1,.slice B1 S.length d1] 36));obtain⟨w1,hw1⟩:=qx (w.alloc (.cells #[.slice A1 F.length c1,.slice B1 S.length d1] 36));have hblk:aA w1 w.heap.size 36 #[.slice A1 F.length c1,.slice B1 S.length d1]:=by rw[hw1];exact aA.at_ w _ _ rfl
 rw[←hw1]at HW;have HA:=qh (ha.below HW.o);have HP:=qh (hp.below HW.o);have cV:=qh hb;have x0:w1.cell? ⟨w.heap.size,0,none⟩=some (.slice A1 F.length c1):=hblk.cell 0;have x1:w1.cell? ⟨w.heap.size,1,none⟩=some (.slice B1 S.length d1):=hblk.cell 1;have hz:=hblk.lt;obtain⟨VB,n8⟩:=qx (iX z n F S);obtain⟨VC,n7⟩:=qx (iW z n F S);rw[←n8,←n7];have mA:=qh n8;have m9:=qh n7;clear ha hp hb hblk n8 n7
 go_enter Tryz.func9,Tryz.ntmps9
 go_wp2_with fail
 rw[←hw1];clear hw1;refine(jA A n c z _ HA.o hn).mono ?_;rintro e w2 ⟨rfl,hb2⟩;have HW2:=HW.st hb2;have x0:=a7 hb2 hz x0;have x1:=a7 hb2 hz x1;have HA2:=qh (HA.o.below hb2);have M6:=qh (HP.o.below hb2);have hz2:=Nat.lt_of_lt_of_le hz hb2.size;clear hb2
 cases h1:(dY z n).isSome with
 |false=>
  have HR:=qh (mR (F:=F) (S:=S) (fun h=>by rw[h1]at h;exact Bool.false_ne_true h.1));clear h1
  go_wp2_with fail
  go_ret2
  exact⟨by rw[mA.o,m9.o,HR.o.1,HR.o.2];first|done|rfl,HW2.o⟩
 |true=>
 have H1:=qh h1;clear h1
 go_wp2_with fail
 refine(oF A1 B1 c1 d1 F S w2 M6.o cV.o).mono ?_;rintro e w3 ⟨rfl,hb3⟩;have HW3:=HW2.st hb3;have x0:=a7 hb3 hz2 x0;have x1:=a7 hb3 hz2 x1;have wH:=qh (HA2.o.below hb3);have lG:=qh (M6.o.below hb3);have hz3:=Nat.lt_of_lt_of_le hz2 hb3.size;clear hb3
 by_cases h2:cT F S
 case neg=>
  have HR:=qh (mR (z:=z) (n:=n) (fun h=>h2 h.2));rw[decide_eq_false h2];clear h2
  go_wp2_with fail
  go_ret2
  exact⟨by rw[mA.o,m9.o,HR.o.1,HR.o.2];first|done|rfl,HW3.o⟩
 rw[decide_eq_true h2];have H2:=qh h2;clear h2
 go_wp2_with fail
 refine(wT A n c z w3 wH.o hn).mono ?_;rintro e w4 ⟨hb4,h4⟩;rw[if_pos H1.o]at h4;have dU:=HW3.st hb4;have x0:=a7 hb4 hz3 x0;have x1:=a7 hb4 hz3 x1;have mF:=qh (lG.o.below hb4);have eA:=Nat.lt_of_lt_of_le hz3 hb4.size;clear hb4
 cases hF:cA z n with
 |none=>
  have HR:=qh (vE H1.o H2.o hF);rw[hF]at h4;have h4:e=.returned (.tuple #[.agg #[.slice none 0 0,.slice none 0 0],.int .i64 5]):=h4;subst h4;clear hF;have IX:=qh (dU.o.alloc dU.o.size (.cells #[.slice none 0 0,.slice none 0 0] 36))
  go_wp2_with fail
  go_ret2
  exact⟨by rw[mA.o,m9.o,HR.o.1,HR.o.2];first|done|rfl,IX.o⟩
 |some o=>
  obtain⟨hN,hv⟩:=mQ H1.o;have HR:=qh (vD H1.o H2.o hF);have gE:=qh (F4 hN hv hF);rw[hF]at h4;obtain⟨A7,c7,B7,d7,rfl,eP⟩:=h4;have fE:=qh ((Below.refl w4.heap.size w4).alloc ql (.cells #[.slice A7 (bS o).length c7,.slice B7 (bR o).length d7] 36));have IX:=qh (dU.o.trans (fE.o.mono dU.o.size));have eX:=qh (mX (bS o) F (bR o) S A7 A1 B7 B1 c7 c1 d7 d1 _ (eP.below fE.o) (mF.o.below fE.o) gE.o.1 cV.o gE.o.2 (fun L hL=>by have:=H2.o.AU L hL;omega));clear hF eP hN hv;obtain⟨U,hU⟩:∃U,U=(decide (bS o=F)&&decide (bR o=S)):=⟨_,rfl⟩;rw[←hU]at HR eX;clear hU
  go_wp2_with fail
  refine eX.o.mono ?_;rintro e w6 ⟨rfl,cH⟩;have vQ:=IX.st cH;clear cH
  go_wp2_with fail
  go_ret2
  exact⟨by rw[mA.o,m9.o,HR.o.1,HR.o.2];first|done|rfl,vQ.o⟩
end Go.Proofs.YtmnbgjnipbpiaaaGreat
