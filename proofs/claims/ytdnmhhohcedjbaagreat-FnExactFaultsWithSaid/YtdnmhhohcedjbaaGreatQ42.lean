/- Walks and plain lemmas. -/
import Derived.Test.YtdnmhhohcedjbaaGreatQ37
import Derived.Test.YtdnmhhohcedjbaaGreatQ41
set_option linter.unusedVariables false
set_option linter.unusedSimpArgs false
set_option maxHeartbeats 2000000
set_option maxRecDepth 20000
namespace Go.Proofs.YtdnmhhohcedjbaaGreat
open Go.RowKit
theorem Ra {W:Nat}{z:Nat→Int}{n:Nat}(h1:1≤W)(h2:W≤24)(hn:n≤1500)(h:∀i,i<n→dR W z i=true):gZ W z n=true:=by
 have hop:oY W z n=true:=by
  clear hn
  induction n with
  |zero=>rfl
  |succ n ih=>
   show(oY W z n&&dR W z n)=true;rw[ih fun i hi=>h i qo,h n qo]
   rfl
 unfold gZ aK
 simp only[Bool.and_eq_true,decide_eq_true_eq]
 exact⟨by omega,hn,hop⟩
theorem LL (A:OA)(N c:Nat)(z:Nat→Int)(w:World)(ha:Rd w A (N*6) (fun j=>.int .i64 (z j)))(hN:N≤2000)(hv:(cnt z 0 N).isSome=true):
 Calls Tryz.prog 49 #[.slice A N c] w (JI w (iI z N)):=by
 have HC:=qh (show(R5 z N).isSome=true from by
  unfold R5;rw[if_pos hN];exact hv)
 have HA:=qh ha;have HV:=qh hv;clear ha hv
 go_enter Tryz.func49,Tryz.ntmps49
 go_wp2_with fail
 refine(WJ A N c z w HA.o qo).mono ?_;rintro e w1 ⟨v1,he,q1,rfl⟩;rw[HC.o]at he;subst he;have HA1:=qh (HA.o.drewN q1);have HW1:=qh (Below.drewN' (Below.refl w.heap.size w) q1);clear HC
 go_wp2_with fail
 refine(UC A N c z _ HA1.o hN HV.o).mono ?_;rintro e w2 h2;have h3:=JI.of HV.o hN HW1.o h2;have HP:=qh h3.2;have HB:=qh h3.1;clear h2 h3
 cases hF:iI z N with
 |none=>
  rw[hF]at HP;have bX:=qh hF;obtain rfl:e=.returned (.tuple #[.slice none 0 0,.int .i64 5]):=HP.o;clear hF
  go_wp2_with fail
  go_ret2
  exact⟨HB.o,by rw[bX.o];rfl⟩
 |some o=>
  rw[hF]at HP;have bX:=qh hF;obtain⟨A2,c2,he2,hk⟩:=HP.o;subst he2;have HK:=qh hk;clear hF hk HP
  go_wp2_with fail
  go_ret2
  exact⟨HB.o,by rw[bX.o];exact⟨A2,c2,rfl,HK.o⟩⟩
theorem zQ42x1 {p:Prop}(h:p:=by
 go_wp2_with fail
 refine HT.o.mono ?_;rintro e w1 ⟨v1,N,he,hN,ho,hb⟩;rw[HC.o]at he;subst he;have HB1:=qh hb;clear ho hb
 go_wp2_with fail
 go_ret2
 exact⟨HB1.o,by rw[HF.o];rfl⟩):p:=h
theorem zQ42x2 {p:Prop}(h:p:=by
 rw[hF]at h2;have bX:=qh (HF.o.trans hF);obtain rfl:e=.returned (.tuple #[.slice none 0 0,.int .i64 5]):=h2;clear hF
 go_wp2_with fail
 go_ret2
 exact⟨HB2.o,by rw[bX.o];rfl⟩):p:=h
theorem xL (W:Nat)(A:OA)(n q:Nat)(z:Nat→Int)(w:World)(ha:Rd w A (n*8) (fun j=>.int .i64 (z j)))(h1:1≤W)(h2:W≤24)(hn:n≤1500)(hops:∀i,i<n→dR W z i=true)(hok:mV W z n):
 Calls Tryz.prog 33 #[.int .i64 W,.slice A n q] w (JI w (lE W z n)):=by
 have hp:=Ra h1 h2 hn hops;have HT:=qh (NH W A n q z w ha qo);have hC:DG W z n=mT W z 0 n:=if_pos hp;have hL:DF W z n=nF W z n:=if_pos hp
 rcases VB hok with h0|h5
 ·have HV:=qh (VA h1 h2 hops h0)
  have HF:=qh (show lE W z n=iI (nl (nF W z n)) (KB W z n)from if_pos h0);have HC:=qh (hC.trans h0);have HL:=qh hL;clear hC hL h0 hp hops hok ha
  go_enter Tryz.func33,Tryz.ntmps33
  go_wp2_with fail
  refine HT.o.mono ?_;rintro e w1 ⟨v1,N,he,hN,ho,hb⟩;rw[HC.o]at he;rw[HL.o]at ho;subst he;obtain⟨A1,c1,rfl⟩:=aF ho;have Mf:KB W z n=N:=by
   have h:(nF W z n).length=N*6:=by have:=ho.1;simpa [ints]using this
   unfold KB;omega
  rw[Mf]at HV HF;have HX:=qh (LL A1 N c1 (nl (nF W z n)) w1 (rG ho) hN HV.o);have HB1:=qh hb;clear ho hb Mf
  go_wp2_with fail
  refine HX.o.mono ?_;rintro e w2 ⟨hb2,h2⟩;have HB2:=HB1.st hb2;clear hb2
  cases hF:iI (nl (nF W z n)) N with
  |none=>
   exact zQ42x2
  |some o=>
   rw[hF]at h2;have bX:=qh (HF.o.trans hF);obtain⟨A2,c2,he2,hk⟩:=h2;subst he2;have HK:=qh hk;clear hF hk
   go_wp2_with fail
   go_ret2
   exact⟨HB2.o,by rw[bX.o];exact⟨A2,c2,rfl,HK.o.less HB1.o.size⟩⟩
 ·have HF:=qh (show lE W z n=none from if_neg (by rw[h5];decide))
  have HC:=qh (hC.trans h5);clear hC hL h5 hp hops hok ha
  go_enter Tryz.func33,Tryz.ntmps33
  exact zQ42x1
theorem AH (W:Nat)(A:OA)(n q:Nat)(z:Nat→Int)(w:World)(ha:Rd w A (n*8) (fun j=>.int .i64 (z j)))(h1:1≤W)(h2:W≤24)(hn:n≤1500)(hops:∀i,i<n→dR W z i=true)(hok:mV W z n):
 Calls Tryz.prog 39 #[.int .i64 W,.slice A n q] w (JI w (lE W z n)):=by
 have HT:=qh (Hl W A n q z w ha h1 h2 hn hops)
 rcases VB hok with h0|h5
 ·have HV:=qh (VA h1 h2 hops h0)
  have HF:=qh (show lE W z n=iI (nl (nF W z n)) (KB W z n)from if_pos h0);have HC:=qh h0;clear h0 hops hok ha
  go_enter Tryz.func39,Tryz.ntmps39
  go_wp2_with fail
  refine HT.o.mono ?_;rintro e w1 ⟨v1,N,he,hN,ho,hb⟩;rw[HC.o]at he;subst he;obtain⟨A1,c1,rfl⟩:=aF ho;have Mf:KB W z n=N:=by
   have h:(nF W z n).length=N*6:=by have:=ho.1;simpa [ints]using this
   unfold KB;omega
  rw[Mf]at HV HF;have HX:=qh (Fh A1 N c1 (nl (nF W z n)) w1 (rG ho) hN HV.o);have HB1:=qh hb;clear ho hb Mf
  go_wp2_with fail
  refine HX.o.mono ?_;rintro e w2 hx2;obtain⟨hb2,h2⟩:=JI.of HV.o hN HB1.o hx2;have HB2:=qh hb2;clear hb2 hx2
  cases hF:iI (nl (nF W z n)) N with
  |none=>
   exact zQ42x2
  |some o=>
   rw[hF]at h2;have bX:=qh (HF.o.trans hF);obtain⟨A2,c2,he2,hk⟩:=h2;subst he2;have HK:=qh hk;clear hF hk
   go_wp2_with fail
   go_ret2
   exact⟨HB2.o,by rw[bX.o];exact⟨A2,c2,rfl,HK.o⟩⟩
 ·have HF:=qh (show lE W z n=none from if_neg (by rw[h5];decide))
  have HC:=qh h5;clear h5 hops hok ha
  go_enter Tryz.func39,Tryz.ntmps39
  exact zQ42x1
theorem T5 {L M:List aV}:∀i,¬cZ L M i<0→(i:Int)≤cZ L M i∧cZ L M i≤i+L.length∧cZ L M i≤i+M.length:=by
 induction L generalizing M with
 |nil=>
  intro i h
  cases M with
  |nil=>exact absurd (show cZ [] [] i<0 from by show(-1:Int)<0;omega) h
  |cons b M=>
   show(i:Int)≤i∧(i:Int)≤i+(0:Nat)∧(i:Int)≤i+((b::M).length:Nat);omega
 |cons a L ih=>
  intro i h
  cases M with
  |nil=>
   show(i:Int)≤i∧(i:Int)≤i+((a::L).length:Nat)∧(i:Int)≤i+(0:Nat);omega
  |cons b M=>
   have e:cZ (a::L) (b::M) i=if G0 a b=true then cZ L M (i+1)else i:=rfl;rw[e]at h ⊢
   split
   ·rename_i hq
    rw[if_pos hq]at h;have:=ih (i+1) h
    simp only[List.length_cons]
    omega
   ·simp only[List.length_cons]
    omega
theorem zQ42x0 {p:Prop}(h:p:=by
 go_enter Tryz.func64,Tryz.ntmps64
 go_wp2_with fail
 refine HD.o.mono ?_;rintro e w1 ⟨rfl,hb1⟩;have HB1:=qh hb1;clear hb1
 go_wp2_with fail
 go_quiet (fail)
 go_wp2_with fail
 go_ret2
 exact⟨by rw[HE.o];rfl,Below.drewN' HB1.o nq⟩):p:=h
theorem zQ42x3 {p:Prop}(h:p:=by
 go_wp2_with fail
 go_quiet ((go_at_call 94;exact Calls.quiet_of (HQ.o _)))
 go_wp2_with fail
 go_ret2
 exact⟨by rw[HE.o];rfl,Below.drewN' HB1.o nq⟩):p:=h
theorem UA (A A':OA)(c c':Nat)(L M:List aV)(w:World)(ha:CO w (.slice A L.length c) L)(hb:CO w (.slice A' M.length c') M):
 Calls Tryz.prog 64 #[.slice A L.length c,.slice A' M.length c'] w fun e w'=>e=.returned (.tuple #[.int .i64 (kR L M).1,.int .i64 (kR L M).2])∧Below w.heap.size w w':=by
 obtain⟨⟨A0,c0,d,e0,h1,k1⟩,g1⟩:=ha;obtain⟨⟨B0,b0,d',e1,h2,k2⟩,g2⟩:=hb;injection e0 with e0 _ e2;injection e1 with e1 _ e3;subst e0 e1 e2 e3;have s8:=qh g1;have HG2:=qh g2;have HA:=And.intro h1 k1;have HB:=And.intro h2 k2;have HD:=qh (WG L M A A' c c' d d' w HA.1 HB.1 HA.2 HB.2);have gB:=qh HA;have HB0:=qh HB;have hl:=k1.1;have hm:=k2.1;clear HA HB h1 h2 k1 k2 g1 g2;obtain⟨x,hx⟩:=qx (cZ L M 0);have HX:=qh hx;have MM:=T5 (L:=L) (M:=M) 0;rw[←hx]at HD MM;clear hx
 by_cases h0:x<0
 ·have HE:=qh (show kR L M=(0,-1)from by unfold kR;rw[←HX.o,if_pos h0])
  go_enter Tryz.func64,Tryz.ntmps64
  go_wp2_with fail
  refine HD.o.mono ?_;rintro e w1 ⟨rfl,hb1⟩;have HB1:=qh hb1;clear hb1
  go_wp2_with fail
  go_ret2
  exact⟨by rw[HE.o];rfl,HB1.o⟩
 obtain⟨k,rfl⟩:∃k:Nat,x=k:=⟨x.toNat,by omega⟩;have hbd:=MM h0;clear MM h0;have HE:=qh (show kR L M=if(L.length:Int)≤(k:Int)∨(M.length:Int)≤(k:Int)∨(L.getD k (0,[],[])).2.2≠(M.getD k (0,[],[])).2.2 then(2,(k:Int))else(1,(k:Int))from by
  unfold kR;rw[←HX.o,if_neg (show¬(k:Int)<0 by omega),Int.toNat_natCast])
 have b1:¬(k:Int)<0:=qo;have b0:(0:Int)≤(k:Int):=qo
 by_cases hL:L.length≤k
 ·rw[if_pos (.inl qo)]at HE
  have b2:(L.length:Int)≤(k:Int):=qo;have b3:¬(k:Int)<(L.length:Int):=qo;have e4:decide (L.length≤k)=true:=decide_eq_true hL
  exact zQ42x0
 by_cases hM:M.length≤k
 ·rw[if_pos (.inr (.inl qo))]at HE
  have b2:¬(L.length:Int)≤(k:Int):=qo;have b3:(k:Int)<(L.length:Int):=qo;have b4:(M.length:Int)≤(k:Int):=qo;have b5:¬(k:Int)<(M.length:Int):=qo;have e4:decide (L.length≤k)=false:=decide_eq_false hL;have e5:decide (M.length≤k)=true:=decide_eq_true hM
  exact zQ42x0
 have b2:¬(L.length:Int)≤(k:Int):=qo;have b3:(k:Int)<(L.length:Int):=qo;have b4:¬(M.length:Int)≤(k:Int):=qo;have b5:(k:Int)<(M.length:Int):=qo;have e4:decide (L.length≤k)=false:=decide_eq_false hL;have e5:decide (M.length≤k)=false:=decide_eq_false hM;obtain⟨a,ha⟩:∃a,L[k]?=some a:=⟨_,List.getElem?_eq_getElem qo⟩;obtain⟨b,hb⟩:∃b,M[k]?=some b:=⟨_,List.getElem?_eq_getElem qo⟩;rw[show L.getD k (0,[],[])=a from zY ha,show M.getD k (0,[],[])=b from zY hb]at HE;have PU:=qh ha;have PS:=qh hb;clear ha hb hbd
 by_cases hs:a.2.2=b.2.2
 ·rw[if_neg (by rintro(h|h|h);exact b2 h;exact b4 h;exact h hs)]at HE
  have HS:=qh hs;clear hs hL hM
  go_enter Tryz.func64,Tryz.ntmps64
  go_wp2_with fail
  refine HD.o.mono ?_;rintro e w1 ⟨rfl,hb1⟩;have HB1:=qh hb1;obtain⟨g,o,rfl,hg,hr⟩:=(gB.o.1.below hb1) qo;obtain⟨g',o',rfl,hg',hr'⟩:=(HB0.o.1.below hb1) qo;have ra:=hr k a PU.o;have rb:=hr' k b PS.o;have HQ:=qh (fun q=>oV _ _ (d.cs k) (d'.cs k) _ _ _ _ (w1.drewN q) ra.ln rb.ln (ra.rs.drewN q) (rb.rs.drewN q) (gB.o.2.2 k a PU.o).ml (HB0.o.2.2 k b PS.o).ml);rw[decide_eq_true HS.o]at HQ;have m2:=ra.c2;have n2:=rb.c2;clear hb1 hr hr' ra rb hg hg'
  exact zQ42x3
 ·rw[if_pos (.inr (.inr hs))]at HE
  have HS:=qh hs;clear hs hL hM
  go_enter Tryz.func64,Tryz.ntmps64
  go_wp2_with fail
  refine HD.o.mono ?_;rintro e w1 ⟨rfl,hb1⟩;have HB1:=qh hb1;obtain⟨g,o,rfl,hg,hr⟩:=(gB.o.1.below hb1) qo;obtain⟨g',o',rfl,hg',hr'⟩:=(HB0.o.1.below hb1) qo;have ra:=hr k a PU.o;have rb:=hr' k b PS.o;have HQ:=qh (fun q=>oV _ _ (d.cs k) (d'.cs k) _ _ _ _ (w1.drewN q) ra.ln rb.ln (ra.rs.drewN q) (rb.rs.drewN q) (gB.o.2.2 k a PU.o).ml (HB0.o.2.2 k b PS.o).ml);rw[decide_eq_false HS.o]at HQ;have m2:=ra.c2;have n2:=rb.c2;clear hb1 hr hr' ra rb hg hg'
  exact zQ42x3
end Go.Proofs.YtdnmhhohcedjbaaGreat
