/- Walks and plain lemmas. -/
import Derived.Test.YtdnmhhohcedjbaaGreatQ46
set_option linter.unusedVariables false
set_option linter.unusedSimpArgs false
set_option maxHeartbeats 4000000
set_option maxRecDepth 20000
namespace Go.Proofs.YtdnmhhohcedjbaaGreat
open Go.RowKit
theorem acr (A A':OA)(c c':Nat)(L M:List aV)(w:World)(ha:CO w (.slice A L.length c) L)(hb:CO w (.slice A' M.length c') M):
 Calls Tryz.prog 56 #[.slice A L.length c,.slice A' M.length c'] w fun e w'=>e=.returned (.int .i64 (cZ L M 0))∧Below w.heap.size w w':=by
 obtain⟨⟨A0,c0,d,e0,h1,k1⟩,g1⟩:=ha;obtain⟨⟨B0,b0,d',e1,h2,k2⟩,g2⟩:=hb;injection e0 with e0 _ e2;injection e1 with e1 _ e3;subst e0 e1 e2 e3;exact R4 L M A A' c c' d d' w h1 h2 k1 k2 g1 g2
def acs (B0 g9 g11 Bo To:Nat)(F:Nat→List Int)(v:Value)(goal:List aV)(k:Nat)(C:Nat→Prop)(W:World):Prop:=
 ∃C',RB B0 g11 F k C' W∧aB W g9 68 #[v]∧EB Bo To v goal W∧To≤W.heap.size∧(∀b,C' b→b≠g9∧¬(Bo≤b∧b<To))∧C=fun b=>C' b∨b=g9∨(Bo≤b∧b<To)
theorem adn {B0 g9 g11 Bo To:Nat}{F:Nat→List Int}{v:Value}{goal:List aV}(h9:B0≤g9)(h11:B0≤g11)(ho:B0≤Bo):FC (acs B0 g9 g11 Bo To F v goal) B0 where
 lt:=fun⟨C',hi,b9,hg,ht,hd,hC⟩ b hb=>by
  rw[hC]at hb
  rcases hb with hb|hb|hb
  ·exact(Rl h11).lt hi b hb
  ·exact⟨by omega,by have:=b9.lt;omega⟩
  ·exact⟨by omega,by omega⟩
 keep:=fun⟨C',hi,b9,hg,ht,hd,hC⟩ hs hk=>by
  rw[hC]at hk;exact⟨C',(Rl h11).keep hi hs fun b hb=>hk b (.inl hb),(hk g9 (.inr (.inl rfl))).trans b9,hg.keep hs fun b x y=>hk b (.inr (.inr ⟨x,y⟩)),Nat.le_trans ht hs,hd,hC⟩
theorem ac3 (W:Nat)(z:Nat→Int)(n:Nat)(B0 g9 g11 Bo To:Nat)(A8:OA)(c8:Nat)(goal:List aV)(h11:B0≤g11)(h9:g9≠g11)
 (k:Nat) (C:Nat→Prop) (wc:World) (A5:OA) (c5:Nat) (o:List aV) (zR:k≤6000) (h1:EN W z n k=some o) (hI:acs B0 g9 g11 Bo To (hfs W z n goal) (.slice A8 goal.length c8) goal k C wc) (hK:CO wc (.slice A5 o.length c5) o):
 Calls Tryz.prog 55 (#[.agg #[.int .i64 (fF z n k),.int .i64 (fX z n k)],.slice A5 o.length c5]++#[.pointer (some ⟨g9,0,none⟩),.pointer (some ⟨g11,0,none⟩)]) wc (R9 (acs B0 g9 g11 Bo To (hfs W z n goal) (.slice A8 goal.length c8) goal) k C wc):=by
 obtain⟨i0,hi,iz,is,ib⟩:=info_parts OD;obtain⟨C',hi',b9,hg,ht,hd,hC⟩:=hI;have HQ:=qh (show hfs W z n goal (k+1)=if cZ o goal 0<0 then hfs W z n goal k++[fF z n k,(fX z n k:Int)]else hfs W z n goal k from by
  have e:l3 W z n goal k=(kR goal o).1:=by unfold l3;rw[h1];rfl
  show(if l3 W z n goal k=0 then _ else _)=_;rw[e]
  by_cases h:cZ o goal 0<0
  ·rw[if_pos h,if_pos ((abV goal o).2 (by rw[abP];exact h))]
  ·rw[if_neg h,if_neg fun h'=>h (by rw[abP];exact(abV goal o).1 h')])
 obtain⟨ff,pE⟩:=qx (fF z n k);obtain⟨fx,hfx⟩:=qx (fX z n k);rw[←pE,←hfx]at HQ ⊢;obtain⟨wb,hwb⟩:=qx (wc.alloc (.cells #[.int .i64 ff,.int .i64 fx] 30));have hbb:Below wc.heap.size wc wb:=hwb▸qb;have bA:Hq (aB wb wc.heap.size 30 #[.int .i64 ff,.int .i64 fx]):=qh (hwb▸aB.at_ _ _ _ rfl);have dX:=qh hbb;have iT:=qh hwb;have H9:=qh (b9.below hbb b9.lt);have H9L:=qh b9.lt;have HG:=qh (hg.keep hbb.size fun b _ h=>hbb.block b qo);have HT:=qh ht;have HD:=qh hd;have HC:=qh hC;have Pq:=qh hi';have HDF:=qh (acr A5 A8 c5 c8 o goal wb (CO.below hK hbb) HG.o.goK);have x9:wb.cell? ⟨g9,0,none⟩=some (.slice A8 goal.length c8):=H9.o.cell 0;have aiF:=qh (fun(w6:World) (C2:Nat→Prop) (Lu:RB B0 g11 (hfs W z n goal) (k+1) C2 w6) (nG:Fr wc w6 C') (hc6:∀b,C2 b→C' b∨wc.heap.size≤b)=>(show∃C',acs B0 g9 g11 Bo To (hfs W z n goal) (.slice A8 goal.length c8) goal (k+1) C' w6∧Fr wc w6 C∧∀b,C' b→C b∨wc.heap.size≤b from by
  refine⟨_,⟨C2,Lu,?_,?_,?_,?_,rfl⟩,?_,?_⟩
  ·exact(nG.block g9 H9L.o (fun h=>(HD.o g9 h).1 rfl)).trans (show aB wc g9 _ _ from b9)
  ·exact hg.keep nG.size fun b h1 h2=>nG.block b (by have:=HT.o;omega) fun h=>(HD.o b h).2 ⟨h1,h2⟩
  ·have:=HT.o
   have:=nG.size;omega
  ·intro b hb
   rcases hc6 b hb with h|h
   ·exact HD.o b h
   ·have:=H9L.o
    have:=HT.o;exact⟨by omega,by omega⟩
  ·rw[HC.o]
   exact nG.mono fun b hb=>.inl hb
  ·intro b hb
   rw[HC.o]
   rcases hb with hb|hb
   ·exact(hc6 b hb).imp_left .inl
   ·exact .inl (.inr hb)))
 obtain⟨x,hx⟩:=qx (cZ o goal 0);rw[←hx]at HDF HQ;clear hi' b9 hg ht hd hC hbb hwb pE hfx h1 hK hx
 by_cases h0:x<0
 ·rw[if_pos h0]at HQ
  obtain⟨v,m,b6,ho,hl,hm,hdd,hCC⟩:=Pq.o;obtain⟨A6,c6,rfl⟩:=aF ho;have H6:=qh (b6.below dX.o b6.lt);have H6L:=qh b6.lt;have HO:=qh (own_below ho dX.o);have HDD:=qh hdd;have j9:=qh hCC;have HL:=qh hl;have hBb:B0≤wb.heap.size:=Nat.le_trans (Nat.le_trans h11 (Nat.le_of_lt b6.lt)) dX.o.size;clear b6 ho hl hdd hCC
  go_enter Tryz.func55,Tryz.ntmps55
  go_upto_region 1 with(fail)
  rw[←iT.o]
  go_wp2_with fail
  refine HDF.o.mono ?_;rintro e w2 ⟨rfl,hb2⟩;have HB2:=qh hb2;have H62:=qh (H6.o.below hb2 H6.o.lt);have aH:=qh (own_below HO.o hb2);have hbx:=bA.o.below hb2 bA.o.lt;have x6:w2.cell? ⟨g11,0,none⟩=some (.slice A6 m c6):=H62.o.cell 0;have f6:=H62.o.frozen 0;have b0:=(qc hbx 0 rfl);have b1:=(qc hbx 1 rfl);have hB2:B0≤w2.heap.size:=Nat.le_trans hBb hb2.size;clear hb2 hbx x9
  go_wp2_with (at_builtin;go_must (refine cB _ rfl (.tmp 10) (.tmp 12) _ rfl B0 30 i0 _ 2 16 Tryz.underlying41 hi iz is ib rfl qo (.slice A6 m c6) m _ (by rfl) aH.o _ 1 1 (ints [ff,(fx:Int)]) rfl rfl (iP _) qm qo hB2 ?_);intro v' w' hown' zS hat';obtain⟨A7,c7,rfl⟩:=aF hown';rw[←aT,←HQ.o]at hown';have f9:=qh hown';have vU:=qh zS;have BJ:=qh hat';have H63:=qh (H62.o.fr zS (fun e=>HDD.o _ e rfl));have y6:=H63.o.frozen 0;have y7:=H63.o.cell 0;clear hown' zS hat')
  go_end0
  have hd2:∀b,(Value.slice A7 (m+1) c7).ownBlock=some b→b≠g11:=fun b hb=>by
   rcases BJ.o with h|h
   ·exact HDD.o b (h.symm.trans hb)
   ·have h1:=Option.some.inj (hb.symm.trans h)
    have h2:=H62.o.lt;omega
  have hbc:=dX.o.trans (HB2.o.mono dX.o.size);have hnew:∀b,(Value.slice A7 (m+1) c7).ownBlock=some b→(Value.slice A6 m c6).ownBlock=some b∨wc.heap.size≤b:=fun b hb=>by
   rcases BJ.o with h|h
   ·exact .inl (h.symm.trans hb)
   ·have h1:=Option.some.inj (hb.symm.trans h)
    have h2:=hbc.size;exact .inr qo
  refine⟨rfl,aiF.o _ _ ⟨.slice A7 (m+1) c7,m+1,H63.o.bJ 0 _,cU f9.o fun b hb=>Below.heap_setCell _ _ _ b (hd2 b hb),by rw[HQ.o];have:=HL.o;simp;omega,by omega,hd2,rfl⟩ ?_ ?_⟩
  ·rw[j9.o]
   exact((Fr.of_below hbc _).trans (vU.o.mono fun b hb=>.inr hb)).set (p:=⟨g11,0,none⟩) (.inl rfl) _
  ·intro b hb
   rw[j9.o]
   rcases hb with hb|hb
   ·exact .inl (.inl hb)
   ·exact(hnew b hb).imp_left .inr
 ·rw[if_neg h0]at HQ
  go_enter Tryz.func55,Tryz.ntmps55
  go_upto_region 1 with(fail)
  rw[←iT.o]
  go_wp2_with fail
  refine HDF.o.mono ?_;rintro e w2 ⟨rfl,hb2⟩;have HB2:=qh hb2;clear hb2 x9
  go_wp2_with fail
  go_end0
  have hbc:=dX.o.trans (HB2.o.mono dX.o.size);obtain⟨C2,a1,a2,a3⟩:=Kj Pq.o hbc HQ.o;exact⟨rfl,aiF.o _ C2 a1 a2 a3⟩
end Go.Proofs.YtdnmhhohcedjbaaGreat
