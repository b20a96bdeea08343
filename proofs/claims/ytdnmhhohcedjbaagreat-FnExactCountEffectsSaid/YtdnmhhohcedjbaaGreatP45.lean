/- Walks and plain lemmas. -/
import Derived.Test.YtdnmhhohcedjbaaGreatP43
set_option linter.unusedVariables false
set_option linter.unusedSimpArgs false
set_option maxHeartbeats 4000000
set_option maxRecDepth 20000
namespace Go.Proofs.YtdnmhhohcedjbaaGreat
open Go.RowKit
structure FC (I:Nat→(Nat→Prop)→World→Prop)(B0:Nat):Prop where
 lt:∀{k C W},I k C W→∀b,C b→B0≤b∧b<W.heap.size
 keep:∀{k C W W'},I k C W→W.heap.size≤W'.heap.size→(∀b,C b→W'.heap[b]?=W.heap[b]?)→I k C W'
theorem FC.below {I:Nat→(Nat→Prop)→World→Prop}{B0 k:Nat}{C:Nat→Prop}{W W':World}(h:FC I B0)(hi:I k C W)(hb:Below W.heap.size W W'):I k C W':=h.keep hi hb.size fun b hC=>hb.block b (h.lt hi b hC).2
def R9 (I:Nat→(Nat→Prop)→World→Prop)(k:Nat)(C:Nat→Prop)(w:World)(e:Ending)(w':World):Prop:=
 e=.returned (.tuple #[])∧∃C',I (k+1) C' w'∧Fr w w' C∧∀b,C' b→C b∨w.heap.size≤b
noncomputable def yx (W:Nat)(z:Nat→Int)(n:Nat):Int:=if qN W z n (kI z n)=true then 0 else 5
def af6 (I:Nat→(Nat→Prop)→World→Prop)(B0 W:Nat)(z:Nat→Int)(n:Nat)(w:World)(e:Ending)(w':World):Prop:=e=.returned (.int .i64 (yx W z n))∧Below B0 w w'∧(qN W z n (kI z n)=true→∃C,I (kI z n) C w')
section
variable (W:Nat)(A:OA)(n q:Nat)(z:Nat→Int)(w:World)
theorem US (K:FuncId)(eg:∀args w,(callFunc K args).run Tryz.prog w=.ok (.enter K args) w)(cap:Array Value)(I:Nat→(Nat→Prop)→World→Prop)(B0:Nat)(C0:Nat→Prop)(hV:FC I B0)(hI:I 0 C0 w)(hB0:B0≤w.heap.size)
 (hstep:∀(k:Nat) (C:Nat→Prop) (wc:World) (A5:OA) (c5:Nat) (o:List aV),k≤6000→EN W z n k=some o→I k C wc→CO wc (.slice A5 o.length c5) o→Calls Tryz.prog K (#[.agg #[.int .i64 (fF z n k),.int .i64 (fX z n k)],.slice A5 o.length c5]++cap) wc (R9 I k C wc))
 (ha:∀W',Below B0 w W'→Rd W' A (n*8) (fun j=>.int .i64 (z j))) (h1:1≤W) (h2:W≤24) (hn:n≤1500) (hq:n≤q) (hops:∀i,i<n→dR W z i=true) (hok:mV W z n) (hcd:codeOf (W:Int) z n=0):
 Calls Tryz.prog 54 #[.int .i64 W,.slice A n q,.func (.func K) #[] cap] w (af6 I B0 W z n w):=by
 have HA:=qh ha;have HV:=qh hV;have HI:=qh hI;have HS:=qh hstep;have dT:=qh hops;have iV:=qh hok;have qG:=qh hcd;have HKK:Hq (∀i,i<n→1≤z (i*8)∧z (i*8)≤9):=qh fun i hi=>⟨(gC h1 (hops i hi)).k1,(gC h1 (hops i hi)).k9⟩;have hfm:=IL (z:=z) hn;clear ha hV hI hstep hops hok hcd
 go_enter Tryz.func54,Tryz.ntmps54
 go_wp2_with fail
 refine(XS A n q z w (HA.o w (Below.refl _ _)) hn HKK.o).mono ?_;rintro e w1 ⟨v,m,rfl,hl,hm,hown,hb1⟩;obtain⟨A6,c6,rfl⟩:=aF hown;have hmm:kI z n=m:=by unfold kI;omega
 have CH:=qh (QJ hown);have TU:=qh (show∀b,Fb A6 (m*2) b→w.heap.size≤b from fun b hb=>by
  obtain⟨_,a,rfl,rfl⟩:=hb;exact(hown.lt _ rfl).1)
 have HB1:=qh hb1;have HI1:=qh (HV.o.below HI.o hb1);have jH:=qh (show∀b,Fb A6 (m*2) b→¬C0 b from fun b hb hc=>by
  have:=(HV.o.lt HI.o b hc).2;have:=TU.o b hb;omega)
 have HM:=qh hmm;rw[hmm]at hfm;clear hown hl hm hb1 hmm
 go_wp2_with fail
 go_loopw [14] (fun x wr=>∃(k:Nat) (C:Nat→Prop),k≤m∧x=.int .i64 k∧Hq (qN W z n k=true)∧I k C wr∧Rd wr A6 (m*2) (fun j=>.int .i64 (nl (fL z n) j))∧Hq (∀b,Fb A6 (m*2) b→¬C b)∧Below B0 w wr) (fun x _=>m-(intOf x).toNat)
 case atStart=>exact⟨0,C0,Nat.zero_le _,rfl,qh rfl,HI1.o,CH.o,jH,HB1.o.mono hB0⟩
 case round=>
  clear CH HI HI1 jH;obtain⟨k,C,hkm,rfl,iX,hi,hr,iW,hb⟩:=hrel;have HIk:=qh hi;have iJ:=qh hr;have cS:=qh hb;clear hi hr hb
  by_cases hlt:k<m
  ·obtain⟨hx1,hx2,hx3⟩:=En (z:=z) (n:=n) (k:=k) (by rw[HM.o];exact hlt)
   obtain⟨gf,of,rfl,hgf,hrf⟩:=iJ.o qo;have m0:wr.cell? ⟨gf,of+k*2,none⟩=some (.int .i64 (fF z n k)):=hrf (k*2) qo;have m1:wr.cell? ⟨gf,of+k*2+1,none⟩=some (.int .i64 (fX z n k)):=by
    have h:=hrf (k*2+1) qo
    simp only[←Nat.add_assoc]at h
    rw[h,hx1]
   have sY:=qh (fun wc A5 c5 o=>HS.o k C wc A5 c5 o qo);obtain⟨ff,pE⟩:=qx (fF z n k);obtain⟨fx,hfx⟩:=qx (fX z n k);rw[←pE]at m0 hx3 sY;rw[←hfx]at m1 hx2 hx3 sY;have eI:=qh hx2;have CE:=qh hx3;have aO:=qh (show EN W z n k=lD W z n ff fx from by rw[pE,hfx];rfl);have b0:(k:Int)<(m:Int):=qo;have b1:(0:Int)≤(k:Int):=qo;clear hx1 hx2 hx3 pE hfx hrf hgf
   go_upto_region 4 with(fail)
   obtain⟨wa,lZ⟩:=qx (wr.alloc (.cells #[.int .i64 ff,.int .i64 fx] 30));rw[←lZ];obtain⟨gb,hgb⟩:=qx (wr.heap.size);rw[←hgb];have hba:Below wr.heap.size wr wa:=lZ▸qb;have bA:Hq (aB wa gb 30 #[.int .i64 ff,.int .i64 fx]):=qh (lZ▸aB.at_ _ _ _ hgb);have tR:=qh (cS.o.trans (hba.mono (Nat.le_trans hB0 (cS.o.size))));have HIa:=qh (HV.o.below HIk.o hba);have HRa:=qh (iJ.o.below hba);have TT:=qh (AB W A n q z ff fx wa (HA.o _ tR.o) h1 h2 hn hq dT.o iV.o qG.o eI.o CE.o);have b2:=(show _=some (Value.int .i64 ff)from bA.o.cell 0);have b3:=(show _=some (Value.int .i64 fx)from bA.o.cell 1);clear m0 m1 lZ hba hgb
   go_wp2_with fail
   refine TT.o.mono ?_;rintro e w5 ⟨hb5,qW⟩;have aZ:=qh hb5;clear hb5
   cases hG:lD W z n ff fx with
   |none=>
    rw[hG]at qW;obtain rfl:e=.returned (.tuple #[.slice none 0 0,.int .i64 5]):=qW;have kK:=qh (za (m:=m) hlt (aO.o.trans hG));clear hG b2 b3
    go_wp2_with fail
    go_ret
    refine⟨by unfold yx;rw[HM.o,kK.o];rfl,tR.o.trans (aZ.o.mono (Nat.le_trans hB0 tR.o.size)),fun h=>?_⟩;rw[HM.o,kK.o]at h
    cases h
   |some o=>
    rw[hG]at qW;obtain⟨A5,c5,he,hk5⟩:=qW;subst he;have hbx:=bA.o.below aZ.o bA.o.lt;have b4:=(show _=some (Value.int .i64 ff)from hbx.cell 0);have b5:=(show _=some (Value.int .i64 fx)from hbx.cell 1);have HCS:=qh (sY.o w5 A5 c5 o (aO.o.trans hG) (HV.o.below HIa.o aZ.o) hk5.goK);have Vs:=qh (TK iX.o (aO.o.trans hG));clear hG hk5 hbx b2 b3;have kV:=qh (HRa.o.below aZ.o);have bG:=qh (tR.o.trans (aZ.o.mono (Nat.le_trans hB0 tR.o.size)))
    go_wp2_with (go_at_fn K;refine HCS.o.mono ?_;rintro e w6 ⟨rfl,C',Lu,nG,hc6⟩;have HI6:=qh Lu;have t8:=qh nG;have HC6:=qh hc6;clear Lu nG hc6)
    clear b4 b5;have aS:=qh (bG.o.trans (t8.o.below (Nat.le_trans hB0 bG.o.size) fun b hb=>(HV.o.lt (HV.o.below HIa.o aZ.o) b hb).1));have HRk:Hq (∀b,Fb (some ⟨gf,of,none⟩) (m*2) b→b<w5.heap.size):=qh ((aQ _ _ _).2 w5 · kV.o)
    go_wp2_with fail
    go_roundw
    case rel=>exact⟨k+1,C',by omega,qg,Vs,HI6.o,(aQ _ _ _).fr kV.o t8.o fun b h1 h2=>iW.o b h1 h2,qh fun b h1 h2=>(HC6.o b h2).elim (fun h3=>iW.o b h1 h3) fun h3=>by have:=HRk.o b h1;omega,aS.o⟩
    case measure=>exact qs
  ·obtain rfl:k=m:=qo
   have b0:¬(k:Int)<(k:Int):=qo
   go_wp2_with fail
   go_ret
   exact⟨by unfold yx;rw[HM.o,iX.o];rfl,cS.o,fun _=>⟨C,by rw[HM.o];exact HIk.o⟩⟩
end
def Gq (I:Nat→(Nat→Prop)→World→Prop)(g8 g5 Bo To:Nat)(v:Value)(own:List aV)(u:Value)(k:Nat)(C:Nat→Prop)(W:World):Prop:=
 ∃C',I k C' W∧aB W g8 68 #[v]∧aB W g5 85 #[u]∧EB Bo To v own W∧To≤W.heap.size∧(∀b,C' b→b≠g8∧b≠g5∧¬(Bo≤b∧b<To))∧C=fun b=>C' b∨b=g8∨b=g5∨(Bo≤b∧b<To)
theorem Tn {I:Nat→(Nat→Prop)→World→Prop}{B0 g8 g5 Bo To:Nat}{v:Value}{own:List aV}{u:Value}(h:FC I B0)(h8:B0≤g8)(h5:B0≤g5)(ho:B0≤Bo):FC (Gq I g8 g5 Bo To v own u) B0 where
 lt:=fun⟨C',hi,b8,b5,hg,ht,hd,hC⟩ b hb=>by
  rw[hC]at hb
  rcases hb with hb|hb|hb|hb
  ·exact h.lt hi b hb
  ·exact⟨by omega,by have:=b8.lt;omega⟩
  ·exact⟨by omega,by have:=b5.lt;omega⟩
  ·exact⟨by omega,by omega⟩
 keep:=fun⟨C',hi,b8,b5,hg,ht,hd,hC⟩ hs hk=>by
  rw[hC]at hk;exact⟨C',h.keep hi hs fun b hb=>hk b (.inl hb),(hk g8 (.inr (.inl rfl))).trans b8,(hk g5 (.inr (.inr (.inl rfl)))).trans b5,hg.keep hs fun b x y=>hk b (.inr (.inr (.inr ⟨x,y⟩))),Nat.le_trans ht hs,hd,hC⟩
theorem P3 (W:Nat)(z:Nat→Int)(n:Nat)(K:FuncId)(eg:∀args w,(callFunc K args).run Tryz.prog w=.ok (.enter K args) w)(cap:Array Value)(I:Nat→(Nat→Prop)→World→Prop)(B0 g8 g5 Bo To:Nat)(A8:OA)(c8:Nat)(own:List aV)(hV:FC I B0)
 (hstep:∀(k:Nat) (C:Nat→Prop) (wc:World),k≤6000→I k C wc→Calls Tryz.prog K (#[.agg #[.int .i64 (fF z n k),.int .i64 (fX z n k)],.int .i64 (l3 W z n own k)]++cap) wc (R9 I k C wc))
 (k:Nat) (C:Nat→Prop) (wc:World) (A5:OA) (c5:Nat) (o:List aV) (zR:k≤6000) (h1:EN W z n k=some o) (hI:Gq I g8 g5 Bo To (.slice A8 own.length c8) own (.func (.func K) #[] cap) k C wc) (hK:CO wc (.slice A5 o.length c5) o):
 Calls Tryz.prog 72 (#[.agg #[.int .i64 (fF z n k),.int .i64 (fX z n k)],.slice A5 o.length c5]++#[.pointer (some ⟨g8,0,none⟩),.pointer (some ⟨g5,0,none⟩)]) wc (R9 (Gq I g8 g5 Bo To (.slice A8 own.length c8) own (.func (.func K) #[] cap)) k C wc):=by
 obtain⟨C',hi,b8,b5,hg,ht,hd,hC⟩:=hI;have Ay:=qh (show l3 W z n own k=(kR own o).1 from by unfold l3;rw[h1];rfl);obtain⟨ff,pE⟩:=qx (fF z n k);obtain⟨fx,hfx⟩:=qx (fX z n k);have sY:=qh (fun wc=>hstep k C' wc zR);rw[←pE,←hfx,Ay.o]at sY;obtain⟨wb,hwb⟩:=qx (wc.alloc (.cells #[.int .i64 ff,.int .i64 fx] 30));have hbb:Below wc.heap.size wc wb:=hwb▸qb;have bA:Hq (aB wb wc.heap.size 30 #[.int .i64 ff,.int .i64 fx]):=qh (hwb▸aB.at_ _ _ _ rfl);have dX:=qh hbb;have iT:=qh hwb;have tB:=qh (OZ A8 A5 c8 c5 own o wb (hg.keep hbb.size fun b _ h=>hbb.block b qo).goK (CO.below hK hbb));have HV:=qh hV;have HIb:=qh (hV.below hi hbb);have HIC:=qh (fun b hb=>(hV.lt hi b hb).2);have H8:=qh (b8.below hbb b8.lt);have H5:=qh (b5.below hbb b5.lt);have HG:=qh (hg.keep hbb.size fun b _ h=>hbb.block b qo);have HT:=qh ht;have HD:=qh hd;have HC:=qh hC;have H8L:=qh b8.lt;have H5L:=qh b5.lt;obtain⟨r,hr⟩:=qx (kR own o);rw[←hr]at tB sY;have x8:wb.cell? ⟨g8,0,none⟩=some (.slice A8 own.length c8):=H8.o.cell 0;rw[←pE,←hfx];clear hi b8 b5 hg ht hd hC hbb hwb hstep hV hr pE hfx h1 hK
 go_enter Tryz.func72,Tryz.ntmps72
 go_upto_region 1 with(fail)
 rw[←iT.o]
 go_wp2_with fail
 refine tB.o.mono ?_;rintro e w2 ⟨rfl,hb2⟩;have HB2:=qh hb2;have hbx:=bA.o.below hb2 bA.o.lt;have b0:=(show _=some (Value.int .i64 ff)from hbx.cell 0);have b1:=(show _=some (Value.int .i64 fx)from hbx.cell 1);have x5:w2.cell? ⟨g5,0,none⟩=some (.func (.func K) #[] cap):=(H5.o.below hb2 H5.o.lt).cell 0;have HI2:=qh (HV.o.below HIb.o hb2);clear hb2 hbx x8
 go_wp2_with (go_at_fn K;refine(sY.o _ HI2.o).mono ?_;rintro e w6 ⟨rfl,C2,Lu,nG,hc6⟩;have HI6:=qh Lu;have t8:=qh nG;have HC6:=qh hc6;clear Lu nG hc6)
 go_end0
 go_wp2_with fail
 have hsz:=Nat.le_trans dX.o.size HB2.o.size;have hbc:=dX.o.trans (HB2.o.mono dX.o.size);have hkeep:∀b,b<wc.heap.size→¬C' b→w6.heap[b]?=wc.heap[b]?:=fun b hb hn=>(t8.o.block b qo hn).trans (hbc.block b hb);have hC2:∀b,C2 b→C' b∨wc.heap.size≤b:=fun b hb=>(HC6.o b hb).elim .inl fun h=>.inr qo;refine⟨rfl,_,⟨C2,HI6.o,?_,?_,?_,?_,?_,rfl⟩,?_,?_⟩
 ·exact(t8.o.block g8 (by have:=H8L.o;omega) (fun h=>(HD.o g8 h).1 rfl)).trans (H8.o.below HB2.o H8.o.lt)
 ·exact(t8.o.block g5 (by have:=H5L.o;omega) (fun h=>(HD.o g5 h).2.1 rfl)).trans (H5.o.below HB2.o H5.o.lt)
 ·exact(HG.o.keep HB2.o.size fun b _ h=>HB2.o.block b (by have:=HT.o;have:=dX.o.size;omega)).keep t8.o.size fun b h1 h2=>t8.o.block b (by have:=HT.o;omega) fun h=>(HD.o b h).2.2 ⟨h1,h2⟩
 ·have:=HT.o
  have:=t8.o.size;omega
 ·intro b hb
  rcases hC2 b hb with h|h
  ·exact HD.o b h
  ·have:=H8L.o
   have:=H5L.o;have:=HT.o;exact⟨by omega,by omega,by omega⟩
 ·rw[HC.o]
  exact(Fr.of_below hbc _).trans (t8.o.mono fun b hb=>.inl hb)
 ·intro b hb
  rw[HC.o]
  rcases hb with hb|hb
  ·exact(hC2 b hb).imp_left .inl
  ·exact .inl (.inr hb)
def Vt (I:Nat→(Nat→Prop)→World→Prop)(B0:Nat)(W:Int)(z:Nat→Int)(n:Nat)(w:World)(e:Ending)(w':World):Prop:=e=.returned (.int .i64 (l6 W z n))∧Below B0 w w'∧(l6 W z n=0→∃C,I (kI z n) C w')
theorem DT (W:Int)(A:OA)(n q:Nat)(z:Nat→Int)(w:World)(K:FuncId)(eg:∀args w,(callFunc K args).run Tryz.prog w=.ok (.enter K args) w)(cap:Array Value)(I:Nat→(Nat→Prop)→World→Prop)(B0:Nat)(C0:Nat→Prop)(hV:FC I B0)(hI:I 0 C0 w)(hB0:B0≤w.heap.size)
 (hstep:∀(k:Nat) (C:Nat→Prop) (wc:World),k≤6000→I k C wc→Calls Tryz.prog K (#[.agg #[.int .i64 (fF z n k),.int .i64 (fX z n k)],.int .i64 (l3 W.toNat z n (ownB W z n) k)]++cap) wc (R9 I k C wc))
 (ha:∀W',Below B0 w W'→Rd W' A (n*8) (fun j=>.int .i64 (z j))) (hn:n≤1048576) (hq:n≤q):
 Calls Tryz.prog 44 #[.int .i64 W,.slice A n q,.func (.func K) #[] cap] w (Vt I B0 W z n w):=by
 obtain⟨wb,hwb⟩:=qx (w.alloc (.cells #[.func (.func K) #[] cap] 85));obtain⟨g5,hg5⟩:=qx (w.heap.size);have hbb:Below w.heap.size w wb:=hwb▸qb;have dX:=qh hbb;have H5:Hq (aB wb g5 85 #[.func (.func K) #[] cap]):=qh (hwb▸aB.at_ _ _ _ hg5);have LA:=qh (hbb.mono hB0);have ny:=qh (show B0≤g5 from by rw[hg5];exact hB0);have iT:=qh hwb;have HGQ:=qh hg5;have HA:=qh ha;have HV:=qh hV;have HI:=qh (hV.below hI hbb);have Qi:=qh (show∀b,C0 b→b<g5 from fun b hb=>by rw[hg5];exact(hV.lt hI b hb).2);have hr:=KF W A n q z wb (ha _ LA.o) hn;have wh:∀(fn:Fn) (first c:Array Value) (w:World),(Instr.makeFunc fn first c).run Tryz.prog w=.ok (.func fn first c) w:=fun _ _ _ _=>rfl;clear ha hV hI hbb hwb hg5
 by_cases hc:codeOf W z n=0
 ·obtain⟨W,rfl,hW1,hW2,oG,hops,hok⟩:=wR hc
  have yI:=qh (show l6 (W:Int) z n=if(lE (W:Int).toNat z n).isSome=true∧qN (W:Int).toNat z n (kI z n)=true then 0 else 5 from if_pos hc);have qG:=qh hc;rw[hc]at hr;rw[Int.toNat_natCast]at yI hstep;have HR:=qh hr;have dT:=qh hops;have iV:=qh hok;have HST:=qh hstep;clear hc hr hops hok hstep
  go_enter Tryz.func44,Tryz.ntmps44
  go_upto_region 1 with(fail)
  rw[←iT.o,←HGQ.o]
  go_wp2_with fail
  refine HR.o.mono ?_;rintro e w1 ⟨rfl,hb1⟩;have HB1:=qh hb1;have rD:=qh (LA.o.trans (hb1.mono (Nat.le_trans hB0 dX.o.size)));have HFO:=qh (AH W A n q z w1 (HA.o _ rD.o) hW1 hW2 oG dT.o iV.o);clear hb1
  go_wp2_with fail
  refine HFO.o.mono ?_;rintro e w3 ⟨hb3,hr3⟩;have HB3:=qh hb3;have bA:=qh (rD.o.trans (hb3.mono (Nat.le_trans hB0 rD.o.size)));clear hb3
  cases hF:lE W z n with
  |none=>
   rw[hF]at hr3 yI;have aeX:=qh (show l6 (W:Int) z n=5 from yI.o.trans (if_neg fun h=>by cases h.1));obtain rfl:e=.returned (.tuple #[.slice none 0 0,.int .i64 5]):=hr3;clear hF
   go_wp2_with fail
   go_ret
   exact⟨by rw[aeX.o];rfl,bA.o.alloc (Nat.le_trans hB0 bA.o.size) _,fun h=>absurd (aeX.o.symm.trans h) (by decide)⟩
  |some own=>
   rw[hF]at hr3 yI;obtain⟨A8,c8,he,hk8⟩:=hr3;subst he;have HOW:=qh (show ownB (W:Int) z n=own from by unfold ownB;rw[Int.toNat_natCast,hF];rfl);have hst:=HST.o;rw[HOW.o]at hst;have HS2:=qh hst;have HK8:=qh hk8;clear hF hk8 hst
   go_upto_region 5 with(fail)
   obtain⟨w4,hw4⟩:=qx (w3.alloc (.cells #[.slice A8 own.length c8] 68));rw[←hw4];obtain⟨g8,Yn⟩:=qx (w3.heap.size);rw[←Yn];have hb4:Below w3.heap.size w3 w4:=hw4▸qb;have h8:aB w4 g8 68 #[.slice A8 own.length c8]:=hw4▸aB.at_ _ _ _ Yn;have aR:=qh hb4;have s1:=HB1.o.size;have s3:=HB3.o.size;have s0:=dX.o.size;have h5l:=H5.o.lt;have hI3:I 0 C0 w3:=HV.o.below (HV.o.below HI.o HB1.o) HB3.o;have HEI:=qh (show Gq I g8 g5 w1.heap.size w3.heap.size (.slice A8 own.length c8) own (.func (.func K) #[] cap) 0 (fun b=>C0 b∨b=g8∨b=g5∨(w1.heap.size≤b∧b<w3.heap.size)) w4 from
    ⟨C0,HV.o.below hI3 hb4,h8,((H5.o.below HB1.o h5l).below HB3.o qo).below hb4 qo,HK8.o.keep hb4.size fun b _ h=>hb4.block b h,hb4.size,fun b hb=>by
     have h1:=Qi.o b hb;exact⟨by omega,by omega,by omega⟩,rfl⟩)
   have jO:=qh (bA.o.trans (hb4.mono qo));have hB4:B0≤w4.heap.size:=Nat.le_trans hB0 jO.o.size;have ZW:=qh (US W A n q z w4 72 Tryz.call72 #[.pointer (some ⟨g8,0,none⟩),.pointer (some ⟨g5,0,none⟩)] _ B0 _ (Tn HV.o qo ny.o qo) HEI.o hB4
    (fun k C wc A5 c5 o=>P3 W z n K eg cap I B0 g8 g5 _ _ A8 c8 own HV.o HS2.o k C wc A5 c5 o) (fun W' hb=>HA.o W' (jO.o.trans hb)) hW1 hW2 oG hq dT.o iV.o qG.o)
   clear hb4 h8 hI3 hw4 Yn s1 s3 s0 h5l
   go_wp2_with fail
   refine ZW.o.mono ?_;rintro e w5 ⟨rfl,hb5,hi5⟩;have aZ:=qh (jO.o.trans hb5);have Zy:=qh hi5;obtain⟨cd,hcd⟩:=qx (yx W z n);have HCQ:=qh (show l6 (W:Int) z n=cd from by
    rw[hcd,yI.o];unfold yx
    by_cases h:qN W z n (kI z n)=true
    ·rw[if_pos ⟨rfl,h⟩,if_pos h]
    ·rw[if_neg fun h'=>h h'.2,if_neg h])
   have yH:=qh (show cd=0→qN W z n (kI z n)=true from fun h=>by
    rw[hcd]at h;unfold yx at h
    by_cases h':qN W z n (kI z n)=true
    ·exact h'
    ·rw[if_neg h']at h
     cases h)
   rw[←hcd];clear hb5 hi5 hcd
   go_wp2_with fail
   go_ret
   refine⟨by rw[HCQ.o];rfl,aZ.o,fun h=>?_⟩;obtain⟨C,C',hi,_⟩:=Zy.o (yH.o (HCQ.o.symm.trans h));exact⟨C',hi⟩
 ·obtain⟨cd,hcd⟩:=qx (codeOf W z n)
  have HC:=qh (show l6 W z n=cd from(if_neg hc).trans hcd.symm);rw[←hcd]at hr hc;have hc1:(cd==0)=false:=by simpa using hc
  have jH:=qh hc;have HR:=qh hr;clear hc hr hcd hstep
  go_enter Tryz.func44,Tryz.ntmps44
  go_upto_region 1 with(fail)
  rw[←iT.o]
  go_wp2_with fail
  refine HR.o.mono ?_;rintro e w1 ⟨rfl,hb1⟩;have HB1:=qh (LA.o.trans (hb1.mono (Nat.le_trans hB0 dX.o.size)));clear hb1
  go_wp2_with fail
  go_ret
  exact⟨by rw[HC.o];rfl,HB1.o,fun h=>absurd (HC.o.symm.trans h) jH.o⟩
end Go.Proofs.YtdnmhhohcedjbaaGreat
