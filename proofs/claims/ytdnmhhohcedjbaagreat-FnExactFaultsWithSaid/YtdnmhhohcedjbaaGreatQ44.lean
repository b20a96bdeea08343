/- Walks and plain lemmas. -/
import Derived.Test.YtdnmhhohcedjbaaGreatQ43
set_option linter.unusedVariables false
set_option linter.unusedSimpArgs false
set_option maxHeartbeats 4000000
set_option maxRecDepth 20000
namespace Go.Proofs.YtdnmhhohcedjbaaGreat
open Go.RowKit
structure FC (I:Nat→(Nat→Prop)→World→Prop)(B0:Nat):Prop where
 lt:∀{k C W},I k C W→∀b,C b→B0≤b∧b<W.heap.size
 keep:∀{k C W W'},I k C W→W.heap.size≤W'.heap.size→(∀b,C b→W'.heap[b]?=W.heap[b]?)→I k C W'
theorem FC.below {I:Nat→(Nat→Prop)→World→Prop}{B0 k:Nat}{C:Nat→Prop}{W W':World}(h:FC I B0)(hi:I k C W)(hb:Below W.heap.size W W'):I k C W':=h.keep hi hb.size fun b hC=>hb.block b (h.lt hi b hC).2
def R9 (I:Nat→(Nat→Prop)→World→Prop)(k:Nat)(C:Nat→Prop)(w:World)(e:Ending)(w':World):Prop:=
 e=.returned (.tuple #[])∧∃C',I (k+1) C' w'∧Fr w w' C∧∀b,C' b→C b∨w.heap.size≤b
noncomputable def yx (W:Nat)(z:Nat→Int)(n:Nat):Int:=if qN W z n (kI z n)=true then 0 else 5
def af6 (I:Nat→(Nat→Prop)→World→Prop)(B0 W:Nat)(z:Nat→Int)(n:Nat)(w:World)(e:Ending)(w':World):Prop:=e=.returned (.int .i64 (yx W z n))∧Below B0 w w'∧(qN W z n (kI z n)=true→∃C,I (kI z n) C w')
section
variable (W:Nat)(A:OA)(n q:Nat)(z:Nat→Int)(w:World)
theorem US (K:FuncId)(eg:∀args w,(callFunc K args).run Tryz.prog w=.ok (.enter K args) w)(cap:Array Value)(I:Nat→(Nat→Prop)→World→Prop)(B0:Nat)(C0:Nat→Prop)(hV:FC I B0)(hI:I 0 C0 w)(hB0:B0≤w.heap.size)
 (hstep:∀(k:Nat) (C:Nat→Prop) (wc:World) (A5:OA) (c5:Nat) (o:List aV),k≤6000→EN W z n k=some o→I k C wc→CO wc (.slice A5 o.length c5) o→Calls Tryz.prog K (#[.agg #[.int .i64 (fF z n k),.int .i64 (fX z n k)],.slice A5 o.length c5]++cap) wc (R9 I k C wc))
 (ha:∀W',Below B0 w W'→Rd W' A (n*8) (fun j=>.int .i64 (z j))) (h1:1≤W) (h2:W≤24) (hn:n≤1500) (hq:n≤q) (hops:∀i,i<n→dR W z i=true) (hok:mV W z n) (hcd:codeOf (W:Int) z n=0):
 Calls Tryz.prog 54 #[.int .i64 W,.slice A n q,.func (.func K) #[] cap] w (af6 I B0 W z n w):=by
 have HA:=qh ha;have HV:=qh hV;have HI:=qh hI;have HS:=qh hstep;have dT:=qh hops;have iV:=qh hok;have qG:=qh hcd;have HKK:Hq (∀i,i<n→1≤z (i*8)∧z (i*8)≤9):=qh fun i hi=>⟨(gC h1 (hops i hi)).k1,(gC h1 (hops i hi)).k9⟩;have hfm:=IL (z:=z) hn;clear ha hV hI hstep hops hok hcd
 go_enter Tryz.func54,Tryz.ntmps54
 go_wp2_with fail
 refine(XS A n q z w (HA.o w (Below.refl _ _)) hn HKK.o).mono ?_;rintro e w1 ⟨v,m,rfl,hl,hm,hown,hb1⟩;obtain⟨A6,c6,rfl⟩:=aF hown;have hmm:kI z n=m:=by unfold kI;omega
 have CH:=qh (QJ hown);have TU:=qh (show∀b,Fb A6 (m*2) b→w.heap.size≤b from fun b hb=>by
  obtain⟨_,a,rfl,rfl⟩:=hb;exact(hown.lt _ rfl).1)
 have HB1:=qh hb1;have HI1:=qh (HV.o.below HI.o hb1);have jH:=qh (show∀b,Fb A6 (m*2) b→¬C0 b from fun b hb hc=>by
  have:=(HV.o.lt HI.o b hc).2;have:=TU.o b hb;omega)
 have HM:=qh hmm;rw[hmm]at hfm;clear hown hl hm hb1 hmm
 go_wp2_with fail
 go_loopw [14] (fun x wr=>∃(k:Nat) (C:Nat→Prop),k≤m∧x=.int .i64 k∧Hq (qN W z n k=true)∧I k C wr∧Rd wr A6 (m*2) (fun j=>.int .i64 (nl (fL z n) j))∧Hq (∀b,Fb A6 (m*2) b→¬C b)∧Below B0 w wr) (fun x _=>m-(intOf x).toNat)
 case atStart=>exact⟨0,C0,Nat.zero_le _,rfl,qh rfl,HI1.o,CH.o,jH,HB1.o.mono hB0⟩
 case round=>
  clear CH HI HI1 jH;obtain⟨k,C,hkm,rfl,iX,hi,hr,iW,hb⟩:=hrel;have HIk:=qh hi;have iJ:=qh hr;have cS:=qh hb;clear hi hr hb
  by_cases hlt:k<m
  ·obtain⟨hx1,hx2,hx3⟩:=En (z:=z) (n:=n) (k:=k) (by rw[HM.o];exact hlt)
   obtain⟨gf,of,rfl,hgf,hrf⟩:=iJ.o qo;have m0:wr.cell? ⟨gf,of+k*2,none⟩=some (.int .i64 (fF z n k)):=hrf (k*2) qo;have m1:wr.cell? ⟨gf,of+k*2+1,none⟩=some (.int .i64 (fX z n k)):=by
    have h:=hrf (k*2+1) qo
    simp only[←Nat.add_assoc]at h
    rw[h,hx1]
   have sY:=qh (fun wc A5 c5 o=>HS.o k C wc A5 c5 o qo);obtain⟨ff,pE⟩:=qx (fF z n k);obtain⟨fx,hfx⟩:=qx (fX z n k);rw[←pE]at m0 hx3 sY;rw[←hfx]at m1 hx2 hx3 sY;have eI:=qh hx2;have CE:=qh hx3;have aO:=qh (show EN W z n k=lD W z n ff fx from by rw[pE,hfx];rfl);have b0:(k:Int)<(m:Int):=qo;have b1:(0:Int)≤(k:Int):=qo;clear hx1 hx2 hx3 pE hfx hrf hgf
   go_upto_region 4 with(fail)
   obtain⟨wa,lZ⟩:=qx (wr.alloc (.cells #[.int .i64 ff,.int .i64 fx] 30));rw[←lZ];obtain⟨gb,hgb⟩:=qx (wr.heap.size);rw[←hgb];have hba:Below wr.heap.size wr wa:=lZ▸qb;have bA:Hq (aB wa gb 30 #[.int .i64 ff,.int .i64 fx]):=qh (lZ▸aB.at_ _ _ _ hgb);have tR:=qh (cS.o.trans (hba.mono (Nat.le_trans hB0 (cS.o.size))));have HIa:=qh (HV.o.below HIk.o hba);have HRa:=qh (iJ.o.below hba);have TT:=qh (AB W A n q z ff fx wa (HA.o _ tR.o) h1 h2 hn hq dT.o iV.o qG.o eI.o CE.o);have b2:=(show _=some (Value.int .i64 ff)from bA.o.cell 0);have b3:=(show _=some (Value.int .i64 fx)from bA.o.cell 1);clear m0 m1 lZ hba hgb
   go_wp2_with fail
   refine TT.o.mono ?_;rintro e w5 ⟨hb5,qW⟩;have aZ:=qh hb5;clear hb5
   cases hG:lD W z n ff fx with
   |none=>
    rw[hG]at qW;obtain rfl:e=.returned (.tuple #[.slice none 0 0,.int .i64 5]):=qW;have kK:=qh (za (m:=m) hlt (aO.o.trans hG));clear hG b2 b3
    go_wp2_with fail
    go_ret
    refine⟨by unfold yx;rw[HM.o,kK.o];rfl,tR.o.trans (aZ.o.mono (Nat.le_trans hB0 tR.o.size)),fun h=>?_⟩;rw[HM.o,kK.o]at h
    cases h
   |some o=>
    rw[hG]at qW;obtain⟨A5,c5,he,hk5⟩:=qW;subst he;have hbx:=bA.o.below aZ.o bA.o.lt;have b4:=(qc hbx 0 rfl);have b5:=(qc hbx 1 rfl);have HCS:=qh (sY.o w5 A5 c5 o (aO.o.trans hG) (HV.o.below HIa.o aZ.o) hk5.goK);have Vs:=qh (TK iX.o (aO.o.trans hG));clear hG hk5 hbx b2 b3;have kV:=qh (HRa.o.below aZ.o);have bG:=qh (tR.o.trans (aZ.o.mono (Nat.le_trans hB0 tR.o.size)))
    go_wp2_with (go_at_fn K;refine HCS.o.mono ?_;rintro e w6 ⟨rfl,C',Lu,nG,hc6⟩;have HI6:=qh Lu;have t8:=qh nG;have HC6:=qh hc6;clear Lu nG hc6)
    clear b4 b5;have aS:=qh (bG.o.trans (t8.o.below (Nat.le_trans hB0 bG.o.size) fun b hb=>(HV.o.lt (HV.o.below HIa.o aZ.o) b hb).1));have HRk:Hq (∀b,Fb (some ⟨gf,of,none⟩) (m*2) b→b<w5.heap.size):=qh ((aQ _ _ _).2 w5 · kV.o)
    go_wp2_with fail
    go_roundw
    case rel=>exact⟨k+1,C',by omega,qg,Vs,HI6.o,(aQ _ _ _).fr kV.o t8.o fun b h1 h2=>iW.o b h1 h2,qh fun b h1 h2=>(HC6.o b h2).elim (fun h3=>iW.o b h1 h3) fun h3=>by have:=HRk.o b h1;omega,aS.o⟩
    case measure=>exact qs
  ·obtain rfl:k=m:=qo
   have b0:¬(k:Int)<(k:Int):=qo
   go_wp2_with fail
   go_ret
   exact⟨by unfold yx;rw[HM.o,iX.o];rfl,cS.o,fun _=>⟨C,by rw[HM.o];exact HIk.o⟩⟩
end
end Go.Proofs.YtdnmhhohcedjbaaGreat
