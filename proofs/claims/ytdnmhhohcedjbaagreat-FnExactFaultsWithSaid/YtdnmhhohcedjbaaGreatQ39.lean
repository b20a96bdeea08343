/- Walks and plain lemmas. -/
import Derived.Test.YtdnmhhohcedjbaaGreatQ38
set_option linter.unusedVariables false
set_option linter.unusedSimpArgs false
set_option maxHeartbeats 4000000
set_option maxRecDepth 20000
namespace Go.Proofs.YtdnmhhohcedjbaaGreat
open Go.RowKit
def Q4 (w:World)(M:Nat)(L:List Int)(e:Ending)(w':World):Prop:=∃v N,e=.returned v∧N≤M∧w'.ownsRow w.heap.size 91 6 v N (ints L)∧Below w.heap.size w w'
section
variable {tg:Nat→Nat}{a:bC}{s:aI}{D:Nat}{w:World}
theorem zQ39x0 {p:Prop}(h:p:=by
 clear hset
 go_wp2_with fail
 go_roundw
 case rel=>exact⟨i+1,N+n4,by omega,by omega,Z3,YU,aZ,mK⟩
 case measure=>
  have h:=oW YU.o;rw[s8.o]at h;have h0:=sZ.o
  simp only[h,h0]
  omega):p:=h
theorem zQ39x1 {p:Prop}(h:p:=by
 clear f1 hmz
 go_wp2_with fail
 go_ret
 exact⟨_,N,rfl,by omega,by rw[HE.o,←HT.o];exact iU.o,g7.o⟩):p:=h
theorem U5 (r:Int)(H:Mem tg a s w)(hs:bW s D)(hr0: -3≤r)(hr1:r≤3)(hr:s.rk≤r):
 Calls Tryz.prog 127 #[.pointer (some ⟨a.g,0,none⟩),.int .i64 r] w (Q4 w 2400 (T.xZ s.W s.rk r s.f s.k)):=by
 obtain⟨i0,hi,iz,is,ib⟩:=info_parts iF;obtain⟨iM,a0,hv,hlo,gK,_,hmk⟩:=H.makes (B:=0) (fun _ _=>Nat.zero_le _);have hcs:=Value.agg.inj hv;obtain⟨AL,cL,AD,qD,cD,hcells⟩:=H.sev;have hbk:=H.m;rw[hcells]at hbk hcs;have m0:=(qc hbk 0 rfl);have m1:=(qc hbk 1 rfl);have m2:=(qc hbk 2 rfl);have m3:=(qc hbk 3 rfl);have m4:=(qc hbk 4 rfl);have m5:=(qc hbk 5 rfl);have m6:=(qc hbk 6 rfl);obtain⟨wa,lZ⟩:=qx (w.alloc (.cells #[.int .i64 s.W,.int .i64 s.rk,.slice (some ⟨a.gf,0,none⟩) s.W a.cf,.slice (some ⟨a.gk,0,none⟩) s.W a.ck,.slice (some ⟨a.gc,0,none⟩) 4 a.cc,.slice AL s.n cL,.slice AD qD cD] 58));have hba:Below w.heap.size w wa:=lZ▸qb;have hza:wa.heap.size=w.heap.size+1:=by rw[lZ];simp
 have hm0:Mem (eX iM w.heap.size) {a0 with g:=w.heap.size} s wa:=hmk _ _ (Decidable.byContradiction fun hn=>Nat.lt_irrefl _ (gK _ hn)) (fun b hb=>hba.block b (gK b hb)) hba.size (by rw[←hcs,lZ];exact aB.at_ _ _ _ rfl);obtain⟨mU,MI⟩:=qx (eX iM w.heap.size);obtain⟨a1,ha1⟩:∃x:bC,x={a0 with g:=w.heap.size}:=⟨_,rfl⟩;have HT1:=qh (show∀b,mU b≠0→b≤w.heap.size from fun b hb=>by
  rw[MI]at hb;unfold eX at hb
  split at hb
  ·omega
  ·exact Nat.le_of_lt (gK b hb))
 have s8:=qh (show a1.g=w.heap.size from by rw[ha1]);rw[←MI,←ha1]at hm0;have hb1:Below wa.heap.size wa (wa.alloc (.cells #[] 91)):=qb;have B7:=qh (hm0.below hb1);have HB0:=qh (hba.trans (hb1.mono hba.size));have Z9:=qh (World.ownsRow_made (e:=91) (size:=6) wa #[] 0 hba.size qm rfl);have YQ:=qh lZ;have HZA:=qh hza;have HS:=qh hs;have q1:=hs.r1;have q2:=hs.r2;have AY:=qh (fun i=>show T.qK s.W s.rk s.f s.k (i+1)=T.qK s.W s.rk s.f s.k i++T.fS s.W (s.rk+(i:Int)) (1) s.f s.k s.W from rfl);have HZ:=qh (show T.qK s.W s.rk s.f s.k 0=[]from rfl);have HE:=qh (show T.xZ s.W s.rk r s.f s.k=T.qK s.W s.rk s.f s.k (r-s.rk).toNat from by
  unfold T.xZ;rw[if_pos hr])
 clear hlo gK hmk hv hcs hcells hbk hba hza hm0 MI ha1 hb1 H hs lZ
 go_enter Tryz.func127,Tryz.ntmps127
 go_upto_region 2 with(fail)
 rw[←YQ.o]
 go_wp2_with fail
 go_loopw [6] (fun v wr=>∃i N:Nat,(i:Int)≤(r-s.rk)∧N≤400*i∧Hq (wr.ownsRow w.heap.size 91 6 v N (ints (T.qK s.W s.rk s.f s.k i)))∧Hq (Mem mU a1 {s with rk:=s.rk+(i:Int)} wr)∧Hq (Below w.heap.size w wr)∧Hq (∀b,v.ownBlock=some b→b≠w.heap.size)) (fun _ wr=>(r-sL wr w.heap.size).toNat)
 case atStart=>exact⟨0,0,by omega,by omega,qh (by rw[HZ.o];exact Z9.o),qh (by rw[show s.rk+((0:Nat):Int)=s.rk from by omega];exact B7.o),HB0,qh fun b hb e=>by
  injection hb with hb;have h:=HZA.o;have hb:wa.heap.size=b:=hb;omega⟩
 case round=>
  clear Z9 B7 HB0 m0 m1 m2 m3 m4 m5 m6;obtain⟨i,N,hiT,hN,iU,jW,g7,Pk⟩:=hrel;have n1:=jW.o.m.cell 1;have f1:=jW.o.m.frozen 1;rw[s8.o]at n1 f1;replace n1:wr.cell? ⟨w.heap.size,1,none⟩=some (.int .i64 (s.rk+(i:Int))):=n1;have hmz:=oW jW.o;rw[s8.o]at hmz;replace hmz:sL wr w.heap.size=s.rk+(i:Int):=hmz
  by_cases hlt:(i:Int)<(r-s.rk)
  ·have b1:(s.rk+(i:Int)==r)=false:=by rw[beq_eq_false_iff_ne];omega
   have b2:¬r<s.rk+(i:Int):=qo;have bN:=qh (AY.o i);have tN:=qh (HS.o.Ce (r:=s.rk+(i:Int)) qo qo);have rV:=LP (D:=D) jW.o tN.o;rw[s8.o]at rV;have yC:=qh rV;have sZ:=qh hmz;clear rV f1 hmz
   go_wp2_with fail
   refine yC.o.mono ?_;rintro e w4 ⟨v4,n4,rfl,SS,eN,hb4⟩;clear yC;obtain⟨A4,c4,rfl⟩:=aF eN;have bP:=qh (own_below iU.o hb4);have HR4:=qh (rG eN);have pM:=qh (show(T.fS s.W (s.rk+(i:Int)) (1) s.f s.k s.W).length=n4*6 from by have:=eN.1;simpa [ints]using this);have fQ:=qh (jW.o.below hb4);have aR:=g7.st hb4;have jF:w.heap.size≤w4.heap.size:=aR.o.size;clear eN hb4 n1
   go_wp2_with (at_builtin;go_must (refine sG w4 rfl (.tmp 20) (.tmp 22) _ rfl w.heap.size 91 i0 _ 6 48 Tryz.underlying49 hi iz is ib rfl qo u6 N _ rfl bP.o A4 n4 c4 _ rfl HR4.o (fun j=>rfl) qm qo jF ?_);intro v' w' hown' hfr hat';have cI:=qh hown';have eJ:=qh hfr;have cH:=qh hat';have oQ:=qh (fQ.o.same (fun b hb=>eJ.o.block b (fQ.o.lt b hb) fun e=>(by have h1:=HT1.o b hb;have h2:=(bP.o.lt b e).1;have h3:=Pk.o b e;omega)) eJ.o.size);have p1:=oQ.o.m.cell 1;have g1:=oQ.o.m.frozen 1;rw[s8.o]at p1 g1;replace p1:w'.cell? ⟨w.heap.size,1,none⟩=some (.int .i64 (s.rk+(i:Int))):=p1;clear hown' hfr hat')
   have hset:=oQ.o.rT (s.rk+(i:Int)+1);rw[s8.o]at hset;have mK:=qh (show∀b,v'.ownBlock=some b→b≠w.heap.size from fun b hb e=>by
    rcases cH.o with h|h
    ·rw[h]at hb
     exact Pk.o b hb e
    ·rw[h]at hb
     injection hb with hb;have h1:=fQ.o.lt a1.g (by rw[fQ.o.tm];omega);rw[s8.o]at h1;omega)
   have aZ:=qh ((aR.o.trans (eJ.o.below jF fun b hb=>(bP.o.lt b hb).1)).setCell (p:=⟨w.heap.size,1,none⟩) ql (.int .i64 (s.rk+(i:Int)+1)));have YU:=qh (show Mem mU a1 {s with rk:=s.rk+((i+1:Nat):Int)} (w'.setCell ⟨w.heap.size,1,none⟩ (.int .i64 (s.rk+(i:Int)+1)))from by
    rw[show s.rk+((i+1:Nat):Int)=s.rk+(i:Int)+1 from by omega];exact hset)
   have Z3:=qh (show(w'.setCell ⟨w.heap.size,1,none⟩ (.int .i64 (s.rk+(i:Int)+1))).ownsRow w.heap.size 91 6 v' (N+n4) (ints (T.qK s.W s.rk s.f s.k (i+1)))from cU (by
    have h:=cI.o;rw[lX _ _ pM.o,←aT]at h;rw[bN.o];exact h) fun b hb=>aE _ _ _ _ (mK.o b hb))
   exact zQ39x0
  ·have HT:=qh (show i=(r-s.rk).toNat from by omega)
   have b1:(s.rk+(i:Int)==r)=true:=by rw[beq_iff_eq];omega
   exact zQ39x1
theorem U6 (r:Int)(H:Mem tg a s w)(hs:bW s D)(hr0: -3≤r)(hr1:r≤3)(hr:r<s.rk):
 Calls Tryz.prog 127 #[.pointer (some ⟨a.g,0,none⟩),.int .i64 r] w (Q4 w 2400 (T.xZ s.W s.rk r s.f s.k)):=by
 obtain⟨i0,hi,iz,is,ib⟩:=info_parts iF;obtain⟨iM,a0,hv,hlo,gK,_,hmk⟩:=H.makes (B:=0) (fun _ _=>Nat.zero_le _);have hcs:=Value.agg.inj hv;obtain⟨AL,cL,AD,qD,cD,hcells⟩:=H.sev;have hbk:=H.m;rw[hcells]at hbk hcs;have m0:=(qc hbk 0 rfl);have m1:=(qc hbk 1 rfl);have m2:=(qc hbk 2 rfl);have m3:=(qc hbk 3 rfl);have m4:=(qc hbk 4 rfl);have m5:=(qc hbk 5 rfl);have m6:=(qc hbk 6 rfl);obtain⟨wa,lZ⟩:=qx (w.alloc (.cells #[.int .i64 s.W,.int .i64 s.rk,.slice (some ⟨a.gf,0,none⟩) s.W a.cf,.slice (some ⟨a.gk,0,none⟩) s.W a.ck,.slice (some ⟨a.gc,0,none⟩) 4 a.cc,.slice AL s.n cL,.slice AD qD cD] 58));have hba:Below w.heap.size w wa:=lZ▸qb;have hza:wa.heap.size=w.heap.size+1:=by rw[lZ];simp
 have hm0:Mem (eX iM w.heap.size) {a0 with g:=w.heap.size} s wa:=hmk _ _ (Decidable.byContradiction fun hn=>Nat.lt_irrefl _ (gK _ hn)) (fun b hb=>hba.block b (gK b hb)) hba.size (by rw[←hcs,lZ];exact aB.at_ _ _ _ rfl);obtain⟨mU,MI⟩:=qx (eX iM w.heap.size);obtain⟨a1,ha1⟩:∃x:bC,x={a0 with g:=w.heap.size}:=⟨_,rfl⟩;have HT1:=qh (show∀b,mU b≠0→b≤w.heap.size from fun b hb=>by
  rw[MI]at hb;unfold eX at hb
  split at hb
  ·omega
  ·exact Nat.le_of_lt (gK b hb))
 have s8:=qh (show a1.g=w.heap.size from by rw[ha1]);rw[←MI,←ha1]at hm0;have hb1:Below wa.heap.size wa (wa.alloc (.cells #[] 91)):=qb;have B7:=qh (hm0.below hb1);have HB0:=qh (hba.trans (hb1.mono hba.size));have Z9:=qh (World.ownsRow_made (e:=91) (size:=6) wa #[] 0 hba.size qm rfl);have YQ:=qh lZ;have HZA:=qh hza;have HS:=qh hs;have q1:=hs.r1;have q2:=hs.r2;have AY:=qh (fun i=>show T.rJ s.W s.rk s.f s.k (i+1)=T.rJ s.W s.rk s.f s.k i++T.fS s.W (s.rk-(i:Int)) (-1) s.f s.k s.W from rfl);have HZ:=qh (show T.rJ s.W s.rk s.f s.k 0=[]from rfl);have HE:=qh (show T.xZ s.W s.rk r s.f s.k=T.rJ s.W s.rk s.f s.k (s.rk-r).toNat from by
  unfold T.xZ;rw[if_neg qo])
 clear hlo gK hmk hv hcs hcells hbk hba hza hm0 MI ha1 hb1 H hs lZ
 go_enter Tryz.func127,Tryz.ntmps127
 go_upto_region 2 with(fail)
 rw[←YQ.o]
 go_wp2_with fail
 go_loopw [6] (fun v wr=>∃i N:Nat,(i:Int)≤(s.rk-r)∧N≤400*i∧Hq (wr.ownsRow w.heap.size 91 6 v N (ints (T.rJ s.W s.rk s.f s.k i)))∧Hq (Mem mU a1 {s with rk:=s.rk-(i:Int)} wr)∧Hq (Below w.heap.size w wr)∧Hq (∀b,v.ownBlock=some b→b≠w.heap.size)) (fun _ wr=>(sL wr w.heap.size-r).toNat)
 case atStart=>exact⟨0,0,by omega,by omega,qh (by rw[HZ.o];exact Z9.o),qh (by rw[show s.rk-((0:Nat):Int)=s.rk from by omega];exact B7.o),HB0,qh fun b hb e=>by
  injection hb with hb;have h:=HZA.o;have hb:wa.heap.size=b:=hb;omega⟩
 case round=>
  clear Z9 B7 HB0 m0 m1 m2 m3 m4 m5 m6;obtain⟨i,N,hiT,hN,iU,jW,g7,Pk⟩:=hrel;have n1:=jW.o.m.cell 1;have f1:=jW.o.m.frozen 1;rw[s8.o]at n1 f1;replace n1:wr.cell? ⟨w.heap.size,1,none⟩=some (.int .i64 (s.rk-(i:Int))):=n1;have hmz:=oW jW.o;rw[s8.o]at hmz;replace hmz:sL wr w.heap.size=s.rk-(i:Int):=hmz
  by_cases hlt:(i:Int)<(s.rk-r)
  ·have b1:(s.rk-(i:Int)==r)=false:=by rw[beq_eq_false_iff_ne];omega
   have b2:r<s.rk-(i:Int):=qo;have bN:=qh (AY.o i);have tN:=qh (HS.o.Ce (r:=s.rk-(i:Int)) qo qo);have rV:=LQ (D:=D) jW.o tN.o;rw[s8.o]at rV;have yC:=qh rV;have sZ:=qh hmz;clear rV f1 hmz
   go_wp2_with fail
   refine yC.o.mono ?_;rintro e w4 ⟨v4,n4,rfl,SS,eN,hb4⟩;clear yC;obtain⟨A4,c4,rfl⟩:=aF eN;have bP:=qh (own_below iU.o hb4);have HR4:=qh (rG eN);have pM:=qh (show(T.fS s.W (s.rk-(i:Int)) (-1) s.f s.k s.W).length=n4*6 from by have:=eN.1;simpa [ints]using this);have fQ:=qh (jW.o.below hb4);have aR:=g7.st hb4;have jF:w.heap.size≤w4.heap.size:=aR.o.size;clear eN hb4 n1
   go_wp2_with (at_builtin;go_must (refine sG w4 rfl (.tmp 20) (.tmp 22) _ rfl w.heap.size 91 i0 _ 6 48 Tryz.underlying49 hi iz is ib rfl qo u6 N _ rfl bP.o A4 n4 c4 _ rfl HR4.o (fun j=>rfl) qm qo jF ?_);intro v' w' hown' hfr hat';have cI:=qh hown';have eJ:=qh hfr;have cH:=qh hat';have oQ:=qh (fQ.o.same (fun b hb=>eJ.o.block b (fQ.o.lt b hb) fun e=>(by have h1:=HT1.o b hb;have h2:=(bP.o.lt b e).1;have h3:=Pk.o b e;omega)) eJ.o.size);have p1:=oQ.o.m.cell 1;have g1:=oQ.o.m.frozen 1;rw[s8.o]at p1 g1;replace p1:w'.cell? ⟨w.heap.size,1,none⟩=some (.int .i64 (s.rk-(i:Int))):=p1;clear hown' hfr hat')
   have hset:=oQ.o.rT (s.rk-(i:Int)+ -1);rw[s8.o]at hset;have mK:=qh (show∀b,v'.ownBlock=some b→b≠w.heap.size from fun b hb e=>by
    rcases cH.o with h|h
    ·rw[h]at hb
     exact Pk.o b hb e
    ·rw[h]at hb
     injection hb with hb;have h1:=fQ.o.lt a1.g (by rw[fQ.o.tm];omega);rw[s8.o]at h1;omega)
   have aZ:=qh ((aR.o.trans (eJ.o.below jF fun b hb=>(bP.o.lt b hb).1)).setCell (p:=⟨w.heap.size,1,none⟩) ql (.int .i64 (s.rk-(i:Int)+ -1)));have YU:=qh (show Mem mU a1 {s with rk:=s.rk-((i+1:Nat):Int)} (w'.setCell ⟨w.heap.size,1,none⟩ (.int .i64 (s.rk-(i:Int)+ -1)))from by
    rw[show s.rk-((i+1:Nat):Int)=s.rk-(i:Int)+ -1 from by omega];exact hset)
   have Z3:=qh (show(w'.setCell ⟨w.heap.size,1,none⟩ (.int .i64 (s.rk-(i:Int)+ -1))).ownsRow w.heap.size 91 6 v' (N+n4) (ints (T.rJ s.W s.rk s.f s.k (i+1)))from cU (by
    have h:=cI.o;rw[lX _ _ pM.o,←aT]at h;rw[bN.o];exact h) fun b hb=>aE _ _ _ _ (mK.o b hb))
   exact zQ39x0
  ·have HT:=qh (show i=(s.rk-r).toNat from by omega)
   have b1:(s.rk-(i:Int)==r)=true:=by rw[beq_iff_eq];omega
   exact zQ39x1
theorem iq (r:Int)(H:Mem tg a s w)(hs:bW s D)(hr0: -3≤r)(hr1:r≤3):
 Calls Tryz.prog 127 #[.pointer (some ⟨a.g,0,none⟩),.int .i64 r] w (Q4 w 2400 (T.xZ s.W s.rk r s.f s.k)):=by
 by_cases hr:s.rk≤r
 ·exact U5 r H hs hr0 hr1 hr
 ·exact U6 r H hs hr0 hr1 qo
end
end Go.Proofs.YtdnmhhohcedjbaaGreat
