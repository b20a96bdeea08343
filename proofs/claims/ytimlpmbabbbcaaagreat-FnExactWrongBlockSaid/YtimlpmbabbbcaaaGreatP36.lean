/- Walks and plain lemmas. -/
import Derived.Test.YtimlpmbabbbcaaaGreatP35
set_option linter.unusedVariables false
set_option linter.unusedSimpArgs false
set_option maxHeartbeats 4000000
set_option maxRecDepth 20000
namespace Go.Proofs.YtimlpmbabbbcaaaGreat
open Go.RowKit
def QM (w:World)(M:Nat)(L:List Int)(e:Ending)(w':World):Prop:=∃v N,e=.returned v∧N≤M∧w'.ownsRow w.heap.size 116 6 v N (ints L)∧Below w.heap.size w w'
section
variable {tg:Nat→Nat}{a:bV}{s:aP}{D:Nat}{w:World}
theorem zP36x0 {p:Prop}(h:p:=by
 clear hset
 go_wp2_with fail
 go_roundw
 case rel=>exact⟨i+1,N+n4,by omega,by omega,Z6,YX,bG,nC⟩
 case measure=>
  have h:=pT YX.o;rw[yO.o]at h;have h0:=vN.o
  simp only[h,h0]
  omega):p:=h
theorem zP36x1 {p:Prop}(h:p:=by
 clear f1 hmz
 go_wp2_with fail
 go_ret
 exact⟨_,N,rfl,by omega,by rw[HE.o,←HT.o];exact jX.o,i3.o⟩):p:=h
theorem U5 (r:Int)(H:Mem tg a s w)(hs:d8 s D)(hr0: -3≤r)(hr1:r≤3)(hr:s.rk≤r):
 Calls Tryz.prog 105 #[.pointer (some ⟨a.g,0,none⟩),.int .i64 r] w (QM w 2400 (T.CZ s.W s.rk r s.f s.k)):=by
 obtain⟨i0,hi,iz,is,ib⟩:=info_parts dQ;obtain⟨p8,a0,hv,hlo,nU,_,hmk⟩:=H.makes (B:=0) (fun _ _=>Nat.zero_le _);have hcs:=Value.agg.inj hv;obtain⟨AL,cL,AD,qD,cD,hcells⟩:=H.sev;have hbk:=H.m;rw[hcells]at hbk hcs;have m0:=(qc hbk 0 rfl);have m1:=(qc hbk 1 rfl);have m2:=(qc hbk 2 rfl);have m3:=(qc hbk 3 rfl);have m4:=(qc hbk 4 rfl);have m5:=(qc hbk 5 rfl);have m6:=(qc hbk 6 rfl);obtain⟨wa,GX⟩:=qx (w.alloc (.cells #[.int .i64 s.W,.int .i64 s.rk,.slice (some ⟨a.gf,0,none⟩) s.W a.cf,.slice (some ⟨a.gk,0,none⟩) s.W a.ck,.slice (some ⟨a.gc,0,none⟩) 4 a.cc,.slice AL s.n cL,.slice AD qD cD] 93));have hba:Below w.heap.size w wa:=GX▸qb;have hza:wa.heap.size=w.heap.size+1:=by rw[GX];simp
 have hm0:Mem (tS p8 w.heap.size) {a0 with g:=w.heap.size} s wa:=hmk _ _ (Decidable.byContradiction fun hn=>Nat.lt_irrefl _ (nU _ hn)) (fun b hb=>hba.block b (nU b hb)) hba.size (by rw[←hcs,GX];exact aG.at_ _ _ _ rfl);obtain⟨AU,NI⟩:=qx (tS p8 w.heap.size);obtain⟨a1,ha1⟩:∃x:bV,x={a0 with g:=w.heap.size}:=⟨_,rfl⟩;have HT1:=qh (show∀b,AU b≠0→b≤w.heap.size from fun b hb=>by
  rw[NI]at hb;unfold tS at hb
  split at hb
  ·omega
  ·exact Nat.le_of_lt (nU b hb))
 have yO:=qh (show a1.g=w.heap.size from by rw[ha1]);rw[←NI,←ha1]at hm0;have hb1:Below wa.heap.size wa (wa.alloc (.cells #[] 116)):=qb;have yN:=qh (hm0.below hb1);have HB0:=qh (hba.trans (hb1.mono hba.size));have QB:=qh (World.ownsRow_made (e:=116) (size:=6) wa #[] 0 hba.size qm rfl);have YT:=qh GX;have HZA:=qh hza;have HS:=qh hs;have q1:=hs.r1;have q2:=hs.r2;have C9:=qh (fun i=>show T.rZ s.W s.rk s.f s.k (i+1)=T.rZ s.W s.rk s.f s.k i++T.i6 s.W (s.rk+(i:Int)) (1) s.f s.k s.W from rfl);have HZ:=qh (show T.rZ s.W s.rk s.f s.k 0=[]from rfl);have HE:=qh (show T.CZ s.W s.rk r s.f s.k=T.rZ s.W s.rk s.f s.k (r-s.rk).toNat from by
  unfold T.CZ;rw[if_pos hr])
 clear hlo nU hmk hv hcs hcells hbk hba hza hm0 NI ha1 hb1 H hs GX
 go_enter Tryz.func105,Tryz.ntmps105
 go_upto_region 2 with(fail)
 rw[←YT.o]
 go_wp2_with fail
 go_loopw [6] (fun v wr=>∃i N:Nat,(i:Int)≤(r-s.rk)∧N≤400*i∧Hq (wr.ownsRow w.heap.size 116 6 v N (ints (T.rZ s.W s.rk s.f s.k i)))∧Hq (Mem AU a1 {s with rk:=s.rk+(i:Int)} wr)∧Hq (Below w.heap.size w wr)∧Hq (∀b,v.ownBlock=some b→b≠w.heap.size)) (fun _ wr=>(r-tP wr w.heap.size).toNat)
 case atStart=>exact⟨0,0,by omega,by omega,qh (by rw[HZ.o];exact QB.o),qh (by rw[show s.rk+((0:Nat):Int)=s.rk from by omega];exact yN.o),HB0,qh fun b hb e=>by
  injection hb with hb;have h:=HZA.o;have hb:wa.heap.size=b:=hb;omega⟩
 case round=>
  clear QB yN HB0 m0 m1 m2 m3 m4 m5 m6;obtain⟨i,N,hiT,hN,jX,lG,i3,Nr⟩:=hrel;have n1:=lG.o.m.cell 1;have f1:=lG.o.m.frozen 1;rw[yO.o]at n1 f1;replace n1:wr.cell? ⟨w.heap.size,1,none⟩=some (.int .i64 (s.rk+(i:Int))):=n1;have hmz:=pT lG.o;rw[yO.o]at hmz;replace hmz:tP wr w.heap.size=s.rk+(i:Int):=hmz
  by_cases hlt:(i:Int)<(r-s.rk)
  ·have b1:(s.rk+(i:Int)==r)=false:=by rw[beq_eq_false_iff_ne];omega
   have b2:¬r<s.rk+(i:Int):=qo;have cB:=qh (C9.o i);have rE:=qh (HS.o.Cb (r:=s.rk+(i:Int)) qo qo);have nT:=MZ (D:=D) lG.o rE.o;rw[yO.o]at nT;have zJ:=qh nT;have vN:=qh hmz;clear nT f1 hmz
   go_wp2_with fail
   refine zJ.o.mono ?_;rintro e w4 ⟨v4,n4,rfl,oF,d6,hb4⟩;clear zJ;obtain⟨A4,c4,rfl⟩:=aE d6;have bS:=qh (own_below jX.o hb4);have HR4:=qh (rU d6);have qJ:=qh (show(T.i6 s.W (s.rk+(i:Int)) (1) s.f s.k s.W).length=n4*6 from by have:=d6.1;simpa [ints]using this);have fV:=qh (lG.o.below hb4);have aW:=i3.st hb4;have lD:w.heap.size≤w4.heap.size:=aW.o.size;clear d6 hb4 n1
   go_wp2_with (at_builtin;go_must (refine tJ w4 rfl (.tmp 20) (.tmp 22) _ rfl w.heap.size 116 i0 _ 6 48 Tryz.underlying42 hi iz is ib rfl qo u6 N _ rfl bS.o A4 n4 c4 _ rfl HR4.o (fun j=>rfl) qm qo lD ?_);intro v' w' hown' hfr hat';have d9:=qh hown';have iB:=qh hfr;have dC:=qh hat';have nG:=qh (fV.o.same (fun b hb=>iB.o.block b (fV.o.lt b hb) fun e=>(by have h1:=HT1.o b hb;have h2:=(bS.o.lt b e).1;have h3:=Nr.o b e;omega)) iB.o.size);have p1:=nG.o.m.cell 1;have g1:=nG.o.m.frozen 1;rw[yO.o]at p1 g1;replace p1:w'.cell? ⟨w.heap.size,1,none⟩=some (.int .i64 (s.rk+(i:Int))):=p1;clear hown' hfr hat')
   have hset:=nG.o.sR (s.rk+(i:Int)+1);rw[yO.o]at hset;have nC:=qh (show∀b,v'.ownBlock=some b→b≠w.heap.size from fun b hb e=>by
    rcases dC.o with h|h
    ·rw[h]at hb
     exact Nr.o b hb e
    ·rw[h]at hb
     injection hb with hb;have h1:=fV.o.lt a1.g (by rw[fV.o.tm];omega);rw[yO.o]at h1;omega)
   have bG:=qh ((aW.o.trans (iB.o.below lD fun b hb=>(bS.o.lt b hb).1)).setCell (p:=⟨w.heap.size,1,none⟩) ql (.int .i64 (s.rk+(i:Int)+1)));have YX:=qh (show Mem AU a1 {s with rk:=s.rk+((i+1:Nat):Int)} (w'.setCell ⟨w.heap.size,1,none⟩ (.int .i64 (s.rk+(i:Int)+1)))from by
    rw[show s.rk+((i+1:Nat):Int)=s.rk+(i:Int)+1 from by omega];exact hset)
   have Z6:=qh (show(w'.setCell ⟨w.heap.size,1,none⟩ (.int .i64 (s.rk+(i:Int)+1))).ownsRow w.heap.size 116 6 v' (N+n4) (ints (T.rZ s.W s.rk s.f s.k (i+1)))from eE (by
    have h:=d9.o;rw[mL _ _ qJ.o,←aL]at h;rw[cB.o];exact h) fun b hb=>bI _ _ _ _ (nC.o b hb))
   exact zP36x0
  ·have HT:=qh (show i=(r-s.rk).toNat from by omega)
   have b1:(s.rk+(i:Int)==r)=true:=by rw[beq_iff_eq];omega
   exact zP36x1
theorem U7 (r:Int)(H:Mem tg a s w)(hs:d8 s D)(hr0: -3≤r)(hr1:r≤3)(hr:r<s.rk):
 Calls Tryz.prog 105 #[.pointer (some ⟨a.g,0,none⟩),.int .i64 r] w (QM w 2400 (T.CZ s.W s.rk r s.f s.k)):=by
 obtain⟨i0,hi,iz,is,ib⟩:=info_parts dQ;obtain⟨p8,a0,hv,hlo,nU,_,hmk⟩:=H.makes (B:=0) (fun _ _=>Nat.zero_le _);have hcs:=Value.agg.inj hv;obtain⟨AL,cL,AD,qD,cD,hcells⟩:=H.sev;have hbk:=H.m;rw[hcells]at hbk hcs;have m0:=(qc hbk 0 rfl);have m1:=(qc hbk 1 rfl);have m2:=(qc hbk 2 rfl);have m3:=(qc hbk 3 rfl);have m4:=(qc hbk 4 rfl);have m5:=(qc hbk 5 rfl);have m6:=(qc hbk 6 rfl);obtain⟨wa,GX⟩:=qx (w.alloc (.cells #[.int .i64 s.W,.int .i64 s.rk,.slice (some ⟨a.gf,0,none⟩) s.W a.cf,.slice (some ⟨a.gk,0,none⟩) s.W a.ck,.slice (some ⟨a.gc,0,none⟩) 4 a.cc,.slice AL s.n cL,.slice AD qD cD] 93));have hba:Below w.heap.size w wa:=GX▸qb;have hza:wa.heap.size=w.heap.size+1:=by rw[GX];simp
 have hm0:Mem (tS p8 w.heap.size) {a0 with g:=w.heap.size} s wa:=hmk _ _ (Decidable.byContradiction fun hn=>Nat.lt_irrefl _ (nU _ hn)) (fun b hb=>hba.block b (nU b hb)) hba.size (by rw[←hcs,GX];exact aG.at_ _ _ _ rfl);obtain⟨AU,NI⟩:=qx (tS p8 w.heap.size);obtain⟨a1,ha1⟩:∃x:bV,x={a0 with g:=w.heap.size}:=⟨_,rfl⟩;have HT1:=qh (show∀b,AU b≠0→b≤w.heap.size from fun b hb=>by
  rw[NI]at hb;unfold tS at hb
  split at hb
  ·omega
  ·exact Nat.le_of_lt (nU b hb))
 have yO:=qh (show a1.g=w.heap.size from by rw[ha1]);rw[←NI,←ha1]at hm0;have hb1:Below wa.heap.size wa (wa.alloc (.cells #[] 116)):=qb;have yN:=qh (hm0.below hb1);have HB0:=qh (hba.trans (hb1.mono hba.size));have QB:=qh (World.ownsRow_made (e:=116) (size:=6) wa #[] 0 hba.size qm rfl);have YT:=qh GX;have HZA:=qh hza;have HS:=qh hs;have q1:=hs.r1;have q2:=hs.r2;have C9:=qh (fun i=>show T.tQ s.W s.rk s.f s.k (i+1)=T.tQ s.W s.rk s.f s.k i++T.i6 s.W (s.rk-(i:Int)) (-1) s.f s.k s.W from rfl);have HZ:=qh (show T.tQ s.W s.rk s.f s.k 0=[]from rfl);have HE:=qh (show T.CZ s.W s.rk r s.f s.k=T.tQ s.W s.rk s.f s.k (s.rk-r).toNat from by
  unfold T.CZ;rw[if_neg qo])
 clear hlo nU hmk hv hcs hcells hbk hba hza hm0 NI ha1 hb1 H hs GX
 go_enter Tryz.func105,Tryz.ntmps105
 go_upto_region 2 with(fail)
 rw[←YT.o]
 go_wp2_with fail
 go_loopw [6] (fun v wr=>∃i N:Nat,(i:Int)≤(s.rk-r)∧N≤400*i∧Hq (wr.ownsRow w.heap.size 116 6 v N (ints (T.tQ s.W s.rk s.f s.k i)))∧Hq (Mem AU a1 {s with rk:=s.rk-(i:Int)} wr)∧Hq (Below w.heap.size w wr)∧Hq (∀b,v.ownBlock=some b→b≠w.heap.size)) (fun _ wr=>(tP wr w.heap.size-r).toNat)
 case atStart=>exact⟨0,0,by omega,by omega,qh (by rw[HZ.o];exact QB.o),qh (by rw[show s.rk-((0:Nat):Int)=s.rk from by omega];exact yN.o),HB0,qh fun b hb e=>by
  injection hb with hb;have h:=HZA.o;have hb:wa.heap.size=b:=hb;omega⟩
 case round=>
  clear QB yN HB0 m0 m1 m2 m3 m4 m5 m6;obtain⟨i,N,hiT,hN,jX,lG,i3,Nr⟩:=hrel;have n1:=lG.o.m.cell 1;have f1:=lG.o.m.frozen 1;rw[yO.o]at n1 f1;replace n1:wr.cell? ⟨w.heap.size,1,none⟩=some (.int .i64 (s.rk-(i:Int))):=n1;have hmz:=pT lG.o;rw[yO.o]at hmz;replace hmz:tP wr w.heap.size=s.rk-(i:Int):=hmz
  by_cases hlt:(i:Int)<(s.rk-r)
  ·have b1:(s.rk-(i:Int)==r)=false:=by rw[beq_eq_false_iff_ne];omega
   have b2:r<s.rk-(i:Int):=qo;have cB:=qh (C9.o i);have rE:=qh (HS.o.Cb (r:=s.rk-(i:Int)) qo qo);have nT:=N1 (D:=D) lG.o rE.o;rw[yO.o]at nT;have zJ:=qh nT;have vN:=qh hmz;clear nT f1 hmz
   go_wp2_with fail
   refine zJ.o.mono ?_;rintro e w4 ⟨v4,n4,rfl,oF,d6,hb4⟩;clear zJ;obtain⟨A4,c4,rfl⟩:=aE d6;have bS:=qh (own_below jX.o hb4);have HR4:=qh (rU d6);have qJ:=qh (show(T.i6 s.W (s.rk-(i:Int)) (-1) s.f s.k s.W).length=n4*6 from by have:=d6.1;simpa [ints]using this);have fV:=qh (lG.o.below hb4);have aW:=i3.st hb4;have lD:w.heap.size≤w4.heap.size:=aW.o.size;clear d6 hb4 n1
   go_wp2_with (at_builtin;go_must (refine tJ w4 rfl (.tmp 20) (.tmp 22) _ rfl w.heap.size 116 i0 _ 6 48 Tryz.underlying42 hi iz is ib rfl qo u6 N _ rfl bS.o A4 n4 c4 _ rfl HR4.o (fun j=>rfl) qm qo lD ?_);intro v' w' hown' hfr hat';have d9:=qh hown';have iB:=qh hfr;have dC:=qh hat';have nG:=qh (fV.o.same (fun b hb=>iB.o.block b (fV.o.lt b hb) fun e=>(by have h1:=HT1.o b hb;have h2:=(bS.o.lt b e).1;have h3:=Nr.o b e;omega)) iB.o.size);have p1:=nG.o.m.cell 1;have g1:=nG.o.m.frozen 1;rw[yO.o]at p1 g1;replace p1:w'.cell? ⟨w.heap.size,1,none⟩=some (.int .i64 (s.rk-(i:Int))):=p1;clear hown' hfr hat')
   have hset:=nG.o.sR (s.rk-(i:Int)+ -1);rw[yO.o]at hset;have nC:=qh (show∀b,v'.ownBlock=some b→b≠w.heap.size from fun b hb e=>by
    rcases dC.o with h|h
    ·rw[h]at hb
     exact Nr.o b hb e
    ·rw[h]at hb
     injection hb with hb;have h1:=fV.o.lt a1.g (by rw[fV.o.tm];omega);rw[yO.o]at h1;omega)
   have bG:=qh ((aW.o.trans (iB.o.below lD fun b hb=>(bS.o.lt b hb).1)).setCell (p:=⟨w.heap.size,1,none⟩) ql (.int .i64 (s.rk-(i:Int)+ -1)));have YX:=qh (show Mem AU a1 {s with rk:=s.rk-((i+1:Nat):Int)} (w'.setCell ⟨w.heap.size,1,none⟩ (.int .i64 (s.rk-(i:Int)+ -1)))from by
    rw[show s.rk-((i+1:Nat):Int)=s.rk-(i:Int)+ -1 from by omega];exact hset)
   have Z6:=qh (show(w'.setCell ⟨w.heap.size,1,none⟩ (.int .i64 (s.rk-(i:Int)+ -1))).ownsRow w.heap.size 116 6 v' (N+n4) (ints (T.tQ s.W s.rk s.f s.k (i+1)))from eE (by
    have h:=d9.o;rw[mL _ _ qJ.o,←aL]at h;rw[cB.o];exact h) fun b hb=>bI _ _ _ _ (nC.o b hb))
   exact zP36x0
  ·have HT:=qh (show i=(s.rk-r).toNat from by omega)
   have b1:(s.rk-(i:Int)==r)=true:=by rw[beq_iff_eq];omega
   exact zP36x1
theorem bn (r:Int)(H:Mem tg a s w)(hs:d8 s D)(hr0: -3≤r)(hr1:r≤3):
 Calls Tryz.prog 105 #[.pointer (some ⟨a.g,0,none⟩),.int .i64 r] w (QM w 2400 (T.CZ s.W s.rk r s.f s.k)):=by
 by_cases hr:s.rk≤r
 ·exact U5 r H hs hr0 hr1 hr
 ·exact U7 r H hs hr0 hr1 qo
end
end Go.Proofs.YtimlpmbabbbcaaaGreat
