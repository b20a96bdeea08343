/- Walks and plain lemmas. -/
import Derived.Test.YtmnbgjnipbpiaaaGreatDoorP32
set_option linter.unusedVariables false
set_option linter.unusedSimpArgs false
set_option maxHeartbeats 8000000
set_option maxRecDepth 20000
namespace Go.Proofs.YtmnbgjnipbpiaaaGreatDoor
open Go.RowKit
theorem rR {F:List aF}{S:List (List Int)}(h:¬F.length=S.length):¬bO F S:=fun hp=>h hp.2.1.symm
theorem tP {F:List aF}{S:List (List Int)}(h:¬(1≤(F.length:Int)∧(F.length:Int)≤60)):¬bO F S:=fun hp=>h (by have:=hp.1;omega)
open Classical in
theorem o6 (g:Nat)(A B:OA)(c d:Nat)(F:List aF)(S:List (List Int))(w:World)(h0:w.cell? ⟨g,0,none⟩=some (.slice A F.length c))(h1:w.cell? ⟨g,1,none⟩=some (.slice B S.length d))(hp:cN true w A B F S)(hb:l1 F S):
 Calls Tryz.prog 21 #[.pointer (some ⟨g,0,none⟩)] w fun e w'=>e=.returned (.bool (decide (bO F S)))∧Below w.heap.size w w':=by
 have HP:=qh hp;have bQ:=qh hb;have hfl:=hb.f.1;have hsl:=hb.s.1;clear hp hb
 by_cases hl:F.length=S.length
 case neg=>
  have HD:=qh (show decide (bO F S)=false from decide_eq_false (rR hl));have hlb:((F.length:Int)==(S.length:Int))=false:=by rw[beq_eq_false_iff_ne];omega
  have hlc:¬(F.length:Int)=(S.length:Int):=qo
  go_enter Tryz.func21,Tryz.ntmps21
  go_wp2_with fail
  go_quiet (fail)
  go_wp2_with fail
  go_ret
  exact⟨by rw[HD.o];rfl,Below.drewN' (Below.refl _ _) nq⟩
 obtain⟨N,hN⟩:=qx (F.length);have dO:=qh hN;have hZ:=qh (show S.length=N by omega);rw[←hN]at h0 hfl hl;rw[←hl]at h1
 by_cases hin:1≤(N:Int)∧(N:Int)≤60
 case neg=>
  have cF:=qh (fun W=>cL (gV.2 hin) W);have HD:=qh (show decide (bO F S)=false from decide_eq_false (tP (by rw[←hN];exact hin)));clear hin hl hN hsl
  go_enter Tryz.func21,Tryz.ntmps21
  go_wp2_with fail
  go_quiet ((go_at_call 51;exact Calls.quiet_of_same (cF.o _)))
  go_wp2_with fail
  go_ret
  exact⟨by rw[HD.o];rfl,Below.drewN' (Below.refl _ _) nq⟩
 have cF:=qh (fun W=>cL (eR.2 hin) W);have wH:1≤N∧N≤60:=qo;have hgz:g<w.heap.size:=World.block_lt_of_cell? w _ h0;clear hin hl hN hsl
 go_enter Tryz.func21,Tryz.ntmps21
 go_wp2_with fail
 go_quiet ((go_at_call 51;exact Calls.quiet_of_same (cF.o _)))
 go_wp2_with fail
 have vH:=qh (Below.drewN' (Below.refl w.heap.size w) nq)
 go_loopg [3,4,5,6,7,8] N (fun q nv x _ _ _ _ wr=>∃(k:Nat) (m:Int),k≤N∧q+k=N∧x=.int .i64 k∧nv=.int .i64 m∧Hq (cS F S k=some m)∧Hq (Below w.heap.size w wr))
 case atStart=>exact⟨0,0,Nat.zero_le _,rfl,rfl,rfl,qh rfl,vH⟩
 case round=>
  clear vH;obtain⟨k,m,hk,hq,rfl,rfl,HT,HB⟩:=hrel;have hmb:=eZ HT.o;have hgw:=Nat.lt_of_lt_of_le hgz HB.o.size;have d0:=a6 HB.o hgz h0;have d1:=a6 HB.o hgz h1
  by_cases hlt:k<N
  ·obtain⟨f,hf⟩:=dT (L:=F) (k:=k) (by have:=dO.o;omega)
   obtain⟨L,hL⟩:=dT (L:=S) (k:=k) (by have:=hZ.o;omega);obtain⟨gf,off,Af,cf,rfl,hgf,bM⟩:=(HP.o.f.below HB.o).at hf;obtain⟨gs,os,As,ms,cs,rfl,hgs,hsc,hll,hsr⟩:=(HP.o.s.below HB.o).at hL;have gX:=bQ.o.f.2 f (List.mem_of_getElem? hf);have hsb:=bQ.o.s.2 L (List.mem_of_getElem? hL);have hfn:=gX.n;have hms:ms≤1048576:=qo;have fS:=qh (o8 gf (off+k*3) f Af cf wr bM gX);have eT:=qh hsr;have eV:=qh (fun hn=>decide_eq_false (nS HT.o hf hL hn));have bZ:=qh (fun a b c d e f=>nT HT.o hf hL a b c d e f);have hdiv:L.length/6=ms:=qo;rw[hdiv]at eV bZ;have eK:=qh hll;have c0:=bM.c0;have c1:=bM.c1;have c2:=bM.c2;obtain⟨fs,fp,fl⟩:=f
   simp only at c0 c1 c2 hfn eV bZ
   have b1:(0:Int)≤(k:Int):=qo;have b2:(k:Int)<(N:Int):=qo;obtain⟨BAD,gP⟩:∃b:Bool,b=decide (¬(aT (fs,fp,fl)∧fs=m∧(0<k→¬(fp=0∧fl.length=0))∧ms≤2000)):=⟨_,rfl⟩;have gF:=qh (fun h=>gP.trans (decide_eq_true h));have l8:=qh (fun h=>gP.trans (decide_eq_false h));clear hf hL bM gX hsr hsb hdiv hll gP
   go_upto_region 8 with fail
   go_cut [84]from 29 to 150 (fun s wx=>s=.bool BAD∧Hq (Below wr.heap.size wr wx))
   case first=>
    go_wp2_with fail
    refine fS.o.mono ?_;rintro e w1 ⟨rfl,hb1⟩;have HB1:=qh hb1;have d0:=a6 hb1 hgw d0;have d1:=a6 hb1 hgw d1;have c0:=a6 hb1 hgf c0;have c1:=a6 hb1 hgf c1;have c2:=a6 hb1 hgf c2;have hsc:=a6 hb1 hgs hsc;clear hb1 fS
    by_cases hnf:aT (fs,fp,fl)
    case neg=>
     have HX:=qh (gF.o fun h=>hnf h.1);rw[decide_eq_false hnf];clear hnf
     go_wp2_with fail
     go_meet
     exact⟨by rw[HX.o],HB1⟩
    rw[decide_eq_true hnf]
    by_cases hfm:fs=m
    case neg=>
     have HX:=qh (gF.o fun h=>hfm h.2.1);have gX:(fs==m)=false:=by simp[hfm]
     clear hnf
     go_wp2_with fail
     go_meet
     exact⟨by rw[HX.o],HB1⟩
    subst hfm
    by_cases hz:0<k∧fp=0∧fl.length=0
    ·have HX:=qh (gF.o fun h=>h.2.2.1 hz.1 hz.2)
     obtain⟨z1,rfl,z3⟩:=hz;have z1':(0:Int)<(k:Int):=qo;rw[z3]at c2;clear hnf
     go_wp2_with fail
     go_meet
     exact⟨by rw[HX.o],HB1⟩
    have hcase:(¬(0:Int)<(k:Int))∨((0:Int)<(k:Int)∧(fp==0)=false)∨((0:Int)<(k:Int)∧(fp==0)=true∧((fl.length:Int)==0)=false∧¬(fl.length:Int)=0):=by
     by_cases h1:0<k
     ·by_cases h2:fp=0
      ·have h3:¬fl.length=0:=fun h=>hz ⟨h1,h2,h⟩
       exact .inr (.inr ⟨by omega,by simp[h2],by rw[beq_eq_false_iff_ne];omega,by omega⟩)
      ·exact .inr (.inl ⟨by omega,by simp[h2]⟩)
     ·exact .inl qo
    by_cases hm2:ms≤2000
    ·have HX:=qh (l8.o fun h=>h ⟨hnf,rfl,fun h h2=>hz ⟨h,h2⟩,hm2⟩)
     have s8:¬(2000:Int)<(ms:Int):=qo;clear hnf hz
     rcases hcase with z1|⟨z1,z2⟩|⟨z1,z2,z3,z4⟩
     all_goals(go_wp2_with fail;go_meet;exact⟨by rw[HX.o];first|done|exact congrArg Value.bool (decide_eq_false qo),HB1⟩)
    ·have HX:=qh (gF.o fun h=>hm2 h.2.2.2)
     have s8:(2000:Int)<(ms:Int):=qo;clear hnf hz
     rcases hcase with z1|⟨z1,z2⟩|⟨z1,z2,z3,z4⟩
     all_goals(go_wp2_with fail;go_meet;exact⟨by rw[HX.o];first|done|exact congrArg Value.bool (decide_eq_true qo),HB1⟩)
   case rest=>
    obtain⟨rfl,HB1⟩:=hcut;have HB2:=qh (HB.o.trans (HB1.o.mono HB.o.size))
    by_cases hg:aT (fs,fp,fl)∧fs=m∧(0<k→¬(fp=0∧fl.length=0))∧ms≤2000
    case neg=>
     have hx:=gF.o hg;subst hx;have HD:=qh (eV.o fun h=>hg ⟨h.1,h.2.1,h.2.2.1,by have:=h.2.2.2.1;have:=eK.o;omega⟩);clear hg
     go_wp2_with fail
     go_ret
     exact⟨by rw[HD.o];rfl,HB2.o⟩
    have hx:=l8.o (fun h=>h hg);subst hx;have HG:=qh hg;have hm2:=hg.2.2.2;have e0:=a6 HB1.o hgw d0;have e1:=a6 HB1.o hgw d1;have es:=a6 HB1.o hgs hsc;have nJ:=qh (eT.o.below HB1.o);have wE:=Nat.lt_of_lt_of_le hgw HB1.o.size;clear hg d0 d1 hsc c0 c1 c2;obtain⟨sL,gO⟩:∃b:Bool,b=decide (k+1<N∧ms=0):=⟨_,rfl⟩;have l4:=qh (fun h=>gO.trans (decide_eq_true h));have mI:=qh (fun h=>gO.trans (decide_eq_false h));clear gO
    go_upto_region 10 with fail
    go_cut [103]from 29 to 150 (fun s wx=>s=.bool sL∧wx=wc)
    case first=>
     by_cases hl1:k+1<N
     ·have hl2:(k:Int)+1<(N:Int):=qo
      by_cases hl3:ms=0
      ·have HX:=qh (l4.o ⟨hl1,hl3⟩)
       rw[hl3]at es
       go_wp2_with fail
       go_meet
       exact⟨by rw[HX.o],rfl⟩
      ·have HX:=qh (mI.o fun h=>hl3 h.2)
       have hl4:((ms:Int)==0)=false:=by rw[beq_eq_false_iff_ne];omega
       have hl5:¬(ms:Int)=0:=qo
       go_wp2_with fail
       go_meet
       exact⟨by rw[HX.o],rfl⟩
     ·have HX:=qh (mI.o fun h=>hl1 h.1)
      have hl2:¬(k:Int)+1<(N:Int):=qo
      go_wp2_with fail
      go_meet
      exact⟨by rw[HX.o],rfl⟩
    case rest=>
     obtain⟨rfl,rfl⟩:=hcut
     by_cases hl:k+1<N∧ms=0
     ·have hx:=l4.o hl
      subst hx;have HD:=qh (eV.o fun h=>h.2.2.2.2.1 (by rw[←dO.o];exact hl.1) (by have:=eK.o;omega));clear hl
      go_wp2_with fail
      go_ret
      exact⟨by rw[HD.o];rfl,HB2.o⟩
     have hx:=mI.o hl;subst hx;have oZ:=qh hl;obtain⟨hg1,rfl,hg3,_⟩:=HG.o;clear hl hg1 hg3
     go_wp2_with fail
     have HZ0:=qh (show cnt (fun i=>L.getD i 0) fs 0=some fs from rfl)
     go_loopw [3,6,7,8] (fun nv x _ _ wx=>∃(j:Nat) (y:Int),j≤ms∧x=.int .i64 j∧nv=.int .i64 y∧Hq (cnt (fun i=>L.getD i 0) fs j=some y)∧Hq (dQ L j)∧Hq (∃Q,wx=wc.drewN Q)) (fun _ x _ _ _=>ms-(intOf x).toNat)
     case atStart=>exact⟨0,fs,Nat.zero_le _,rfl,rfl,HZ0,qh (fun j hj=>absurd hj (Nat.not_lt_zero j)),qh ⟨0,rfl⟩⟩
     case round=>
      obtain⟨j,y,hj,rfl,rfl,HC,bI,HQ⟩:=hrel;obtain⟨Q,hQ⟩:=HQ.o;subst hQ;have hyb:=dK hmb HC.o
      by_cases hjl:j<ms
      ·obtain⟨g9,o9,rfl,vC,hev⟩:=kZ nJ.o hjl
       have mK:=qh (j9 HC.o);have jE:=qh (fR HC.o);have hcall:∀wz,Hq (dJ wz g9 (o9+j*6) (L.getD (j*6) 0) (L.getD (j*6+1) 0) (L.getD (j*6+2) 0) (L.getD (j*6+3) 0) (L.getD (j*6+4) 0) (L.getD (j*6+5) 0))→_:=fun wz h=>kL _ _ _ _ _ _ y g9 (o9+j*6) wz h ⟨by omega,by omega⟩;have eL:=qh hev;have tB:=qh (show dQ L (j+1)↔dQ L j∧L.getD (j*6) 0≠1 from⟨fun h=>⟨fun i hi=>h i qo,h j qo⟩,fun h i hi=>by
        rcases Nat.lt_or_ge i j with h'|h'
        ·exact h.1 i h'
        ·obtain rfl:i=j:=qo
         exact h.2⟩)
       obtain⟨k0,hk0⟩:=qx (L.getD (j*6) 0);obtain⟨p0,hp0⟩:=qx (L.getD (j*6+1) 0);obtain⟨c0,hc0⟩:=qx (L.getD (j*6+2) 0);obtain⟨b0,hb0⟩:=qx (L.getD (j*6+3) 0);obtain⟨y0,hy0⟩:=qx (L.getD (j*6+4) 0);obtain⟨d9,j6⟩:=qx (L.getD (j*6+5) 0)
       simp only[←hk0,←hp0,←hc0,←hb0,←hy0,←j6]at hev eL mK jE tB hcall
       have qR:=qh (fun Q=>hcall (wc.drewN Q) (qh ⟨eL.o.c0,eL.o.c1,eL.o.c2,eL.o.c3,eL.o.c4,eL.o.c5⟩));have a0:=hev.c0;have b4:(0:Int)≤(j:Int):=qo;have b5:(j:Int)<(ms:Int):=qo;obtain⟨E,hE⟩:=qx (bE k0 p0 c0 b0 y0 d9 y);obtain⟨AF,vE⟩:=qx (aM k0 c0 y);rw[←hE,←vE]at mK jE qR;clear hev hcall hk0 hp0 hc0 hb0 hy0 j6 hE vE
       go_wp2_with fail
       refine(qR.o Q).mono ?_;rintro e w9 ⟨v9,q9,rfl,v8,rfl⟩;have HV:=qh v8;have eX:=qh (Below.drewN' HB2.o (Q+q9));clear v8;have hnone:∀h:cnt (fun i=>L.getD i 0) fs (j+1)=none,decide (bO F S)=false:=fun h=>eV.o fun hh=>hh.2.2.2.2.2.2 (eD _ _ (show j+1≤ms by omega) h);have vR:=qh hnone;clear hnone
       cases E
       ·have HD:=qh (vR.o (jE.o fun h=>by cases h.1))
        go_wp2_with fail
        go_ret
        exact⟨by rw[HD.o];rfl,eX.o⟩
       obtain rfl:v9=AF:=HV.o rfl
       by_cases hk1:k0=1
       ·have hkb:(k0==1)=true:=by simp[hk1]
        have HD:=qh (eV.o fun hh=>(tB.o.1 (fun i hi=>hh.2.2.2.2.2.1 i qo)).2 hk1);clear hk1
        go_wp2_with fail
        go_ret
        exact⟨by rw[HD.o];rfl,eX.o⟩
       have hkb:(k0==1)=false:=by simp[hk1]
       by_cases h12:12<v9
       ·have HD:=qh (vR.o (jE.o fun h=>by omega))
        go_wp2_with fail
        go_ret
        exact⟨by rw[HD.o];rfl,eX.o⟩
       ·have y9:=qh (mK.o rfl qo)
        have dN:=qh (tB.o.2 ⟨bI.o,hk1⟩)
        go_wp2_with fail
        go_roundw
        case rel=>exact⟨j+1,v9,by omega,qg,rfl,y9,dN,qh ⟨_,rfl⟩⟩
        case measure=>exact qs
      ·obtain rfl:j=ms:=qo
       have sU:=qh (show cS F S (k+1)=some y from(bZ.o HG.o.1 (by first|rfl|trivial) HG.o.2.2.1 (by have:=eK.o;have:=HG.o.2.2.2;omega) (fun h h2=>oZ.o ⟨by rw[dO.o];exact h,by have:=eK.o;omega⟩) bI.o).trans HC.o);have eX:=qh (Below.drewN' HB2.o Q)
       go_wp2_with fail
       go_roundg (gk-1)
       case rel=>exact⟨k+1,y,by omega,by omega,qg,rfl,sU,eX⟩
       case measure=>omega
  ·obtain rfl:N=k:=qo
   have HD:=qh (show decide (bO F S)=true from decide_eq_true ⟨by rw[←dO.o];exact wH,by rw[←dO.o];exact hZ.o,by rw[←dO.o,HT.o];rfl⟩)
   go_wp2_with fail
   go_ret
   exact⟨by rw[HD.o];rfl,HB.o⟩
end Go.Proofs.YtmnbgjnipbpiaaaGreatDoor
