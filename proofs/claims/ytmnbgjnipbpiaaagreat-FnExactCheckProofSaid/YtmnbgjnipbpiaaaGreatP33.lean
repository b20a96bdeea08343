/- Walks and plain lemmas. -/
import Derived.Test.YtmnbgjnipbpiaaaGreatP31
set_option linter.unusedVariables false
set_option linter.unusedSimpArgs false
set_option maxHeartbeats 8000000
set_option maxRecDepth 20000
namespace Go.Proofs.YtmnbgjnipbpiaaaGreat
open Go.RowKit
theorem GV {F:List aP}{S:List (List Int)}(h:¬F.length=S.length):¬cT F S:=fun hp=>h hp.2.1.symm
theorem K9 {F:List aP}{S:List (List Int)}(h:¬(1≤(F.length:Int)∧(F.length:Int)≤60)):¬cT F S:=fun hp=>h (by have:=hp.1;omega)
open Classical in
theorem BP (g:Nat)(A B:OA)(c d:Nat)(F:List aP)(S:List (List Int))(w:World)(h0:w.cell? ⟨g,0,none⟩=some (.slice A F.length c))(h1:w.cell? ⟨g,1,none⟩=some (.slice B S.length d))(hp:cE true w A B F S)(hb:lD F S):
 Calls Tryz.prog 15 #[.pointer (some ⟨g,0,none⟩)] w fun e w'=>e=.returned (.bool (decide (cT F S)))∧Below w.heap.size w w':=by
 have HP:=qh hp;have cV:=qh hb;have hfl:=hb.f.1;have hsl:=hb.s.1;clear hp hb
 by_cases hl:F.length=S.length
 case neg=>
  have HD:=qh (show decide (cT F S)=false from decide_eq_false (GV hl));have hlb:((F.length:Int)==(S.length:Int))=false:=by rw[beq_eq_false_iff_ne];omega
  have hlc:¬(F.length:Int)=(S.length:Int):=qo
  go_enter Tryz.func15,Tryz.ntmps15
  go_wp2_with fail
  go_quiet (fail)
  go_wp2_with fail
  go_ret
  exact⟨by rw[HD.o];rfl,Below.drewN' (Below.refl _ _) nq⟩
 obtain⟨N,hN⟩:=qx (F.length);have cK:=qh hN;have CO:=qh (show S.length=N by omega);rw[←hN]at h0 hfl hl;rw[←hl]at h1
 by_cases hin:1≤(N:Int)∧(N:Int)≤60
 case neg=>
  have dM:=qh (fun W=>eN (oE.2 hin) W);have HD:=qh (show decide (cT F S)=false from decide_eq_false (K9 (by rw[←hN];exact hin)));clear hin hl hN hsl
  go_enter Tryz.func15,Tryz.ntmps15
  go_wp2_with fail
  go_quiet ((go_at_call 31;exact Calls.quiet_of_same (dM.o _)))
  go_wp2_with fail
  go_ret
  exact⟨by rw[HD.o];rfl,Below.drewN' (Below.refl _ _) nq⟩
 have dM:=qh (fun W=>eN (kD.2 hin) W);have NB:1≤N∧N≤60:=qo;have hgz:g<w.heap.size:=World.block_lt_of_cell? w _ h0;clear hin hl hN hsl
 go_enter Tryz.func15,Tryz.ntmps15
 go_wp2_with fail
 go_quiet ((go_at_call 31;exact Calls.quiet_of_same (dM.o _)))
 go_wp2_with fail
 have LL:=qh (Below.drewN' (Below.refl w.heap.size w) nq)
 go_loopg [3,4,5,6,7,8] N (fun q nv x _ _ _ _ wr=>∃(k:Nat) (m:Int),k≤N∧q+k=N∧x=.int .i64 k∧nv=.int .i64 m∧Hq (f9 F S k=some m)∧Hq (Below w.heap.size w wr))
 case atStart=>exact⟨0,0,Nat.zero_le _,rfl,rfl,rfl,qh rfl,LL⟩
 case round=>
  clear LL;obtain⟨k,m,hk,hq,rfl,rfl,HT,HB⟩:=hrel;have hmb:=o8 HT.o;have hgw:=Nat.lt_of_lt_of_le hgz HB.o.size;have d0:=a7 HB.o hgz h0;have d1:=a7 HB.o hgz h1
  by_cases hlt:k<N
  ·obtain⟨f,hf⟩:=zT (L:=F) (k:=k) (by have:=cK.o;omega)
   obtain⟨L,hL⟩:=zT (L:=S) (k:=k) (by have:=CO.o;omega);obtain⟨gf,off,Af,cf,rfl,hgf,iQ⟩:=(HP.o.f.below HB.o).at hf;obtain⟨gs,os,As,ms,cs,rfl,hgs,hsc,hll,hsr⟩:=(HP.o.s.below HB.o).at hL;have oK:=cV.o.f.2 f (List.mem_of_getElem? hf);have hsb:=cV.o.s.2 L (List.mem_of_getElem? hL);have hfn:=oK.n;have hms:ms≤1048576:=qo;have qZ:=qh (BQ gf (off+k*3) f Af cf wr iQ oK);have vS:=qh hsr;have bX:=qh (fun hn=>decide_eq_false (B3 HT.o hf hL hn));have nH:=qh (fun a b c d e f=>B4 HT.o hf hL a b c d e f);have hdiv:L.length/6=ms:=qo;rw[hdiv]at bX nH;have eI:=qh hll;have c0:=iQ.c0;have c1:=iQ.c1;have c2:=iQ.c2;obtain⟨fs,fp,fl⟩:=f
   simp only at c0 c1 c2 hfn bX nH
   have b1:(0:Int)≤(k:Int):=qo;have b2:(k:Int)<(N:Int):=qo;obtain⟨BAD,nU⟩:∃b:Bool,b=decide (¬(bF (fs,fp,fl)∧fs=m∧(0<k→¬(fp=0∧fl.length=0))∧ms≤2000)):=⟨_,rfl⟩;have jO:=qh (fun h=>nU.trans (decide_eq_true h));have dN:=qh (fun h=>nU.trans (decide_eq_false h));clear hf hL iQ oK hsr hsb hdiv hll nU
   go_upto_region 8 with fail
   go_cut [84]from 29 to 150 (fun s wx=>s=.bool BAD∧Hq (Below wr.heap.size wr wx))
   case first=>
    go_wp2_with fail
    refine qZ.o.mono ?_;rintro e w1 ⟨rfl,hb1⟩;have HB1:=qh hb1;have d0:=a7 hb1 hgw d0;have d1:=a7 hb1 hgw d1;have c0:=a7 hb1 hgf c0;have c1:=a7 hb1 hgf c1;have c2:=a7 hb1 hgf c2;have hsc:=a7 hb1 hgs hsc;clear hb1 qZ
    by_cases hnf:bF (fs,fp,fl)
    case neg=>
     have HX:=qh (jO.o fun h=>hnf h.1);rw[decide_eq_false hnf];clear hnf
     go_wp2_with fail
     go_meet
     exact⟨by rw[HX.o],HB1⟩
    rw[decide_eq_true hnf]
    by_cases hfm:fs=m
    case neg=>
     have HX:=qh (jO.o fun h=>hfm h.2.1);have oK:(fs==m)=false:=by simp[hfm]
     clear hnf
     go_wp2_with fail
     go_meet
     exact⟨by rw[HX.o],HB1⟩
    subst hfm
    by_cases hz:0<k∧fp=0∧fl.length=0
    ·have HX:=qh (jO.o fun h=>h.2.2.1 hz.1 hz.2)
     obtain⟨z1,rfl,z3⟩:=hz;have z1':(0:Int)<(k:Int):=qo;rw[z3]at c2;clear hnf
     go_wp2_with fail
     go_meet
     exact⟨by rw[HX.o],HB1⟩
    have hcase:(¬(0:Int)<(k:Int))∨((0:Int)<(k:Int)∧(fp==0)=false)∨((0:Int)<(k:Int)∧(fp==0)=true∧((fl.length:Int)==0)=false∧¬(fl.length:Int)=0):=by
     by_cases h1:0<k
     ·by_cases h2:fp=0
      ·have h3:¬fl.length=0:=fun h=>hz ⟨h1,h2,h⟩
       exact .inr (.inr ⟨by omega,by simp[h2],by rw[beq_eq_false_iff_ne];omega,by omega⟩)
      ·exact .inr (.inl ⟨by omega,by simp[h2]⟩)
     ·exact .inl qo
    by_cases hm2:ms≤2000
    ·have HX:=qh (dN.o fun h=>h ⟨hnf,rfl,fun h h2=>hz ⟨h,h2⟩,hm2⟩)
     have y7:¬(2000:Int)<(ms:Int):=qo;clear hnf hz
     rcases hcase with z1|⟨z1,z2⟩|⟨z1,z2,z3,z4⟩
     all_goals(go_wp2_with fail;go_meet;exact⟨by rw[HX.o];first|done|exact congrArg Value.bool (decide_eq_false qo),HB1⟩)
    ·have HX:=qh (jO.o fun h=>hm2 h.2.2.2)
     have y7:(2000:Int)<(ms:Int):=qo;clear hnf hz
     rcases hcase with z1|⟨z1,z2⟩|⟨z1,z2,z3,z4⟩
     all_goals(go_wp2_with fail;go_meet;exact⟨by rw[HX.o];first|done|exact congrArg Value.bool (decide_eq_true qo),HB1⟩)
   case rest=>
    obtain⟨rfl,HB1⟩:=hcut;have HB2:=qh (HB.o.trans (HB1.o.mono HB.o.size))
    by_cases hg:bF (fs,fp,fl)∧fs=m∧(0<k→¬(fp=0∧fl.length=0))∧ms≤2000
    case neg=>
     have hx:=jO.o hg;subst hx;have HD:=qh (bX.o fun h=>hg ⟨h.1,h.2.1,h.2.2.1,by have:=h.2.2.2.1;have:=eI.o;omega⟩);clear hg
     go_wp2_with fail
     go_ret
     exact⟨by rw[HD.o];rfl,HB2.o⟩
    have hx:=dN.o (fun h=>h hg);subst hx;have HG:=qh hg;have hm2:=hg.2.2.2;have e0:=a7 HB1.o hgw d0;have e1:=a7 HB1.o hgw d1;have es:=a7 HB1.o hgs hsc;have AC:=qh (vS.o.below HB1.o);have N6:=Nat.lt_of_lt_of_le hgw HB1.o.size;clear hg d0 d1 hsc c0 c1 c2;obtain⟨IR,nT⟩:∃b:Bool,b=decide (k+1<N∧ms=0):=⟨_,rfl⟩;have iB:=qh (fun h=>nT.trans (decide_eq_true h));have p3:=qh (fun h=>nT.trans (decide_eq_false h));clear nT
    go_upto_region 10 with fail
    go_cut [103]from 29 to 150 (fun s wx=>s=.bool IR∧wx=wc)
    case first=>
     by_cases hl1:k+1<N
     ·have hl2:(k:Int)+1<(N:Int):=qo
      by_cases hl3:ms=0
      ·have HX:=qh (iB.o ⟨hl1,hl3⟩)
       rw[hl3]at es
       go_wp2_with fail
       go_meet
       exact⟨by rw[HX.o],rfl⟩
      ·have HX:=qh (p3.o fun h=>hl3 h.2)
       have hl4:((ms:Int)==0)=false:=by rw[beq_eq_false_iff_ne];omega
       have hl5:¬(ms:Int)=0:=qo
       go_wp2_with fail
       go_meet
       exact⟨by rw[HX.o],rfl⟩
     ·have HX:=qh (p3.o fun h=>hl1 h.1)
      have hl2:¬(k:Int)+1<(N:Int):=qo
      go_wp2_with fail
      go_meet
      exact⟨by rw[HX.o],rfl⟩
    case rest=>
     obtain⟨rfl,rfl⟩:=hcut
     by_cases hl:k+1<N∧ms=0
     ·have hx:=iB.o hl
      subst hx;have HD:=qh (bX.o fun h=>h.2.2.2.2.1 (by rw[←cK.o];exact hl.1) (by have:=eI.o;omega));clear hl
      go_wp2_with fail
      go_ret
      exact⟨by rw[HD.o];rfl,HB2.o⟩
     have hx:=p3.o hl;subst hx;have kM:=qh hl;obtain⟨hg1,rfl,hg3,_⟩:=HG.o;clear hl hg1 hg3
     go_wp2_with fail
     have HZ0:=qh (show cnt (fun i=>L.getD i 0) fs 0=some fs from rfl)
     go_loopw [3,6,7,8] (fun nv x _ _ wx=>∃(j:Nat) (y:Int),j≤ms∧x=.int .i64 j∧nv=.int .i64 y∧Hq (cnt (fun i=>L.getD i 0) fs j=some y)∧Hq (i9 L j)∧Hq (∃Q,wx=wc.drewN Q)) (fun _ x _ _ _=>ms-(intOf x).toNat)
     case atStart=>exact⟨0,fs,Nat.zero_le _,rfl,rfl,HZ0,qh (fun j hj=>absurd hj (Nat.not_lt_zero j)),qh ⟨0,rfl⟩⟩
     case round=>
      obtain⟨j,y,hj,rfl,rfl,HC,aL,HQ⟩:=hrel;obtain⟨Q,hQ⟩:=HQ.o;subst hQ;have hyb:=jV hmb HC.o
      by_cases hjl:j<ms
      ·obtain⟨g9,o9,rfl,hg9,hev⟩:=vN AC.o hjl
       have p7:=qh (qQ HC.o);have lJ:=qh (qP HC.o);have hcall:∀wz,Hq (jX wz g9 (o9+j*6) (L.getD (j*6) 0) (L.getD (j*6+1) 0) (L.getD (j*6+2) 0) (L.getD (j*6+3) 0) (L.getD (j*6+4) 0) (L.getD (j*6+5) 0))→_:=fun wz h=>fR _ _ _ _ _ _ y g9 (o9+j*6) wz h ⟨by omega,by omega⟩;have dS:=qh hev;have JF:=qh (show i9 L (j+1)↔i9 L j∧L.getD (j*6) 0≠1 from⟨fun h=>⟨fun i hi=>h i qo,h j qo⟩,fun h i hi=>by
        rcases Nat.lt_or_ge i j with h'|h'
        ·exact h.1 i h'
        ·obtain rfl:i=j:=qo
         exact h.2⟩)
       obtain⟨k0,hk0⟩:=qx (L.getD (j*6) 0);obtain⟨p0,hp0⟩:=qx (L.getD (j*6+1) 0);obtain⟨c0,hc0⟩:=qx (L.getD (j*6+2) 0);obtain⟨b0,hb0⟩:=qx (L.getD (j*6+3) 0);obtain⟨y0,hy0⟩:=qx (L.getD (j*6+4) 0);obtain⟨d9,L6⟩:=qx (L.getD (j*6+5) 0)
       simp only[←hk0,←hp0,←hc0,←hb0,←hy0,←L6]at hev dS p7 lJ JF hcall
       have FJ:=qh (fun Q=>hcall (wc.drewN Q) (qh ⟨dS.o.c0,dS.o.c1,dS.o.c2,dS.o.c3,dS.o.c4,dS.o.c5⟩));have a0:=hev.c0;have b4:(0:Int)≤(j:Int):=qo;have b5:(j:Int)<(ms:Int):=qo;obtain⟨E,hE⟩:=qx (bE k0 p0 c0 b0 y0 d9 y);obtain⟨AF,LA⟩:=qx (aH k0 c0 y);rw[←hE,←LA]at p7 lJ FJ;clear hev hcall hk0 hp0 hc0 hb0 hy0 L6 hE LA
       go_wp2_with fail
       refine(FJ.o Q).mono ?_;rintro e w9 ⟨v9,q9,rfl,lB,rfl⟩;have HV:=qh lB;have fE:=qh (Below.drewN' HB2.o (Q+q9));clear lB;have hnone:∀h:cnt (fun i=>L.getD i 0) fs (j+1)=none,decide (cT F S)=false:=fun h=>bX.o fun hh=>hh.2.2.2.2.2.2 (cO _ _ (show j+1≤ms by omega) h);have M7:=qh hnone;clear hnone
       cases E
       ·have HD:=qh (M7.o (lJ.o fun h=>by cases h.1))
        go_wp2_with fail
        go_ret
        exact⟨by rw[HD.o];rfl,fE.o⟩
       obtain rfl:v9=AF:=HV.o rfl
       by_cases hk1:k0=1
       ·have hkb:(k0==1)=true:=by simp[hk1]
        have HD:=qh (bX.o fun hh=>(JF.o.1 (fun i hi=>hh.2.2.2.2.2.1 i qo)).2 hk1);clear hk1
        go_wp2_with fail
        go_ret
        exact⟨by rw[HD.o];rfl,fE.o⟩
       have hkb:(k0==1)=false:=by simp[hk1]
       by_cases h12:12<v9
       ·have HD:=qh (M7.o (lJ.o fun h=>by omega))
        go_wp2_with fail
        go_ret
        exact⟨by rw[HD.o];rfl,fE.o⟩
       ·have Q1:=qh (p7.o rfl qo)
        have dE:=qh (JF.o.2 ⟨aL.o,hk1⟩)
        go_wp2_with fail
        go_roundw
        case rel=>exact⟨j+1,v9,by omega,qg,rfl,Q1,dE,qh ⟨_,rfl⟩⟩
        case measure=>exact qs
      ·obtain rfl:j=ms:=qo
       have fB:=qh (show f9 F S (k+1)=some y from(nH.o HG.o.1 (by first|rfl|trivial) HG.o.2.2.1 (by have:=eI.o;have:=HG.o.2.2.2;omega) (fun h h2=>kM.o ⟨by rw[cK.o];exact h,by have:=eI.o;omega⟩) aL.o).trans HC.o);have fE:=qh (Below.drewN' HB2.o Q)
       go_wp2_with fail
       go_roundg (gk-1)
       case rel=>exact⟨k+1,y,by omega,by omega,qg,rfl,fB,fE⟩
       case measure=>omega
  ·obtain rfl:N=k:=qo
   have HD:=qh (show decide (cT F S)=true from decide_eq_true ⟨by rw[←cK.o];exact NB,by rw[←cK.o];exact CO.o,by rw[←cK.o,HT.o];rfl⟩)
   go_wp2_with fail
   go_ret
   exact⟨by rw[HD.o];rfl,HB.o⟩
end Go.Proofs.YtmnbgjnipbpiaaaGreat
