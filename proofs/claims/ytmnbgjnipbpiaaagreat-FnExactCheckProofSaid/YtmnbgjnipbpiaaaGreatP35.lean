/- Walks and plain lemmas. -/
import Derived.Test.YtmnbgjnipbpiaaaGreatP33
import Derived.Test.YtmnbgjnipbpiaaaGreatP32
set_option linter.unusedVariables false
set_option linter.unusedSimpArgs false
set_option maxHeartbeats 4000000
set_option maxRecDepth 20000
namespace Go.Proofs.YtmnbgjnipbpiaaaGreat
open Go.RowKit
theorem mU {q q':Bool}(F E:List aP)(S T:List (List Int))(A A' B B':OA)(c c' d d':Nat)(w:World)(ha:cE q w A B F S)(hb:cE q' w A' B' E T)(k1:lD F S)(k2:lD E T)(k3:∀x∈S,x.length≤1000000*6)(k4:∀x∈T,x.length≤1000000*6):
 Calls Tryz.prog 17 #[.agg #[.slice A F.length c,.slice B S.length d],.agg #[.slice A' E.length c',.slice B' T.length d']] w fun e w'=>e=.returned (.bool (decide (F=E)&&decide (S=T)))∧Below w.heap.size w w':=by
 have HW:=qh (((Below.refl w.heap.size w).alloc ql (.cells #[.slice A F.length c,.slice B S.length d] 36)).alloc qj (.cells #[.slice A' E.length c',.slice B' T.length d'] 36));have HA:=qh (ha.below HW.o);have HB:=qh (hb.below HW.o);have K1:=qh k1;have K2:=qh k2;have K3:=qh k3;have K4:=qh k4;have hk1:=k1.f.1;have hk2:=k2.f.1;have hk3:=k1.s.1;have hk4:=k2.s.1;obtain⟨V,hV⟩:∃V,V=(decide (F=E)&&decide (S=T)):=⟨_,rfl⟩;rw[←hV];have HV:=qh hV;clear ha hb k1 k2 k3 k4 hV
 by_cases hl:F.length=E.length
 case neg=>
  have HD:=qh (show(decide (F=E)&&decide (S=T))=false from by rw[decide_eq_false (fun h=>hl (by rw[h]))];rfl);have hlb:((F.length:Int)==(E.length:Int))=false:=by rw[beq_eq_false_iff_ne];omega
  have hlc:¬(F.length:Int)=(E.length:Int):=qo
  go_enter Tryz.func17,Tryz.ntmps17
  go_wp2_with fail
  go_ret
  exact⟨by rw[HV.o,HD.o];rfl,HW.o⟩
 by_cases hm:S.length=T.length
 case neg=>
  have HD:=qh (show(decide (F=E)&&decide (S=T))=false from by rw[decide_eq_false (p:=S=T) (fun h=>hm (by rw[h])),Bool.and_false]);have hlb:((S.length:Int)==(T.length:Int))=false:=by rw[beq_eq_false_iff_ne];omega
  have hlc:¬(S.length:Int)=(T.length:Int):=qo;rw[hl]at HW;rw[hl]
  go_enter Tryz.func17,Tryz.ntmps17
  go_wp2_with fail
  go_ret
  exact⟨by rw[HV.o,HD.o];rfl,HW.o⟩
 obtain⟨N,hN⟩:=qx (F.length);obtain⟨M,hM⟩:=qx (S.length);have cK:=qh hN;have MM:=qh (show E.length=N by omega);have LU:=qh hM;have gC:=qh (show T.length=M by omega);obtain⟨w0,hw0⟩:∃w0,w0=((w.alloc (.cells #[.slice A N c,.slice B M d] 36)).alloc (.cells #[.slice A' N c',.slice B' M d'] 36)):=⟨_,rfl⟩;rw[←hl,←hm,←hN,←hM,←hw0]at HA HB HW;rw[←hN]at hk1;rw[←hM]at hk3;rw[←hl,←hm,←hN,←hM];have b0:aA w0 w.heap.size 36 #[.slice A N c,.slice B M d]:=by rw[hw0];exact(aA.at_ w _ _ rfl).alloc _
 have b1:aA w0 (w.heap.size+1) 36 #[.slice A' N c',.slice B' M d']:=by rw[hw0];exact aA.at_ _ _ _ qj
 have t0:w0.cell? ⟨w.heap.size,0,none⟩=some (.slice A N c):=b0.cell 0;have t1:w0.cell? ⟨w.heap.size,1,none⟩=some (.slice B M d):=b0.cell 1;have s0:w0.cell? ⟨w.heap.size+1,0,none⟩=some (.slice A' N c'):=b1.cell 0;have s1:w0.cell? ⟨w.heap.size+1,1,none⟩=some (.slice B' M d'):=b1.cell 1;have hz0:=b1.lt;clear hN hM hl hm b0 b1 hk2 hk4
 go_enter Tryz.func17,Tryz.ntmps17
 go_wp2_with fail
 rw[←hw0];clear hw0
 go_loopw [5] (fun x wr=>∃k:Nat,k≤N∧x=.int .i64 k∧Hq (Below w0.heap.size w0 wr)∧Hq (F.take k=E.take k)) (fun x _=>N-(intOf x).toNat)
 case atStart=>exact⟨0,Nat.zero_le _,rfl,qh (Below.refl _ _),qh qj⟩
 case round=>
  obtain⟨k,hk,rfl,HB0,HX⟩:=hrel;have t0':=a7 HB0.o (show w.heap.size<w0.heap.size by omega) t0;have t1':=a7 HB0.o (show w.heap.size<w0.heap.size by omega) t1;have OC:=a7 HB0.o hz0 s0;have s1':=a7 HB0.o hz0 s1;have KU:=Nat.lt_of_lt_of_le hz0 HB0.o.size;have mJ:=qh (HW.o.trans (HB0.o.mono HW.o.size))
  by_cases hlt:k<N
  ·obtain⟨x,hx⟩:=dD (L:=F) (k:=k) (by have:=cK.o;omega)
   obtain⟨y,hy⟩:=dD (L:=E) (k:=k) (by have:=MM.o;omega);obtain⟨g,o,C,e,rfl,hg,hat⟩:=(HA.o.f.below HB0.o).at hx;obtain⟨g',o',C',e',rfl,hg',hat'⟩:=(HB.o.f.below HB0.o).at hy;have hxl:=K1.out.f.2 x (List.mem_of_getElem? hx);have hyl:=K2.out.f.2 y (List.mem_of_getElem? hy);have HT:=qh (show F.take (k+1)=F.take k++[x]from bG hx);have mB:=qh (show E.take (k+1)=E.take k++[y]from bG hy);have fC:=qh (nO x y C C' e e' (wr.drewN 1) (hat.rd.drewN 1) (hat'.rd.drewN 1) hxl hyl);have eD:=qh (fun h:x≠y=>iF hx hy h);have b1:(0:Int)≤(k:Int):=qo;have b2:(k:Int)<(N:Int):=qo;have c0:=hat.c0;have c1:=hat.c1;have c2:=hat.c2;have d0:=hat'.c0;have d1:=hat'.c1;have d2:=hat'.c2;clear hx hy hat hat' hxl hyl;obtain⟨U,hU⟩:=qx (decide (x=y));rw[←hU]at fC;have HU:=qh hU;clear hU
   go_wp2_with fail
   go_region_held3 (fun w'=>w'.cell? ⟨w.heap.size,0,none⟩=some (.slice (some ⟨g,o,none⟩) N c)∧w'.cell? ⟨w.heap.size+1,0,none⟩=some (.slice (some ⟨g',o',none⟩) N c')∧w'.cell? ⟨g,o+k*3,none⟩=some (.int .i64 x.1)∧w'.cell? ⟨g',o'+k*3,none⟩=some (.int .i64 y.1)∧w'.cell? ⟨g,o+k*3+1,none⟩=some (.int .i64 x.2.1)∧w'.cell? ⟨g',o'+k*3+1,none⟩=some (.int .i64 y.2.1)∧w'.cell? ⟨g,o+k*3+2,none⟩=some (.slice C x.2.2.length e)∧w'.cell? ⟨g',o'+k*3+2,none⟩=some (.slice C' y.2.2.length e')) (go_keep)
    (first|(go_at_call 35;refine fC.o.mono ?_;rintro e w1 ⟨rfl,hb1⟩;have kb:=aJ hb1;have m0:=(kb.1 w.heap.size 0 (Nat.lt_trans (Nat.lt_succ_self _) KU)).trans t0';have m1:=(kb.1 (w.heap.size+1) 0 KU).trans OC;have k0:=(kb.1 g (o+k*3) hg).trans c0;have OI:=(kb.1 g' (o'+k*3) hg').trans d0;have k1:=(kb.1 g (o+k*3+1) hg).trans c1;have k1':=(kb.1 g' (o'+k*3+1) hg').trans d1;have k2:=(kb.1 g (o+k*3+2) hg).trans c2;have k2':=(kb.1 g' (o'+k*3+2) hg').trans d2;clear kb))
   have HB1:=qh (Below.trans (Below.drewN' HB0.o 1) (hb1.mono HB0.o.size));have FK:=qh (HW.o.trans (HB1.o.mono HW.o.size))
   cases U
   ·have HD:=qh (show(decide (F=E)&&decide (S=T))=false from by rw[decide_eq_false (eD.o (of_decide_eq_false HU.o.symm))];rfl)
    go_wp2
    go_ret
    exact⟨by rw[HV.o,HD.o];rfl,FK.o⟩
   ·go_wp2
    go_roundw
    case rel=>exact⟨k+1,by omega,qg,HB1,qh (by rw[HT.o,mB.o,HX.o,of_decide_eq_true HU.o.symm])⟩
    case measure=>exact qs
  ·obtain rfl:N=k:=qo
   have PX:=qh (show F=E from gG HX.o cK.o.symm MM.o)
   go_wp2_with fail
   obtain⟨wo,hwo⟩:=qx (wr);subst hwo
   go_loopw [6] (fun x wr=>∃k:Nat,k≤M∧x=.int .i64 k∧Hq (∃Q,wr=wo.drewN Q)∧Hq (S.take k=T.take k)) (fun x _=>M-(intOf x).toNat)
   case atStart=>exact⟨0,Nat.zero_le _,rfl,qh ⟨0,rfl⟩,qh qj⟩
   case round=>
    obtain⟨k,hk2,rfl,HQ,HY⟩:=hrel;have eY:=qh (show Below w0.heap.size w0 wr from by obtain⟨Q,hQ⟩:=HQ.o;rw[hQ];exact Below.drewN' HB0.o Q);have CQ:=qh (show∀n,∃Q,wr.drewN n=wo.drewN Q from fun n=>by obtain⟨Q,hQ⟩:=HQ.o;exact⟨Q+n,by rw[hQ,World.drewN_drewN]⟩);have t1':=a7 eY.o (show w.heap.size<w0.heap.size by omega) t1;have s1':=a7 eY.o hz0 s1;have FK:=qh (HW.o.trans (eY.o.mono HW.o.size))
    by_cases hlt2:k<M
    ·obtain⟨x,hx⟩:=dD (L:=S) (k:=k) (by have:=LU.o;omega)
     obtain⟨y,hy⟩:=dD (L:=T) (k:=k) (by have:=gC.o;omega);obtain⟨g,o,C,m,e,rfl,hg,c0,hl,hr⟩:=(HA.o.s.below eY.o).at hx;obtain⟨g',o',C',m',e',rfl,hg',c0',hl',hr'⟩:=(HB.o.s.below eY.o).at hy;have hxl:=K3.out x (List.mem_of_getElem? hx);have hyl:=K4.out y (List.mem_of_getElem? hy);have HT:=qh (show S.take (k+1)=S.take k++[x]from bG hx);have mB:=qh (show T.take (k+1)=T.take k++[y]from bG hy);have fC:=qh (fun Q=>lQ C C' e e' m m' x y (wr.drewN Q) hl hl' (Rd.drewN hr Q) (Rd.drewN hr' Q) qo qo);have eD:=qh (fun h:x≠y=>iF hx hy h);have b1:(0:Int)≤(k:Int):=qo;have b2:(k:Int)<(M:Int):=qo;clear hx hy hr hr' hxl hyl hl hl';obtain⟨U,hU⟩:=qx (decide (x=y));rw[←hU]at fC;have HU:=qh hU;clear hU
     cases U
     ·have HD:=qh (show(decide (F=E)&&decide (S=T))=false from by rw[decide_eq_false (p:=S=T) (eD.o (of_decide_eq_false HU.o.symm)),Bool.and_false])
      go_wp2_with fail
      go_quiet ((go_at_call 36;exact Calls.quiet_of (fC.o _)))
      go_wp2_with fail
      go_ret
      exact⟨by rw[HV.o,HD.o];rfl,Below.drewN' FK.o nq⟩
     ·go_wp2_with fail
      go_quiet ((go_at_call 36;exact Calls.quiet_of (fC.o _)))
      go_wp2_with fail
      go_roundw
      case rel=>exact⟨k+1,by omega,qg,qh (CQ.o nq),qh (by rw[HT.o,mB.o,HY.o,of_decide_eq_true HU.o.symm])⟩
      case measure=>exact qs
    ·obtain rfl:M=k:=qo
     have HD:=qh (show(decide (F=E)&&decide (S=T))=true from by rw[decide_eq_true PX.o,decide_eq_true (gG HY.o LU.o.symm gC.o)];rfl)
     go_wp2_with fail
     go_ret
     exact⟨by rw[HV.o,HD.o];rfl,FK.o⟩
end Go.Proofs.YtmnbgjnipbpiaaaGreat
