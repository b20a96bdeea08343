/- For all events and every proof: the program's CheckProof returns what the reference's returns, and leaves its arguments alone. No condition. -/
import Derived.Test.YtmnbgjnipbpiaaaGreatP38
set_option linter.unusedVariables false
set_option linter.unusedSimpArgs false
namespace Go.Proofs.YtmnbgjnipbpiaaaGreat
open Go.RowKit
set_option maxHeartbeats 4000000
set_option maxRecDepth 20000
theorem lT (A:OA)(n c:Nat)(z:Nat→Int)(A1 B1:OA)(c1 d1:Nat)(F:List aP)(S:List (List Int))(w:World)(ha:Rd w A (n*6) (fun j=>.int .i64 (z j)))(hn0:n≤maxLen)(hp:cE false w A1 B1 F S)(hf0:F.length≤maxLen)(hf1:∀f∈F,f.2.2.length≤maxLen∧∀M∈f.2.2,M.length≤maxLen)(hs0:S.length≤maxLen)(hs1:∀M∈S,M.length≤maxLen*6):
 Calls Tryz.prog 3 #[.slice A n c,.agg #[.slice A1 F.length c1,.slice B1 S.length d1]] w fun e w'=>e=.returned (.bool true)∧Below w.heap.size w w':=by
 have HW:=qh ((Below.refl w.heap.size w).alloc ql (.cells #[.slice A1 F.length c1,.slice B1 S.length d1] 26));obtain⟨w1,hw1⟩:=qx (w.alloc (.cells #[.slice A1 F.length c1,.slice B1 S.length d1] 26));have hblk:aA w1 w.heap.size 26 #[.slice A1 F.length c1,.slice B1 S.length d1]:=by rw[hw1];exact aA.at_ w _ _ rfl
 rw[←hw1]at HW;have HA:=qh (ha.below HW.o);have HP:=qh (hp.below HW.o);have dF:=qh hf1;have dQ:=qh hs1;have x0:w1.cell? ⟨w.heap.size,0,none⟩=some (.slice A1 F.length c1):=hblk.cell 0;have x1:w1.cell? ⟨w.heap.size,1,none⟩=some (.slice B1 S.length d1):=hblk.cell 1;have hz:=hblk.lt;obtain⟨VB,n8⟩:=qx (iX z n F S);obtain⟨VC,n7⟩:=qx (iW z n F S);have mA:=qh n8;have m9:=qh n7;clear ha hp hblk n8 n7 hf1 hs1
 go_enter Tryz.func3,Tryz.ntmps3
 go_wp2_with fail
 rw[←hw1];clear hw1;refine(lM A n c 1048576 _ hn0 qo).mono ?_;rintro e w2 ⟨r1,hr,rfl,rfl⟩
 by_cases hr0:r1<0
 ·clear hr
  go_wp2_with fail
  go_ret
  exact⟨rfl,HW.o⟩
 obtain⟨hn1,hr1⟩:=hr.resolve_left hr0;obtain⟨L1,rfl⟩:=Int.eq_ofNat_of_zero_le (show 0≤r1 by omega);have hL1:L1≤1048576:=qo;have hn:n≤1048576:=hn1;clear hr hr1 hn1
 go_wp2_with fail
 refine(wM A1 B1 c1 d1 L1 F S _ HP.o hf0 dF.o hs0 dQ.o hL1).mono ?_;rintro e w3 ⟨r2,hr2,rfl,hb3⟩;have HW3:=HW.st hb3;have wH:=qh (HA.o.below hb3);have lG:=qh (HP.o.below hb3);have x0:=a7 hb3 hz x0;have x1:=a7 hb3 hz x1;have hz3:=Nat.lt_of_lt_of_le hz hb3.size;clear hb3
 by_cases hr0:r2<0
 ·clear hr2
  go_wp2_with fail
  go_ret
  exact⟨rfl,HW3.o⟩
 have cV:=qh (hr2.resolve_left hr0);have eX:=qh (fun A' c' A2 B2 c2 d2 (w':World) (h1:Rd w' A' (n*6) (fun j=>.int .i64 (z j))) (h2:cE true w' A2 B2 F S)=>lR A' n c' z A2 B2 c2 d2 F S w' h1 hn h2 cV.o);have lI:=qh (fun A' c' A2 B2 c2 d2 (w':World) (h1:Rd w' A' (n*6) (fun j=>.int .i64 (z j))) (h2:cE true w' A2 B2 F S)=>lW A' n c' z A2 B2 c2 d2 F S w' h1 hn h2 cV.o);rw[←mA.o,←m9.o]at eX lI;have vR:=qh (fun w' (h:Rd w' A (n*6) (fun j=>.int .i64 (z j)))=>lL A n c z w' h hn);have J1:=qh (fun w' (h:cE false w' A1 B1 F S)=>wI A1 B1 c1 d1 F S w' h cV.o);clear hr2
 go_wp2_with fail
 go_region_held3 (fun w'=>w'.cell? ⟨w.heap.size,0,none⟩=some (.slice A1 F.length c1)∧w'.cell? ⟨w.heap.size,1,none⟩=some (.slice B1 S.length d1)) (go_keep) (first
  |(go_at_call 7;refine(vR.o _ (wH.o.drewN 1)).mono ?_;rintro e w4 ⟨A4,c4,rfl,I0⟩;have hb4:=I0.bl;have HR4:=qh I0.rd;have dU:=qh ((Below.drewN' HW3.o 1).trans (hb4.mono HW3.o.size));have MQ:=qh ((wH.o.drewN 1).below hb4);have mF:=qh (lG.o.below ((Below.drewN' (Below.refl _ _) 1).trans hb4));have y0:=a7 hb4 hz3 x0;have y1:=a7 hb4 hz3 x1;have eA:=Nat.lt_of_lt_of_le hz3 hb4.size;clear I0 hb4)
  |(go_at_call 8;refine(J1.o _ mF.o).mono ?_;rintro e w5 ⟨A5,c5,B5,d5,rfl,KZ,hb5⟩;have qX:=qh KZ;have jM:=qh (HR4.o.below hb5);have CL:=dU.st hb5;have FM:=qh (MQ.o.below hb5);have kK:=qh (mF.o.below hb5);have y0:=a7 hb5 eA y0;have y1:=a7 hb5 eA y1;have gV:=Nat.lt_of_lt_of_le eA hb5.size;clear KZ hb5)
  |(go_at_call 6;refine(eX.o A4 c4 A5 B5 c5 d5 w5 jM.o qX.o).mono ?_;rintro e w6 ⟨rfl,hb6⟩;have LN:=CL.st hb6;have K5:=qh (FM.o.below hb6);have iA:=qh (kK.o.below hb6);have y0:=a7 hb6 gV y0;have y1:=a7 hb6 gV y1;have tE:=Nat.lt_of_lt_of_le gV hb6.size;clear hb6))
 rename_i hHeld
 clear hHeld HA HP wH lG MQ mF HR4 jM qX FM kK HW3 dU CL x0 x1
 go_wp2_with fail
 refine(vR.o _ K5.o).mono ?_;rintro e w7 ⟨A7,c7,rfl,HJ⟩;have aY:=HJ.bl;have gD:=qh HJ.rd;have yL:=LN.st aY;have FL:=qh (K5.o.below aY);have hJ:=qh (iA.o.below aY);have y0:=a7 aY tE y0;have y1:=a7 aY tE y1;have oG:=Nat.lt_of_lt_of_le tE aY.size;clear HJ aY
 go_wp2_with fail
 refine(J1.o _ hJ.o).mono ?_;rintro e w8 ⟨A8,c8,B8,d8,rfl,KY,cH⟩;have eS:=qh (aA.at_ w8 36 #[.slice A8 F.length c8,.slice B8 S.length d8] rfl);have i4:=qh ((Below.refl w8.heap.size w8).alloc ql (.cells #[.slice A8 F.length c8,.slice B8 S.length d8] 36));have vT:=qh ((gD.o.below cH).below i4.o);have FD:=qh (KY.below i4.o);have vQ:=qh ((yL.o.trans (cH.mono yL.o.size)).trans (i4.o.mono (Nat.le_trans yL.o.size cH.size)));have K0:=qh ((FL.o.below cH).below i4.o);have nE:=qh ((hJ.o.below cH).below i4.o);have y0:=a7 i4.o (Nat.lt_of_lt_of_le oG cH.size) (a7 cH oG y0);have y1:=a7 i4.o (Nat.lt_of_lt_of_le oG cH.size) (a7 cH oG y1);have BW:w.heap.size<(w8.alloc (.cells #[.slice A8 F.length c8,.slice B8 S.length d8] 36)).heap.size:=Nat.lt_of_lt_of_le (Nat.lt_of_lt_of_le oG cH.size) i4.o.size;clear KY cH gD FL hJ yL K5 iA LN
 go_upto_region 11 with fail
 obtain⟨wa,xZ⟩:=qx (w8.alloc (.cells #[.slice A8 F.length c8,.slice B8 S.length d8] 36));rw[←xZ]at eS vT FD vQ K0 nE y0 y1 BW ⊢;clear xZ i4;have v0:wa.cell? ⟨w8.heap.size,0,none⟩=some (.slice A8 F.length c8):=eS.o.cell 0;have v1:wa.cell? ⟨w8.heap.size,1,none⟩=some (.slice B8 S.length d8):=eS.o.cell 1;have hv:=eS.o.lt
 go_wp2_with fail
 refine(lI.o A7 c7 A8 B8 c8 d8 wa vT.o FD.o).mono ?_;rintro e w9 ⟨rfl,gB⟩;have LY:=qh (vT.o.below gB);have M4:=qh (FD.o.below gB);have LM:=vQ.st gB;have MP:=qh (K0.o.below gB);have yR:=qh (nE.o.below gB);have y0:=a7 gB BW y0;have y1:=a7 gB BW y1;have v0:=a7 gB hv v0;have v1:=a7 gB hv v1;have GY:=Nat.lt_of_lt_of_le BW gB.size;have lB:=Nat.lt_of_lt_of_le hv gB.size;clear gB vT FD vQ K0 nE
 go_wp2_with fail
 refine(vR.o _ MP.o).mono ?_;rintro e w10 ⟨A10,c10,rfl,E1⟩;have cY:=E1.bl;have JR:=qh (m6 A7 A10 n c7 c10 z w10 (LY.o.below cY) E1.rd qo);have J9:=qh (M4.o.below cY);have J0:=LM.st cY;have JB:=qh (yR.o.below cY);have y0:=a7 cY GY y0;have y1:=a7 cY GY y1;have v0:=a7 cY lB v0;have v1:=a7 cY lB v1;have DY:=Nat.lt_of_lt_of_le GY cY.size;have E0:=Nat.lt_of_lt_of_le lB cY.size;clear E1 cY LY M4 LM MP yR
 go_wp2_with fail
 refine JR.o.mono ?_;rintro e w11 ⟨rfl,jU⟩;have NP:=qh (J9.o.below jU);have IZ:=J0.st jU;have NQ:=qh (JB.o.below jU);have y0:=a7 jU DY y0;have y1:=a7 jU DY y1;have v0:=a7 jU E0 v0;have v1:=a7 jU E0 v1;have DX:=Nat.lt_of_lt_of_le DY jU.size;have DZ:=Nat.lt_of_lt_of_le E0 jU.size;clear jU J9 J0 JB JR
 go_wp2_with fail
 go_region_held3 (fun w'=>w'.cell? ⟨w.heap.size,0,none⟩=some (.slice A1 F.length c1)∧w'.cell? ⟨w.heap.size,1,none⟩=some (.slice B1 S.length d1)∧w'.cell? ⟨w8.heap.size,0,none⟩=some (.slice A8 F.length c8)∧w'.cell? ⟨w8.heap.size,1,none⟩=some (.slice B8 S.length d8)) (go_keep) (first
  |(go_at_call 8;refine(J1.o _ (NQ.o.below (Below.drewN' (Below.refl _ _) 1))).mono ?_;rintro e w12 ⟨A12,c12,B12,d12,rfl,HH,l0⟩;have NO:=qh (NP.o.below ((Below.drewN' (Below.refl _ _) 1).trans l0));have NI:=qh HH;have NK:=qh ((Below.drewN' IZ.o 1).trans (l0.mono IZ.o.size));have y0:=a7 l0 DX y0;have y1:=a7 l0 DX y1;have v0:=a7 l0 DZ v0;have v1:=a7 l0 DZ v1;have GZ:=Nat.lt_of_lt_of_le DX l0.size;have H6:=Nat.lt_of_lt_of_le DZ l0.size;clear HH l0)
  |(go_at_call 11;refine(xD F S A8 A12 B8 B12 c8 c12 d8 d12 w12 NO.o NI.o cV.o).mono ?_;rintro e w13 ⟨rfl,pR⟩;have NJ:=NK.st pR;have y0:=a7 pR GZ y0;have y1:=a7 pR GZ y1;have v0:=a7 pR H6 v0;have v1:=a7 pR H6 v1;clear pR))
 rename_i hHeld
 clear hHeld
 go_wp2_with fail
 go_ret
 exact⟨rfl,NJ.o⟩
end Go.Proofs.YtmnbgjnipbpiaaaGreat
namespace Go.Proofs.YtmnbgjnipbpiaaaGreat.FnExactCheckProof
open Go.ChangeShapes Go.WideShapes Go.ChangeAt Go.RowKit Go.Deep Go.Joins
set_option maxRecDepth 100000 in
theorem lifted (os:Os)(started:os.Started)(H:Type)(enc:TypeId×Value→H):
 ReturnsInHanded {} Tryz.checked os 3 .any (Rows.fnExactCheckProofSpec.pre6 enc Tryz.prog Tryz.f3 Rows.fnExactCheckProofRow.domain false) (Rows.fnExactCheckProofSpec.post enc Tryz.prog Tryz.f3 false true false false):=by
 refine returnsInHanded_of_change (C:=Tryz.checked) own started (by kernel_rfl) Tryz.func3
  (ChangeSpec.witness6 (enc:=enc) (C:=Tryz.checked) false ⟨#[],#[.slice none 0 0,.agg #[.slice none 0 0,.slice none 0 0]],[]⟩ 8 (by kernel_rfl) (by kernel_rfl) (by kernel_rfl) (by kernel_rfl)) ?_
 intro W base args ds gs before hval0 hW hcnd _;have hval:∀(j:Nat) t v,Tryz.f3.params[j]?=some t→args[j]?=some v→Value.okWide Tryz.prog W .any base t v:=hval0;have hW':=hW;obtain⟨p,q,LB,hV,rfl,hfz,hnd⟩:=hW;have hA:DataW.TrodAll enc Tryz.prog W 0 (fun _=>true) true Tryz.f3.params.toList args.toList ds p:=LB;rw[Tryz.params3]at hA hval;obtain⟨v0,vs0,d0,ds0,p0,q0,hargs,rfl,rfl,h0,r0⟩:=trodAll_cons hA;obtain⟨v1,vs1,d1,ds1,p1,q1,rfl,rfl,rfl,h1,r1⟩:=trodAll_cons r0;obtain⟨rfl,rfl,rfl⟩:=trodAll_nil r1;obtain rfl:args=#[v0,v1]:=by cases args;simp_all
 obtain⟨rfl,rfl⟩:=trodVars_none hV;obtain⟨Ax,nx,cx,zx,rfl,OE,OH⟩:=BD (S:=6) Tryz.underlying22 Tryz.underlying54 (by kernel_rfl) (by kernel_rfl) (by kernel_rfl) (by kernel_rfl) (by omega) (hval 0 22 v0 rfl rfl) h0;obtain⟨c0p,c1p,y0p,y1p,kp,rfl,rfl,rfl,N1,N0⟩:=zN Tryz.underlying26 (by kernel_rfl) (by kernel_rfl) (hval 1 26 v1 rfl rfl) h1;obtain⟨Ap,qp,Fp,OX,OD,OV,LC⟩:=zM Tryz.underlying23 Tryz.underlying67 (by kernel_rfl) (by kernel_rfl) Tryz.underlying2 Tryz.underlying2 rfl Tryz.underlying65 Tryz.underlying74 Tryz.underlying2 (by kernel_rfl) (by kernel_rfl) N1;obtain⟨Bp,tp,Sp,OW,rsp,OB,O9⟩:=rI Tryz.underlying24 Tryz.underlying22 (by kernel_rfl) Tryz.underlying54 (by kernel_rfl) (by kernel_rfl) (by kernel_rfl) (by kernel_rfl) N0;subst OX OW;clear LB hval0;refine(lT Ax nx cx zx Ap Bp qp tp Fp Sp W OE OH ⟨OD,rsp⟩ OV (fun f hf=>⟨(LC f hf).n,(LC f hf).l⟩) OB O9).mono fun e W' ⟨he,hb⟩=>?_;subst he;exact DM laidOut rfl rfl rfl Tryz.underlying4 (by rw[Tryz.params3];simp only[List.mem_cons,List.not_mem_nil,or_false,forall_eq_or_imp,forall_eq];exact⟨⟨by kernel_rfl,of_decide_eq_true (by kernel_rfl)⟩,⟨by kernel_rfl,of_decide_eq_true (by kernel_rfl)⟩⟩) hW' hb
theorem holds:Rows.FnExactCheckProofSaid:=
 OpenClaim.holds_of_wide 3 Tryz.f3 rfl rfl rfl rfl rfl rfl rfl ⟨rfl,rfl,rfl,rfl,rfl⟩ rfl rfl rfl rfl rfl (by kernel_rfl) Tryz.func3 (by kernel_rfl)
  (of_decide_eq_true (by kernel_rfl)) (by unfold Func.isWrapper;first|(rw[if_pos (by decide+kernel)];kernel_rfl)|(rw[if_neg (by decide+kernel)];exact⟨rfl,rfl⟩))
  (fun os started H enc _=>lifted os started H enc)
end Go.Proofs.YtmnbgjnipbpiaaaGreat.FnExactCheckProof
