/- For every proof: the program's ProofText returns what the reference's returns, and leaves its argument alone. No condition but what the card ties: strconv's, math/bits' and utf8's tables. -/
import Derived.Test.YtmnbgjnipbpiaaaGreatDoorP38
set_option linter.unusedVariables false
set_option linter.unusedSimpArgs false
namespace Go.Proofs.YtmnbgjnipbpiaaaGreatDoor
open Go.RowKit
set_option maxHeartbeats 4000000
set_option maxRecDepth 20000
theorem gB (A1 B1:OA)(c1 d1:Nat)(F:List aF)(S:List (List Int))(w:World)(hp:cN false w A1 B1 F S)(hf0:F.length≤maxLen)(hf1:∀f∈F,f.2.2.length≤maxLen∧∀M∈f.2.2,M.length≤maxLen)(hs0:S.length≤maxLen)(hs1:∀M∈S,M.length≤maxLen*6)(ht:Tab w)(hm:eO w):
 Calls Tryz.prog 3 #[.agg #[.slice A1 F.length c1,.slice B1 S.length d1]] w fun e w'=>e=.returned (.bool true)∧Below w.heap.size w w':=by
 have HW:=qh ((Below.refl w.heap.size w).alloc ql (.cells #[.slice A1 F.length c1,.slice B1 S.length d1] 25));obtain⟨w1,hw1⟩:=qx (w.alloc (.cells #[.slice A1 F.length c1,.slice B1 S.length d1] 25));have hblk:aJ w1 w.heap.size 25 #[.slice A1 F.length c1,.slice B1 S.length d1]:=by rw[hw1];exact aJ.at_ w _ _ rfl
 rw[←hw1]at HW;have HP:=qh (hp.below HW.o);have HT:=qh (ht.below HW.o);have HM:=qh (hm.below HW.o);have y7:=qh hf1;have sX:=qh hs1;have x0:w1.cell? ⟨w.heap.size,0,none⟩=some (.slice A1 F.length c1):=hblk.cell 0;have x1:w1.cell? ⟨w.heap.size,1,none⟩=some (.slice B1 S.length d1):=hblk.cell 1;have hz:=hblk.lt;clear hp hblk hf1 hs1 ht hm
 go_enter Tryz.func3,Tryz.ntmps3
 go_wp2_with fail
 rw[←hw1];clear hw1;refine(lE A1 B1 c1 d1 1048576 F S _ HP.o hf0 y7.o hs0 sX.o ql).mono ?_;rintro e w3 ⟨r2,hr2,rfl,hb3⟩;have HW3:=HW.st hb3;have tA:=qh (HP.o.below hb3);have HT3:=qh (HT.o.below hb3);have vU:=qh (HM.o.below hb3);have x0:=a6 hb3 hz x0;have x1:=a6 hb3 hz x1;have hz3:=Nat.lt_of_lt_of_le hz hb3.size;clear hb3
 by_cases hr0:r2<0
 ·clear hr2
  go_wp2_with fail
  go_ret
  exact⟨rfl,HW3.o⟩
 have bQ:=qh (hr2.resolve_left hr0);obtain⟨T,hT⟩:=qx (gJ F S);have vL:=qh (fun A2 B2 c2 d2 (w':World) (h2:cN true w' A2 B2 F S)=>g8 A2 B2 c2 d2 F S w' h2 bQ.o);have fI:=qh (fun A2 B2 c2 d2 (w':World) (h2:cN true w' A2 B2 F S) (h3:Tab w') (h4:eO w')=>gC A2 B2 c2 d2 F S w' h2 bQ.o h3 h4);rw[←hT]at vL fI;have sT:=qh (fun w' (h:cN false w' A1 B1 F S)=>lA A1 B1 c1 d1 F S w' h bQ.o);clear hr2 hT
 go_wp2_with fail
 refine(sT.o _ tA.o).mono ?_;rintro e w5 ⟨A5,c5,B5,d5,rfl,vB,hb5⟩;have qO:=qh vB;have vI:=HW3.st hb5;have vP:=qh (tA.o.below hb5);have vK:=qh (HT3.o.below hb5);have vT:=qh (vU.o.below hb5);have y0:=a6 hb5 hz3 x0;have y1:=a6 hb5 hz3 x1;have rW:=Nat.lt_of_lt_of_le hz3 hb5.size;clear vB hb5 HP tA HT HT3 HM vU x0 x1
 go_wp2_with fail
 refine(vL.o A5 B5 c5 d5 w5 qO.o).mono ?_;rintro e w6 ⟨rfl,hb6⟩;have qL:=vI.st hb6;have t8:=qh (vP.o.below hb6);have vJ:=qh (vK.o.below hb6);have vS:=qh (vT.o.below hb6);have y0:=a6 hb6 rW y0;have y1:=a6 hb6 rW y1;have oF:=Nat.lt_of_lt_of_le rW hb6.size;clear hb6 vP vK vT vI qO HW3
 go_wp2_with fail
 refine(sT.o _ t8.o).mono ?_;rintro e w8 ⟨A8,c8,B8,d8,rfl,vA,dM⟩;have cU:=qh (aJ.at_ w8 31 #[.slice A8 F.length c8,.slice B8 S.length d8] rfl);have eM:=qh ((Below.refl w8.heap.size w8).alloc ql (.cells #[.slice A8 F.length c8,.slice B8 S.length d8] 31));have qN:=qh (vA.below eM.o);have sP:=qh ((qL.o.trans (dM.mono qL.o.size)).trans (eM.o.mono (Nat.le_trans qL.o.size dM.size)));have t7:=qh ((t8.o.below dM).below eM.o);have sV:=qh ((vJ.o.below dM).below eM.o);have tD:=qh ((vS.o.below dM).below eM.o);have y0:=a6 eM.o (Nat.lt_of_lt_of_le oF dM.size) (a6 dM oF y0);have y1:=a6 eM.o (Nat.lt_of_lt_of_le oF dM.size) (a6 dM oF y1);have qG:w.heap.size<(w8.alloc (.cells #[.slice A8 F.length c8,.slice B8 S.length d8] 31)).heap.size:=Nat.lt_of_lt_of_le (Nat.lt_of_lt_of_le oF dM.size) eM.o.size;clear vA dM t8 qL vJ vS
 go_upto_region 7 with fail
 obtain⟨wa,v6⟩:=qx (w8.alloc (.cells #[.slice A8 F.length c8,.slice B8 S.length d8] 31));rw[←v6]at cU qN sP t7 sV tD y0 y1 qG ⊢;clear v6 eM;have v0:wa.cell? ⟨w8.heap.size,0,none⟩=some (.slice A8 F.length c8):=cU.o.cell 0;have v1:wa.cell? ⟨w8.heap.size,1,none⟩=some (.slice B8 S.length d8):=cU.o.cell 1;have hv:=cU.o.lt
 go_wp2_with fail
 refine(fI.o A8 B8 c8 d8 wa qN.o sV.o tD.o).mono ?_;rintro e w11 ⟨rfl,aP⟩;have wQ:=qh (qN.o.below aP);have sQ:=sP.st aP;have wR:=qh (t7.o.below aP);have y0:=a6 aP qG y0;have y1:=a6 aP qG y1;have v0:=a6 aP hv v0;have v1:=a6 aP hv v1;have pH:=Nat.lt_of_lt_of_le qG aP.size;have pJ:=Nat.lt_of_lt_of_le hv aP.size;clear aP qN sP t7 sV tD
 go_wp2_with fail
 go_region_held3 (fun w'=>w'.cell? ⟨w.heap.size,0,none⟩=some (.slice A1 F.length c1)∧w'.cell? ⟨w.heap.size,1,none⟩=some (.slice B1 S.length d1)∧w'.cell? ⟨w8.heap.size,0,none⟩=some (.slice A8 F.length c8)∧w'.cell? ⟨w8.heap.size,1,none⟩=some (.slice B8 S.length d8)) (go_keep) (first
  |(go_at_call 7;refine(sT.o _ (wR.o.below (Below.drewN' (Below.refl _ _) 1))).mono ?_;rintro e w12 ⟨A12,c12,B12,d12,rfl,s0,f9⟩;have wP:=qh (wQ.o.below ((Below.drewN' (Below.refl _ _) 1).trans f9));have wK:=qh s0;have wM:=qh ((Below.drewN' sQ.o 1).trans (f9.mono sQ.o.size));have y0:=a6 f9 pH y0;have y1:=a6 f9 pH y1;have v0:=a6 f9 pJ v0;have v1:=a6 f9 pJ v1;have rX:=Nat.lt_of_lt_of_le pH f9.size;have rY:=Nat.lt_of_lt_of_le pJ f9.size;clear s0 f9)
  |(go_at_call 9;refine(lT F S A8 A12 B8 B12 c8 c12 d8 d12 w12 wP.o wK.o bQ.o).mono ?_;rintro e w13 ⟨rfl,iK⟩;have wL:=wM.st iK;have y0:=a6 iK rX y0;have y1:=a6 iK rX y1;have v0:=a6 iK rY v0;have v1:=a6 iK rY v1;clear iK))
 rename_i hHeld
 clear hHeld
 go_wp2_with fail
 go_ret
 exact⟨rfl,wL.o⟩
end Go.Proofs.YtmnbgjnipbpiaaaGreatDoor
namespace Go.Proofs.YtmnbgjnipbpiaaaGreatDoor.FnExactProofText
open Go.ChangeMaps Go.ChangeShapes Go.WideShapes Go.ChangeAt Go.RowKit Go.Deep Go.Joins
set_option maxRecDepth 100000 in
theorem contract (H:Type)(enc:TypeId×Value→H)(W:World)(base:Nat)(args:Array Value)(ds gs:List (DataW H))(before:List MemPlace)
 (hval0:∀(j:Nat) t v,Tryz.f3.params[j]?=some t→args[j]?=some v→Value.okWide Tryz.prog W .any base t v)
 (hW:DataW.Whole enc Tryz.prog Tryz.f3.params.toList Rows.fnExactProofTextSpec.vars false W args.toList ds gs before) (hT:tN W):
 Calls Tryz.prog 3 args W fun e W'=>∃v,e=.returned v∧Rows.fnExactProofTextSpec.post enc Tryz.prog Tryz.f3 false true false false W args v W':=by
 have hval:∀(j:Nat) t v,Tryz.f3.params[j]?=some t→args[j]?=some v→Value.okWide Tryz.prog W .any base t v:=hval0;have hW':=hW;obtain⟨p,q,vF,hV,rfl,hfz,hnd⟩:=hW;have hA:DataW.TrodAll enc Tryz.prog W 0 (fun _=>true) true Tryz.f3.params.toList args.toList ds p:=vF;rw[Tryz.params3]at hA hval;obtain⟨v0,vs0,d0,ds0,p0,q0,hargs,rfl,rfl,h0,r0⟩:=trodAll_cons hA;obtain⟨rfl,rfl,rfl⟩:=trodAll_nil r0;obtain rfl:args=#[v0]:=by cases args;simp_all
 obtain⟨rfl,rfl⟩:=trodVars_none hV;obtain⟨c0p,c1p,y0p,y1p,kp,rfl,rfl,rfl,wB,wA⟩:=mZ Tryz.underlying25 (by kernel_rfl) (by kernel_rfl) (hval 0 25 v0 rfl rfl) h0;obtain⟨Ap,qp,Fp,xM,x6,xK,vG⟩:=mY Tryz.underlying22 Tryz.underlying99 (by kernel_rfl) (by kernel_rfl) Tryz.underlying2 Tryz.underlying2 rfl Tryz.underlying52 Tryz.underlying57 Tryz.underlying2 (by kernel_rfl) (by kernel_rfl) wB;obtain⟨Bp,tp,Sp,xL,rsp,wZ,wY⟩:=jK Tryz.underlying23 Tryz.underlying101 (by kernel_rfl) Tryz.underlying141 (by kernel_rfl) (by kernel_rfl) (by kernel_rfl) (by kernel_rfl) wA;subst xM xL;clear vF hval0;refine(gB Ap Bp qp tp Fp Sp W ⟨x6,rsp⟩ xK (fun f hf=>⟨(vG f hf).n,(vG f hf).l⟩) wZ wY hT.1 hT.2).mono fun e W' ⟨he,hb⟩=>?_;subst he;exact p9 laidOut rfl rfl rfl Tryz.underlying4 (by rw[Tryz.params3];simp only[List.mem_cons,List.not_mem_nil,or_false,forall_eq];exact⟨by kernel_rfl,of_decide_eq_true (by kernel_rfl)⟩) hW' hb
theorem reads (os:Os){H:Type}(enc:TypeId×Value→H):∃places,DataW.whole enc Tryz.prog ((fN os).forCall (fun _ _=>0) ⟨#[],#[.agg #[.slice none 0 0,.slice none 0 0]],[]⟩).memory Tryz.f3.params.toList Rows.fnExactProofTextSpec.vars false (#[.agg #[.slice none 0 0,.slice none 0 0]]:Array Value).toList 8=some ([.agg [.nil,.nil]],[],places):=
 ⟨[],by kernel_rfl⟩
set_option maxRecDepth 100000 in
theorem lifted (os:Os)(started:os.Started)(H:Type)(enc:TypeId×Value→H)(F:Stop.Interp):
 ReturnsInHanded {} Tryz.checked os 3 .any ((OpenSpec.ofChange Rows.fnExactProofTextSpec).preRow enc Tryz.prog Tryz.f3 Rows.fnExactProofTextRow.domain false Rows.fnExactProofTextRow.laid) (((OpenSpec.ofChange Rows.fnExactProofTextSpec).at F).post enc Tryz.prog Tryz.f3 false true false false):=by
 obtain⟨places,hx⟩:=reads os enc;refine returnsInHanded_of_row (C:=Tryz.checked) (s:=OpenSpec.ofChange Rows.fnExactProofTextSpec) own started (by kernel_rfl) Tryz.func3
  (witness_row_at (enc:=enc) (C:=Tryz.checked) false (fN os) #[.agg #[.slice none 0 0,.slice none 0 0]] rfl (by kernel_rfl) (by kernel_rfl) (by kernel_rfl)
   (OpenSpec.preRow_of_cond 8 hx (by kernel_rfl) (fun k hk=>by cases hk) (by kernel_rfl) (pE os _))) ?_
 intro W base args ds gs before hval hW _ _ _ hL hsh _;exact contract H enc W base args ds gs before hval hW (door hL hsh)
theorem said:Rows.FnExactProofTextSaid:=
 OpenClaim.holds_of_cond 3 Tryz.f3 rfl rfl rfl rfl rfl rfl rfl ⟨rfl,rfl,rfl,rfl,rfl⟩ rfl rfl rfl rfl rfl (by kernel_rfl) Tryz.func3 (by kernel_rfl)
  (of_decide_eq_true (by kernel_rfl)) (by unfold Func.isWrapper;first|(rw[if_pos (by decide+kernel)];kernel_rfl)|(rw[if_neg (by decide+kernel)];exact⟨rfl,rfl⟩))
  (fun os started H enc _ F=>by rw[OpenClaim.pre_eq_preRow];exact lifted os started H enc F)
theorem plain (f:FuncId)(fn:Func)(hf:Tryz.pinned.checked.prog.funcNamed "loop.example/g00856/laws.FnExactProofText" =some f)(hfn:Tryz.pinned.checked.prog.funcs[f]?=some fn):
 false=Tryz.pinned.checked.prog.looks []∧∀(j:Nat) t,fn.params[j]?=some t→Tryz.pinned.checked.prog.wantsStandIn t=false:=by
 obtain rfl:f=3:=Option.some.inj ((show Tryz.prog.funcNamed "loop.example/g00856/laws.FnExactProofText" =some 3 by kernel_rfl).symm.trans hf)|>.symm;obtain rfl:fn=Tryz.f3:=(Option.some.inj (Tryz.func3.symm.trans hfn)).symm;refine⟨by kernel_rfl,fun j t ht=>?_⟩;have hall:(Tryz.f3.params.toList.all fun u=>!Tryz.prog.wantsStandIn u)=true:=by kernel_rfl
 have hm:t∈Tryz.f3.params.toList:=by simpa using Array.mem_of_getElem? ht
 exact(show Tryz.prog.wantsStandIn t=false by simpa using List.all_eq_true.1 hall t hm)
theorem holds:Rows.FnExactProofTextCardSaid:=
 Claim7.holds_tied_plain_at .later [] _ _ _ _ said (fun _ h=>by cases h) (by kernel_rfl) (fun _ h=>by cases h) fnExactProofText_row_tie rfl ⟨rfl,rfl⟩ (by kernel_rfl) rfl plain (by kernel_rfl)
end Go.Proofs.YtmnbgjnipbpiaaaGreatDoor.FnExactProofText
