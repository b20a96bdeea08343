/- For every width, all operations and every fault: the program's EffectOf returns what the reference's returns, and leaves its arguments alone. No condition. -/
import Derived.Test.YtdnmhhohcedjbaaGreatP42
set_option linter.unusedVariables false
set_option linter.unusedSimpArgs false
namespace Go.Proofs.YtdnmhhohcedjbaaGreat
open Go.RowKit
set_option maxHeartbeats 2000000
set_option maxRecDepth 20000
theorem wC (A:OA)(n c:Nat)(w:World)(hn:n≤maxLen):
 Calls Tryz.prog 7 #[.slice A n c,.int .i64 1048576] w fun e w'=>∃r:Int,(r<0∨n≤1048576)∧e=.returned (.int .i64 r)∧Below w.heap.size w w':=
 (GV A n c 1048576 w hn qo).mono fun _ _ ⟨r,h,he,hw⟩=>⟨r,h.imp_right (·.1),he,hw▸Below.refl _ _⟩
theorem GS (k a:Int)(w:World):Calls Tryz.prog 10 #[.agg #[.int .i64 k,.int .i64 a]] w fun e w'=>e=.returned (.agg #[.int .i64 k,.int .i64 a])∧Below w.heap.size w w':=by
 go_enter Tryz.func10,Tryz.ntmps10
 go_wp2
 refine bodyPost_ret (v:=.agg #[.int .i64 k,.int .i64 a]) (by simp[results,Tryz.results10,go_sem]) rfl ⟨rfl,?_⟩;exact qz
theorem Za {W:World}{f:FuncId}{args:Array Value}{R0 R1 R2:Int}{R:Int×Int×Int}(h0:R0=R.1)(h1:R1=R.2.1)(h2:R2=R.2.2)(h:Calls Tryz.prog f args W (qO W R)):Calls Tryz.prog f args W fun e w'=>e=.returned (.tuple #[.int .i64 R0,.int .i64 R1,.int .i64 R2])∧Below W.heap.size W w':=by
 subst h0 h1 h2;exact h
theorem M8 (W:Int)(A:OA)(n c:Nat)(z:Nat→Int)(ff fx:Int)(w:World)(ha:Rd w A (n*8) (fun j=>.int .i64 (z j)))(hn0:n≤maxLen):
 Calls Tryz.prog 3 #[.int .i64 W,.slice A n c,.agg #[.int .i64 ff,.int .i64 fx]] w fun e w'=>e=.returned (.bool true)∧Below w.heap.size w w':=by
 obtain⟨R0,h0⟩:∃x,x=(AM W z n ff fx).1:=⟨_,rfl⟩;obtain⟨R1,h1⟩:∃x,x=(AM W z n ff fx).2.1:=⟨_,rfl⟩;obtain⟨R2,h2⟩:∃x,x=(AM W z n ff fx).2.2:=⟨_,rfl⟩;have H0:=qh h0;have H1:=qh h1;have H2:=qh h2;clear h0 h1 h2;have HB:=qh (Below.refl w.heap.size w);have bH:=qh ha;have dI:=qh (aQ A (n*8) (fun j=>.int .i64 (z j)));have RD:=qh (dI.o.2 w · bH.o);clear ha
 go_enter Tryz.func3,Tryz.ntmps3
 have hba:Below w.heap.size w (w.alloc (.cells #[.int .i64 ff,.int .i64 fx] 24)):=qb;replace bH:=qh (dI.o.below bH.o hba);replace HB:=HB.st hba;have kB:=qh (R7 (w.heap.size) #[.int .i64 ff,.int .i64 fx] qj);have fA:=qh (show Gs (w.heap.size) #[.int .i64 ff,.int .i64 fx] (w.alloc (.cells #[.int .i64 ff,.int .i64 fx] 24))from fun oo=>rH qj oo);clear hba;have oJ:∀oo,(w.alloc (.cells #[.int .i64 ff,.int .i64 fx] 24)).cell? ⟨w.heap.size,oo,none⟩=(#[.int .i64 ff,.int .i64 fx]:Array Value)[oo]?:=fA.o
 go_wp2_with fail
 refine(wC A n c _ hn0).mono ?_;rintro e w1 ⟨r1,hr,rfl,hb⟩;clear oJ;have lN:=qh (show w.heap.size+1≤w1.heap.size from(by have:=hb.size;first|omega|(simp at this;omega)));replace fA:=qh (kB.o.below fA.o hb);replace bH:=qh (dI.o.below bH.o hb);replace HB:=HB.st hb;clear hb
 by_cases hr0:r1<0
 ·go_wp2_with fail
  go_ret
  exact⟨rfl,HB.o⟩
 have hsm:=hr.resolve_left hr0;clear hr;have hn:n≤1048576:=qo;have oJ:∀oo,w1.cell? ⟨w.heap.size,oo,none⟩=(#[.int .i64 ff,.int .i64 fx]:Array Value)[oo]?:=fA.o
 go_wp2_with fail
 go_region_held3 (fun w'=>(∀oo,w'.cell? ⟨w.heap.size,oo,none⟩=(#[.int .i64 ff,.int .i64 fx]:Array Value)[oo]?)) (go_keep)
  (first
   |(go_at_call 9;refine(jY A n c z _ (dI.o.drewN bH.o 1) hn).mono ?_;rintro e w2 ⟨eu,Y6,rfl,wo,J2⟩;have yE:=J2.obj;have acp:∀oo,w2.cell? ⟨w.heap.size,oo,none⟩=(#[.int .i64 ff,.int .i64 fx]:Array Value)[oo]?:=kB.o.below (kB.o.drewN fA.o 1) yE.bl)
   |(go_at_call 10;refine(GS ff fx _).mono ?_;rintro e w3 ⟨rfl,yD⟩;have aco:∀oo,w3.cell? ⟨w.heap.size,oo,none⟩=(#[.int .i64 ff,.int .i64 fx]:Array Value)[oo]?:=kB.o.below (kB.o.below (kB.o.drewN fA.o 1) yE.bl) yD)
   |(go_at_call 8;refine(Za H0.o H1.o H2.o (LK W eu n Y6 z ff fx _ (yE.or.below yE.r yD) hn)).mono ?_;rintro e w4 ⟨rfl,GD⟩;have acn:∀oo,w4.cell? ⟨w.heap.size,oo,none⟩=(#[.int .i64 ff,.int .i64 fx]:Array Value)[oo]?:=kB.o.below (kB.o.below (kB.o.below (kB.o.drewN fA.o 1) yE.bl) yD) GD))
 rename_i hHeld
 clear hHeld;clear oJ;replace fA:=qh (kB.o.drewN fA.o 1);replace bH:=qh (dI.o.drewN bH.o 1);replace HB:=qh (Below.drewN' HB.o 1);have lM:=qh (show w1.heap.size≤w2.heap.size from(by have:=yE.bl.size;first|omega|(simp at this;omega)));replace fA:=qh (kB.o.below fA.o yE.bl);replace bH:=qh (dI.o.below bH.o yE.bl);replace HB:=qh (HB.o.trans (yE.bl.mono HB.o.size));have xQ:=qh yE.r;have D5:=qh yE.w;have K7:=qh yE.or;have K6:=qh yE.ow;have Zi:=qh (yE.lo (k:=w1.heap.size) (by first|exact Nat.le_refl _|simp));have Zx:=qh yE.hi;clear yE J2;clear acp;have lL:=qh (show w2.heap.size≤w3.heap.size from(by have:=yD.size;first|omega|(simp at this;omega)));replace fA:=qh (kB.o.below fA.o yD);replace bH:=qh (dI.o.below bH.o yD);replace xQ:=qh (K7.o.below xQ.o yD);replace D5:=qh (K6.o.below D5.o yD);replace HB:=HB.st yD;clear yD;clear aco;have lK:=qh (show w3.heap.size≤w4.heap.size from(by have:=GD.size;first|omega|(simp at this;omega)));replace fA:=qh (kB.o.below fA.o GD);replace bH:=qh (dI.o.below bH.o GD);replace xQ:=qh (K7.o.below xQ.o GD);replace D5:=qh (K6.o.below D5.o GD);replace HB:=HB.st GD;clear GD;clear acn;have oJ:∀oo,w4.cell? ⟨w.heap.size,oo,none⟩=(#[.int .i64 ff,.int .i64 fx]:Array Value)[oo]?:=fA.o
 go_wp2_with fail
 refine(jY A n c z _ (bH.o) hn).mono ?_;rintro e w5 ⟨LD,KX,rfl,IG,hp0⟩;clear oJ;have hp:=hp0.obj;clear hp0;have lJ:=qh (show w4.heap.size≤w5.heap.size from(by have:=hp.bl.size;first|omega|(simp at this;omega)));replace fA:=qh (kB.o.below fA.o hp.bl);replace bH:=qh (dI.o.below bH.o hp.bl);replace HB:=qh (HB.o.trans (hp.bl.mono HB.o.size));have jR:=qh hp.r;have kJ:=qh hp.w;have qQ:=qh hp.or;have qP:=qh hp.ow;have sW:=qh (hp.lo (k:=w4.heap.size) (by first|exact Nat.le_refl _|simp));have xV:=qh hp.hi;clear hp;have oJ:∀oo,w5.cell? ⟨w.heap.size,oo,none⟩=(#[.int .i64 ff,.int .i64 fx]:Array Value)[oo]?:=fA.o
 go_wp2_with fail
 refine(GS ff fx _).mono ?_;rintro e w6 ⟨he,hb⟩;clear oJ;obtain rfl:e=.returned (.agg #[.int .i64 ff,.int .i64 fx]):=he;have lI:=qh (show w5.heap.size≤w6.heap.size from(by have:=hb.size;first|omega|(simp at this;omega)));replace fA:=qh (kB.o.below fA.o hb);replace bH:=qh (dI.o.below bH.o hb);replace jR:=qh (qQ.o.below jR.o hb);replace kJ:=qh (qP.o.below kJ.o hb);replace HB:=HB.st hb;clear hb;have oJ:∀oo,w6.cell? ⟨w.heap.size,oo,none⟩=(#[.int .i64 ff,.int .i64 fx]:Array Value)[oo]?:=fA.o
 go_wp2_with fail
 refine(Za H0.o H1.o H2.o (MG W LD n KX z ff fx _ (jR.o) hn IG)).mono ?_;rintro e w7 ⟨he,hb⟩;clear oJ;obtain rfl:e=.returned (.tuple #[.int .i64 R0,.int .i64 R1,.int .i64 R2]):=he;have lH:=qh (show w6.heap.size≤w7.heap.size from(by have:=hb.size;first|omega|(simp at this;omega)));replace fA:=qh (kB.o.below fA.o hb);replace bH:=qh (dI.o.below bH.o hb);replace jR:=qh (qQ.o.below jR.o hb);replace kJ:=qh (qP.o.below kJ.o hb);replace HB:=HB.st hb;clear hb;have oJ:∀oo,w7.cell? ⟨w.heap.size,oo,none⟩=(#[.int .i64 ff,.int .i64 fx]:Array Value)[oo]?:=fA.o
 go_wp2_with fail
 refine(GQ A n c z _ (bH.o) hn).mono ?_;rintro e w8 ⟨dz,Y5,rfl,hp0⟩;clear oJ;have hp:=hp0.obj;clear hp0;have lG:=qh (show w7.heap.size≤w8.heap.size from(by have:=hp.bl.size;first|omega|(simp at this;omega)));replace fA:=qh (kB.o.below fA.o hp.bl);replace bH:=qh (dI.o.below bH.o hp.bl);replace jR:=qh (qQ.o.below jR.o hp.bl);replace kJ:=qh (qP.o.below kJ.o hp.bl);replace HB:=qh (HB.o.trans (hp.bl.mono HB.o.size));have AU:=qh hp.r;have IU:=qh hp.w;have PF:=qh hp.or;have PE:=qh hp.ow;have Zh:=qh (hp.lo (k:=w7.heap.size) (by first|exact Nat.le_refl _|simp));have Zw:=qh hp.hi;clear hp;have oJ:∀oo,w8.cell? ⟨w.heap.size,oo,none⟩=(#[.int .i64 ff,.int .i64 fx]:Array Value)[oo]?:=fA.o
 go_wp2_with fail
 refine(IN LD dz n KX Y5 z _ (jR.o) (AU.o) qo).mono ?_;rintro e w9 ⟨he,hb⟩;clear oJ;obtain rfl:e=.returned (.bool true):=he;have lF:=qh (show w8.heap.size≤w9.heap.size from(by have:=hb.size;first|omega|(simp at this;omega)));replace fA:=qh (kB.o.below fA.o hb);replace bH:=qh (dI.o.below bH.o hb);replace jR:=qh (qQ.o.below jR.o hb);replace kJ:=qh (qP.o.below kJ.o hb);replace AU:=qh (PF.o.below AU.o hb);replace IU:=qh (PE.o.below IU.o hb);replace HB:=HB.st hb;clear hb;have oJ:∀oo,w9.cell? ⟨w.heap.size,oo,none⟩=(#[.int .i64 ff,.int .i64 fx]:Array Value)[oo]?:=fA.o
 go_wp2_with fail
 go_ret
 exact⟨rfl,HB.o⟩
end Go.Proofs.YtdnmhhohcedjbaaGreat
namespace Go.Proofs.YtdnmhhohcedjbaaGreat.FnExactEffectOf
open Go.ChangeShapes Go.WideShapes Go.ChangeAt Go.RowKit Go.Deep Go.Joins
set_option maxRecDepth 100000 in
theorem lifted (os:Os)(started:os.Started)(H:Type)(enc:TypeId×Value→H):
 ReturnsInHanded {} Tryz.checked os 3 .any (Rows.fnExactEffectOfSpec.pre6 enc Tryz.prog Tryz.f3 Rows.fnExactEffectOfRow.domain false) (Rows.fnExactEffectOfSpec.post enc Tryz.prog Tryz.f3 false true false false):=by
 refine returnsInHanded_of_change (C:=Tryz.checked) own started (by kernel_rfl) Tryz.func3
  (ChangeSpec.witness6 (enc:=enc) (C:=Tryz.checked) false ⟨#[],#[.int .i64 0,.slice none 0 0,.agg #[.int .i64 0,.int .i64 0]],[]⟩ 8 (by kernel_rfl) (by kernel_rfl) (by kernel_rfl) (by kernel_rfl)) ?_
 intro W base args ds gs before hval0 hW hcnd _;have hval:∀(j:Nat) t v,Tryz.f3.params[j]?=some t→args[j]?=some v→Value.okWide Tryz.prog W .any base t v:=hval0;have hW':=hW;obtain⟨p,q,KP,hV,rfl,hfz,hnd⟩:=hW;have hA:DataW.TrodAll enc Tryz.prog W 0 (fun _=>true) true Tryz.f3.params.toList args.toList ds p:=KP;rw[Tryz.params3]at hA hval;obtain⟨v0,vs0,d0,ds0,p0,q0,hargs,rfl,rfl,h0,r0⟩:=trodAll_cons hA;obtain⟨v1,vs1,d1,ds1,p1,q1,rfl,rfl,rfl,h1,r1⟩:=trodAll_cons r0;obtain⟨v2,vs2,d2,ds2,p2,q2,rfl,rfl,rfl,h2,r2⟩:=trodAll_cons r1;obtain⟨rfl,rfl,rfl⟩:=trodAll_nil r2;obtain rfl:args=#[v0,v1,v2]:=by cases args;simp_all
 obtain⟨rfl,rfl⟩:=trodVars_none hV;obtain⟨W0,rfl,rfl,rfl,abo⟩:=open_int Tryz.underlying2 (hval 0 2 v0 rfl rfl) h0;obtain⟨Ax,nx,cx,zx,ex,Il,Ji⟩:=LV Tryz.underlying22 Tryz.underlying75 (by kernel_rfl) (by kernel_rfl) (by kernel_rfl) Tryz.underlying2 Tryz.underlying2 rfl rfl Tryz.underlying2 Tryz.underlying2 Tryz.underlying73 (by kernel_rfl) Tryz.underlying2 Tryz.underlying2 (hval 1 22 v1 rfl rfl) h1;subst ex;obtain⟨c0f,c1f,y0f,y1f,mf,rfl,rfl,rfl,ahE,ahD⟩:=Ci Tryz.underlying24 (by kernel_rfl) (by kernel_rfl) (hval 2 24 v2 rfl rfl) h2;obtain⟨kf,e0f,_,w0f⟩:=DataW.trod_int Tryz.underlying2 ahE;obtain⟨af,e1f,_,w1f⟩:=DataW.trod_int Tryz.underlying2 ahD
 simp at e0f e1f
 subst e0f e1f;clear KP hval0;refine(M8 W0 Ax nx cx zx kf af W Il Ji).mono fun e W' ⟨he,hb⟩=>?_;subst he;exact LS laidOut rfl rfl rfl Tryz.underlying4 (by rw[Tryz.params3];simp only[List.mem_cons,List.not_mem_nil,or_false,forall_eq_or_imp,forall_eq];exact⟨⟨by kernel_rfl,of_decide_eq_true (by kernel_rfl)⟩,⟨by kernel_rfl,of_decide_eq_true (by kernel_rfl)⟩,⟨by kernel_rfl,of_decide_eq_true (by kernel_rfl)⟩⟩) hW' hb
theorem holds:Rows.FnExactEffectOfSaid:=
 OpenClaim.holds_of_wide 3 Tryz.f3 rfl rfl rfl rfl rfl rfl rfl ⟨rfl,rfl,rfl,rfl,rfl⟩ rfl rfl rfl rfl rfl (by kernel_rfl) Tryz.func3 (by kernel_rfl)
  (of_decide_eq_true (by kernel_rfl)) (by unfold Func.isWrapper;first|(rw[if_pos (by decide+kernel)];kernel_rfl)|(rw[if_neg (by decide+kernel)];exact⟨rfl,rfl⟩))
  (fun os started H enc _=>lifted os started H enc)
end Go.Proofs.YtdnmhhohcedjbaaGreat.FnExactEffectOf
