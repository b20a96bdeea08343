/- Walks and plain lemmas. -/
import Derived.Test.YtdnmhhohcedjbaaGreatP30
set_option linter.unusedVariables false
set_option linter.unusedSimpArgs false
set_option maxHeartbeats 4000000
set_option maxRecDepth 20000
namespace Go.Proofs.YtdnmhhohcedjbaaGreat
open Go.RowKit
theorem aa0:(Tryz.prog.info? 65).map (fun i=>(i.zero,i.size,i.bytes))=some (some (.agg #[.int .i64 0,.int .i64 0]),2,16):=by kernel_rfl
def jK:List T.eV→List Int
 |[]=>[]
 |n::L=>n.1::n.2::jK L
theorem yX (L M:List T.eV):jK (L++M)=jK L++jK M:=by
 induction L with
 |nil=>rfl
 |cons n L ih=>simp only[List.cons_append,jK,ih]
theorem rz (L:List T.eV):(jK L).length=L.length*2:=by
 induction L with
 |nil=>rfl
 |cons n L ih=>simp only[jK,List.length_cons,ih];omega
theorem NT {L:List T.eV}{i:Nat}{n:T.eV}(h:L[i]?=some n):(jK L).getD (i*2) 0=n.1∧(jK L).getD (i*2+1) 0=n.2:=by
 induction L generalizing i with
 |nil=>simp at h
 |cons m L ih=>
  cases i with
  |zero=>
   simp only[List.getElem?_cons_zero,Option.some.injEq]at h
   subst h;exact⟨rfl,rfl⟩
  |succ i=>
   rw[List.getElem?_cons_succ]at h;obtain⟨h1,h2⟩:=ih h;rw[show(i+1)*2=i*2+1+1 from by omega];exact⟨h1,h2⟩
def NdP (w:World)(L:List T.eV)(e:Ending)(w':World):Prop:=∃v,e=.returned v∧w'.ownsRow w.heap.size 65 2 v L.length (ints (jK L))∧Below w.heap.size w w'
theorem afi {w:World}{B n c:Nat}{A:Option Addr}{L:List T.eV}(h:w.ownsRow B 65 2 (.slice A n c) n (ints (jK L))):Rd w A (n*2) (fun j=>.int .i64 ((jK L).getD j 0)):=fun h0=>by
 have hl:(jK L).length=n*2:=by have:=h.1;simpa [ints]using this
 rcases h.2 with⟨_,h1⟩|⟨g',cap,_,hg,_⟩
 ·omega
 injection hg with hA _ hc;subst hA;refine⟨g',0,rfl,(h.lt g' rfl).2,fun j hj=>?_⟩;rw[Nat.zero_add,h.cellAt j qo]
 simp[ints,List.getD,show j<(jK L).length by omega]
theorem JT (W:Nat)(r:Int)(j:Nat):(T.d9 W r j).length≤2*j:=by
 induction j with
 |zero=>simp[T.d9]
 |succ j ih=>
  simp only[T.d9,List.length_append]
  have h1:(T.m9 W ((j:Int)-3)).length≤1:=by unfold T.m9;split<;>simp
  have h2:(T.bk1 W r ((j:Int)-3)).length≤1:=by unfold T.bk1;split<;>simp
  omega
section
variable {tg:Nat→Nat}{a:bC}{s:aI}{D:Nat}{w:World}
theorem CS (H:Mem tg a s w)(hs:bW s D):
 Calls Tryz.prog 156 #[.pointer (some ⟨a.g,0,none⟩)] w (NdP w (T.d9 s.W s.rk (s.W+6))):=by
 obtain⟨i0,hi,iz,is,ib⟩:=info_parts aa0;have HM:=qh H;have hw2:=hs.w2;have hr1:=hs.r1;have hr2:=hs.r2;have HO:=qh (World.ownsRow_made (e:=65) (size:=2) w #[] 0 ql qm rfl);have HB:=qh ((Below.refl w.heap.size w).alloc ql (.cells #[] 65));have HN:=qh (fun j=>show T.d9 s.W s.rk (j+1)=T.d9 s.W s.rk j++(T.m9 s.W ((j:Int)-3)++T.bk1 s.W s.rk ((j:Int)-3))from rfl);have jG:=qh (JT s.W s.rk);have HZ:=qh (show T.d9 s.W s.rk 0=[]from rfl);clear H hs
 go_enter Tryz.func156,Tryz.ntmps156
 go_wp2_with fail
 go_loopw [3,4] (fun v y wr=>∃j:Nat,j≤s.W+6∧y=.int .i64 ((j:Int)-3)∧Hq (wr.ownsRow w.heap.size 65 2 v (T.d9 s.W s.rk j).length (ints (jK (T.d9 s.W s.rk j))))∧Hq (Below w.heap.size w wr)) (fun _ y _=>s.W+6-(intOf y+3).toNat)
 case atStart=>exact⟨0,Nat.zero_le _,qg,qh (by rw[HZ.o];exact HO.o),HB⟩
 case round=>
  clear HO HB;obtain⟨j,hj,rfl,iU,g7⟩:=hrel;have iR:=qh (HM.o.below g7.o);have m0:wr.cell? ⟨a.g,0,none⟩=some (.int .i64 s.W):=iR.o.m.cell 0;have hM:=jG.o j;have xA:=qh (HN.o j);obtain⟨x,hx⟩:∃x:Int,x=(j:Int)-3:=⟨_,rfl⟩;rw[←hx]at xA ⊢;obtain⟨L,hL⟩:=qx (T.d9 s.W s.rk j);rw[←hL]at hM xA iU;have J8:=qh hL;clear hL
  by_cases hlt:j<s.W+6
  ·have b1:x<(s.W:Int)+3:=qo
   have m1:wr.cell? ⟨a.g,1,none⟩=some (.int .i64 s.rk):=iR.o.m.cell 1;have s1:IntKind.i64.wrap (x-s.rk)=x-s.rk:=IntWalk.i64_in _ qo;have s2:IntKind.i64.wrap ((s.W:Int)-1)=(s.W:Int)-1:=IntWalk.i64_in _ qo;have s3:IntKind.i64.wrap (x+1)=x+1:=IntWalk.i64_in _ qo;have pQ:=qh (fun W:World=>eB x 0 ((s.W:Int)-1) W);have pP:=qh (fun W:World=>eB (x-s.rk) 0 ((s.W:Int)-1) W);have HX:=qh hx
   by_cases hf:0≤x∧x<(s.W:Int)
   ·by_cases hb:0≤x-s.rk∧x-s.rk<(s.W:Int)
    ·have fV:aK x 0 ((s.W:Int)-1)=true:=by unfold aK;simp;omega
     have hinc:aK (x-s.rk) 0 ((s.W:Int)-1)=true:=by unfold aK;simp;omega
     rw[fV]at pQ;rw[hinc]at pP;have gW:=qh (show T.m9 s.W x=[(1,x)]from if_pos hf);have bX:=qh (show T.bk1 s.W s.rk x=[(2,x-s.rk)]from if_pos hb);clear fV hinc hf hb hx
     go_wp2_with fail
     refine(pQ.o _).mono ?_;rintro e w2 ⟨rfl,rfl⟩
     go_wp2_with (at_builtin;go_must (refine cB _ rfl (.tmp 22) (.tmp 25) _ rfl w.heap.size 65 i0 _ 2 16 Tryz.underlying176 hi iz is ib rfl qo _ L.length _ rfl iU.o _ 1 1 [.int .i64 1,.int .i64 (x)] rfl rfl (by simp[Value.oneCell']) qm qo g7.o.size ?_);intro v' w' hown' hfr hat';have aH:=qh hown';have HB2:=qh (g7.o.trans (hfr.own iU.o g7.o.size));have vR:=qh (HM.o.below HB2.o);have n0:w'.cell? ⟨a.g,0,none⟩=some (.int .i64 s.W):=vR.o.m.cell 0;have n1:w'.cell? ⟨a.g,1,none⟩=some (.int .i64 s.rk):=vR.o.m.cell 1;clear hown' hfr hat')
     go_quiet ((go_at_call 37;exact Calls.quiet_of_same ((pP.o _).mono fun _ _ h=>⟨h.1,h.2.symm⟩)))
     rename_i nq
     have tQ:=qh (Below.drewN' HB2.o nq);have PO:=qh (own_drewN aH.o nq);have ZC:=qh (HM.o.below tQ.o);have q1:(w'.drewN nq).cell? ⟨a.g,1,none⟩=some (.int .i64 s.rk):=ZC.o.m.cell 1
     go_wp2_with (at_builtin;go_must (refine cB _ rfl (.tmp 39) (.tmp 47) _ rfl w.heap.size 65 i0 _ 2 16 Tryz.underlying176 hi iz is ib rfl qo _ (L.length+1) _ rfl PO.o _ 1 1 [.int .i64 2,.int .i64 (x-s.rk)] rfl rfl (by simp[Value.oneCell']) qm qo tQ.o.size ?_);intro v' w' hown' hfr hat';have bS:=qh hown';have HB3:=qh (tQ.o.trans (hfr.own PO.o tQ.o.size));clear hown' hfr hat')
     go_roundw
     case rel=>exact⟨j+1,by omega,congrArg (Value.int .i64) (by have h:=HX.o;omega),qh (by
      have h:=bS.o;rw[xA.o,gW.o,bX.o,yX,aT]
      simpa [jK,ints,Nat.add_assoc]using h),HB3⟩
     case measure=>
      show s.W+6-(x+1+3).toNat<s.W+6-(x+3).toNat;have h:=HX.o;omega
    ·have fV:aK x 0 ((s.W:Int)-1)=true:=by unfold aK;simp;omega
     have hinc:aK (x-s.rk) 0 ((s.W:Int)-1)=false:=by unfold aK;rw[Bool.and_eq_false_iff,decide_eq_false_iff_not,decide_eq_false_iff_not];omega
     rw[fV]at pQ;rw[hinc]at pP;have gW:=qh (show T.m9 s.W x=[(1,x)]from if_pos hf);have bX:=qh (show T.bk1 s.W s.rk x=[]from if_neg hb);clear fV hinc hf hb hx
     go_wp2_with fail
     refine(pQ.o _).mono ?_;rintro e w2 ⟨rfl,rfl⟩
     go_wp2_with (at_builtin;go_must (refine cB _ rfl (.tmp 22) (.tmp 25) _ rfl w.heap.size 65 i0 _ 2 16 Tryz.underlying176 hi iz is ib rfl qo _ L.length _ rfl iU.o _ 1 1 [.int .i64 1,.int .i64 (x)] rfl rfl (by simp[Value.oneCell']) qm qo g7.o.size ?_);intro v' w' hown' hfr hat';have aH:=qh hown';have HB2:=qh (g7.o.trans (hfr.own iU.o g7.o.size));have vR:=qh (HM.o.below HB2.o);have n0:w'.cell? ⟨a.g,0,none⟩=some (.int .i64 s.W):=vR.o.m.cell 0;have n1:w'.cell? ⟨a.g,1,none⟩=some (.int .i64 s.rk):=vR.o.m.cell 1;clear hown' hfr hat')
     go_quiet ((go_at_call 37;exact Calls.quiet_of_same ((pP.o _).mono fun _ _ h=>⟨h.1,h.2.symm⟩)))
     rename_i nq
     have tQ:=qh (Below.drewN' HB2.o nq);have PO:=qh (own_drewN aH.o nq);have ZC:=qh (HM.o.below tQ.o);have q1:(w'.drewN nq).cell? ⟨a.g,1,none⟩=some (.int .i64 s.rk):=ZC.o.m.cell 1
     go_wp2_with fail
     go_roundw
     case rel=>exact⟨j+1,by omega,congrArg (Value.int .i64) (by have h:=HX.o;omega),qh (by
      have h:=PO.o;rw[xA.o,gW.o,bX.o,yX,aT]
      simpa [jK,ints,Nat.add_assoc]using h),tQ⟩
     case measure=>
      show s.W+6-(x+1+3).toNat<s.W+6-(x+3).toNat;have h:=HX.o;omega
   ·by_cases hb:0≤x-s.rk∧x-s.rk<(s.W:Int)
    ·have fV:aK x 0 ((s.W:Int)-1)=false:=by unfold aK;rw[Bool.and_eq_false_iff,decide_eq_false_iff_not,decide_eq_false_iff_not];omega
     have hinc:aK (x-s.rk) 0 ((s.W:Int)-1)=true:=by unfold aK;simp;omega
     rw[fV]at pQ;rw[hinc]at pP;have gW:=qh (show T.m9 s.W x=[]from if_neg hf);have bX:=qh (show T.bk1 s.W s.rk x=[(2,x-s.rk)]from if_pos hb);clear fV hinc hf hb hx
     go_wp2_with fail
     refine(pQ.o _).mono ?_;rintro e w2 ⟨rfl,rfl⟩
     go_wp2_with fail
     go_quiet ((go_at_call 37;exact Calls.quiet_of_same ((pP.o _).mono fun _ _ h=>⟨h.1,h.2.symm⟩)))
     rename_i nq
     have tQ:=qh (Below.drewN' g7.o nq);have PO:=qh (own_drewN iU.o nq);have ZC:=qh (HM.o.below tQ.o);have q1:(wr.drewN nq).cell? ⟨a.g,1,none⟩=some (.int .i64 s.rk):=ZC.o.m.cell 1
     go_wp2_with (at_builtin;go_must (refine cB _ rfl (.tmp 39) (.tmp 47) _ rfl w.heap.size 65 i0 _ 2 16 Tryz.underlying176 hi iz is ib rfl qo _ L.length _ rfl PO.o _ 1 1 [.int .i64 2,.int .i64 (x-s.rk)] rfl rfl (by simp[Value.oneCell']) qm qo tQ.o.size ?_);intro v' w' hown' hfr hat';have bS:=qh hown';have HB3:=qh (tQ.o.trans (hfr.own PO.o tQ.o.size));clear hown' hfr hat')
     go_roundw
     case rel=>exact⟨j+1,by omega,congrArg (Value.int .i64) (by have h:=HX.o;omega),qh (by
      have h:=bS.o;rw[xA.o,gW.o,bX.o,yX,aT]
      simpa [jK,ints,Nat.add_assoc]using h),HB3⟩
     case measure=>
      show s.W+6-(x+1+3).toNat<s.W+6-(x+3).toNat;have h:=HX.o;omega
    ·have fV:aK x 0 ((s.W:Int)-1)=false:=by unfold aK;rw[Bool.and_eq_false_iff,decide_eq_false_iff_not,decide_eq_false_iff_not];omega
     have hinc:aK (x-s.rk) 0 ((s.W:Int)-1)=false:=by unfold aK;rw[Bool.and_eq_false_iff,decide_eq_false_iff_not,decide_eq_false_iff_not];omega
     rw[fV]at pQ;rw[hinc]at pP;have gW:=qh (show T.m9 s.W x=[]from if_neg hf);have bX:=qh (show T.bk1 s.W s.rk x=[]from if_neg hb);clear fV hinc hf hb hx
     go_wp2_with fail
     refine(pQ.o _).mono ?_;rintro e w2 ⟨rfl,rfl⟩
     go_wp2_with fail
     go_quiet ((go_at_call 37;exact Calls.quiet_of_same ((pP.o _).mono fun _ _ h=>⟨h.1,h.2.symm⟩)))
     rename_i nq
     have tQ:=qh (Below.drewN' g7.o nq);have PO:=qh (own_drewN iU.o nq);have ZC:=qh (HM.o.below tQ.o);have q1:(wr.drewN nq).cell? ⟨a.g,1,none⟩=some (.int .i64 s.rk):=ZC.o.m.cell 1
     go_wp2_with fail
     go_roundw
     case rel=>exact⟨j+1,by omega,congrArg (Value.int .i64) (by have h:=HX.o;omega),qh (by
      have h:=PO.o;rw[xA.o,gW.o,bX.o,yX,aT]
      simpa [jK,ints,Nat.add_assoc]using h),tQ⟩
     case measure=>
      show s.W+6-(x+1+3).toNat<s.W+6-(x+3).toNat;have h:=HX.o;omega
  ·obtain rfl:j=s.W+6:=qo
   have b1:¬x<(s.W:Int)+3:=qo;have HO:=qh (show wr.ownsRow w.heap.size 65 2 u3 (T.d9 s.W s.rk (s.W+6)).length (ints (jK (T.d9 s.W s.rk (s.W+6))))from by rw[←J8.o];exact iU.o)
   go_wp2_with fail
   go_ret
   exact⟨_,rfl,HO.o,g7.o⟩
end
theorem Jm (x0 x1 y0 y1:Int)(w:World):(binOp .eql 65 (.agg #[.int .i64 x0,.int .i64 x1]) (.agg #[.int .i64 y0,.int .i64 y1])).run Tryz.prog w=.ok (.bool (decide ((x0,x1)=(y0,y1)))) w:=by
 rw[run_eql_struct,run_equalIn_agg _ _ _ _ _ qk qk]
 simp[Program.fieldsOf,Tryz.underlying65,Op.eqFields,go_sem]
 repeat' split
 all_goals simp_all
theorem wI (x0 x1 y0 y1:Int)(w:World):(binOp .neq 65 (.agg #[.int .i64 x0,.int .i64 x1]) (.agg #[.int .i64 y0,.int .i64 y1])).run Tryz.prog w=.ok (.bool (!decide ((x0,x1)=(y0,y1)))) w:=by
 rw[run_neq_struct,run_equalIn_agg _ _ _ _ _ qk qk]
 simp[Program.fieldsOf,Tryz.underlying65,Op.eqFields,go_sem]
 repeat' split
 all_goals simp_all
theorem ER {s:aI}{n:T.eV}(h:T.DZ s.W n):T.ES s.f s.k n=aM s n.1 n.2:=by
 unfold T.ES aM
 rcases h.1 with h1|h1
 ·rw[if_neg qo,if_pos h1]
 ·rw[if_pos h1,if_neg qo]
theorem M7 {s:aI}{D:Nat}(hs:bW s D){L:List T.eV}(h:∀n∈L,T.DZ s.W n):T.fG s.f s.k L≤4*L.length:=by
 induction L with
 |nil=>exact Nat.le_refl _
 |cons n L ih=>
  have h1:=h n (List.mem_cons_self ..);have h2:=ih fun m hm=>h m (List.mem_cons_of_mem _ hm);have h3:=bT (b:=n.1) hs h1.2.1 h1.2.2
  simp only[T.fG,List.length_cons,ER h1]
  omega
theorem EQ {f k:Nat→Nat}{L:List T.eV}{i:Nat}{n:T.eV}(h:L[i]?=some n):T.fG f k (L.take (i+1))=T.fG f k (L.take i)+T.ES f k n:=by
 rw[List.take_add_one,T.BW,h]
 rfl
theorem WA {w:World}{A:Option Addr}{L:List T.eV}(h:Rd w A (L.length*2) (fun j=>.int .i64 ((jK L).getD j 0))){i:Nat}{n:T.eV}(hi:L[i]?=some n):∃g o,A=some ⟨g,o,none⟩∧g<w.heap.size∧w.cell? ⟨g,o+i*2,none⟩=some (.int .i64 n.1)∧w.cell? ⟨g,o+i*2+1,none⟩=some (.int .i64 n.2):=by
 have hl:i<L.length:=(List.getElem?_eq_some_iff.1 hi).1;obtain⟨g,o,e,hg,hr⟩:=h qo;have h1:w.cell? ⟨g,o+i*2,none⟩=some (.int .i64 ((jK L).getD (i*2) 0)):=hr (i*2) qo;have h2:w.cell? ⟨g,o+(i*2+1),none⟩=some (.int .i64 ((jK L).getD (i*2+1) 0)):=hr (i*2+1) qo;rw[(NT hi).1]at h1;rw[(NT hi).2,←Nat.add_assoc]at h2;exact⟨g,o,e,hg,h1,h2⟩
section
variable {tg:Nat→Nat}{a:bC}{s:aI}{D:Nat}{w:World}
theorem qY (b x:Int)(H:Mem tg a s w)(hs:bW s D)(hb:b=1∨b=2)(h0:0≤x)(h1:x<s.W):
 Calls Tryz.prog 126 #[.pointer (some ⟨a.g,0,none⟩),.agg #[.int .i64 b,.int .i64 x]] w fun e w'=>e=.returned (.int .i64 (iH s b x:Nat))∧Below w.heap.size w w':=by
 obtain⟨P,R,hL,hP,hN⟩:=T.Ny s.f s.k hb h0 h1 (show-3≤s.rk∧s.rk≤3 from⟨hs.r1,hs.r2⟩);have HS:=qh hs;have hg:Below w.heap.size w (w.alloc (.cells #[.int .i64 b,.int .i64 x] 65)):=qb;have HB1:=qh hg;have bZ:=qh (H.below hg);have HX:=qh (aB.at_ (g':=w.heap.size) w 65 #[.int .i64 b,.int .i64 x] rfl);have eR:=qh (CS bZ.o hs);have gV:=qh (fun n (hn:n∈T.d9 s.W s.rk (s.W+6))=>(T.tY hn).1);have hw2:=hs.w2;have hle:=JT s.W s.rk (s.W+6);obtain⟨L,hLe⟩:=qx (T.d9 s.W s.rk (s.W+6));rw[←hLe]at eR gV hL hle;have HL:=qh hL;have HP:=qh hP;have xS:=qh (show T.fG s.f s.k P=iH s b x from hN);have hpl:P.length<L.length:=by rw[hL];simp
 have HAT:=qh (show L[P.length]?=some (b,x)from by rw[hL];simp);have CG:=qh (show L.take P.length=P from by rw[hL];simp);have mE:=qh (fun i (hi:i<P.length) n (hn:L[i]?=some n)=>show n≠(b,x)from fun e=>HP.o (by
  rw[HL.o,List.getElem?_append_left hi]at hn;rw[←e];exact List.mem_of_getElem? hn))
 clear hL hP hN hLe hg H hs h0 h1 hb
 go_enter Tryz.func126,Tryz.ntmps126
 go_wp2_with fail
 refine eR.o.mono ?_;rintro e w2 ⟨v,rfl,ho,hb2⟩;obtain⟨A,c,rfl⟩:=aF ho;have iJ:=qh (afi ho);have HB2:=HB1.st hb2;have dW:=qh (bZ.o.below hb2);have eI:=qh (HX.o.below hb2 HX.o.lt);clear ho hb2 eR
 go_wp2_with fail
 go_loopw [5,11] (fun v y wr=>∃k:Nat,k≤P.length∧y=.int .i64 k∧v=.int .i64 (T.fG s.f s.k (L.take k):Nat)∧Hq (Below w2.heap.size w2 wr)) (fun _ y _=>L.length-(intOf y).toNat)
 case atStart=>exact⟨0,Nat.zero_le _,rfl,rfl,qh (Below.refl _ _)⟩
 case round=>
  obtain⟨k,hk,rfl,rfl,g7⟩:=hrel;have hkl:k<L.length:=qo;obtain⟨n,hn⟩:∃n,L[k]?=some n:=⟨_,List.getElem?_eq_getElem hkl⟩;obtain⟨ga,o,rfl,hga,r0,r1⟩:=WA (iJ.o.below g7.o) hn;have qR:=qh (gV.o n (List.mem_of_getElem? hn));have qZ:=qh (ER qR.o);have hsum:=M7 HS.o (L:=L.take k) (fun m hm=>gV.o m (List.mem_of_mem_take hm));have bN:=qh (EQ (f:=s.f) (k:=s.k) hn);have Pm:=qh hn;have hmin:(L.take k).length≤L.length:=by simp;omega
  obtain⟨S,hS⟩:=qx (T.fG s.f s.k (L.take k));rw[←hS]at hsum bN ⊢;have KY:=qh hS;obtain⟨nb,na⟩:=n;have r0:wr.cell? ⟨ga,o+k*2,none⟩=some (.int .i64 nb):=r0;have r1:wr.cell? ⟨ga,o+k*2+1,none⟩=some (.int .i64 na):=r1;have t0:(wr.alloc (.cells #[.int .i64 nb,.int .i64 na] 65)).cell? ⟨w.heap.size,0,none⟩=some (.int .i64 b):=(eI.o.below (g7.o.alloc g7.o.size _) eI.o.lt).cell 0;have t1:(wr.alloc (.cells #[.int .i64 nb,.int .i64 na] 65)).cell? ⟨w.heap.size,1,none⟩=some (.int .i64 x):=(eI.o.below (g7.o.alloc g7.o.size _) eI.o.lt).cell 1;have mO:=fun W=>Jm nb na b x W
  by_cases hlt:k<P.length
  ·have ZY:=qh (show decide ((nb,na)=(b,x))=false from decide_eq_false (mE.o k hlt _ Pm.o))
   rw[ZY.o]at mO;have mF:=qh (dW.o.below (g7.o.alloc g7.o.size (.cells #[.int .i64 nb,.int .i64 na] 65)));have hon:=cG nb na mF.o qR.o.1 qR.o.2.1 qR.o.2.2;have TO:=qh hon;obtain⟨AF,cF,mW⟩:=(mF.o.lU (b:=nb) qR.o.2.1 qR.o.2.2).form;have hb4:=bT (b:=nb) HS.o qR.o.2.1 qR.o.2.2;have jV:=qh mW;have dC:=qh hlt;clear hS hn hon mW hga hlt
   go_wp2_with fail
   refine TO.o.mono ?_;rintro e w5 ⟨rfl,hb5⟩;have oQ:=qh (mF.o.below hb5);have kc:=oQ.o.dE (b:=nb) qR.o.2.1 qR.o.2.2;rw[jV.o]at kc;have aZ:=qh ((g7.o.alloc g7.o.size (.cells #[.int .i64 nb,.int .i64 na] 65)).trans (hb5.mono (Nat.le_trans g7.o.size qj)));have xU:=qh (show aM s nb na=T.ES s.f s.k (nb,na)from qZ.o.symm);obtain⟨K,hK⟩:=qx (aM s nb na);rw[←hK]at kc hb4 xU;clear hb5 hK TO
   go_wp2_with fail
   go_roundw
   case rel=>exact⟨k+1,dC.o,qg,by rw[bN.o,←xU.o];go_num,aZ⟩
   case measure=>exact qs
  ·obtain rfl:k=P.length:=qo
   have ZY:=qh (show decide ((nb,na)=(b,x))=true from decide_eq_true (by
    have h:=Pm.o;rw[HAT.o]at h;injection h with h;exact h.symm))
   rw[ZY.o]at mO;have dU:=qh (HB2.o.trans ((g7.o.alloc g7.o.size (.cells #[.int .i64 nb,.int .i64 na] 65)).mono HB2.o.size));have HR:=qh (show S=iH s b x from by rw[KY.o,CG.o];exact xS.o);clear hS hn hga
   go_wp2_with fail
   go_ret
   exact⟨by rw[←HR.o];rfl,dU.o⟩
end
theorem vV {w:World}{A:Option Addr}{c:Nat}{L P R:List T.eV}{b x:Int}(hL:L=P++(b,x)::R)(hn:(b,x)∉P)(hrd:Rd w A (L.length*2) (fun j=>.int .i64 ((jK L).getD j 0)))(hl:L.length≤1000):
 Calls Tryz.prog 177 #[.slice A L.length c,.agg #[.int .i64 b,.int .i64 x]] w fun e w'=>e=.returned (.int .i64 P.length)∧Below w.heap.size w w':=by
 have hpl:P.length<L.length:=by rw[hL];simp
 have HAT:=qh (show L[P.length]?=some (b,x)from by rw[hL];simp);have mE:=qh (fun i (hi:i<P.length) n (hn':L[i]?=some n)=>show n≠(b,x)from fun e=>hn (by
  rw[hL,List.getElem?_append_left hi]at hn';rw[←e];exact List.mem_of_getElem? hn'))
 have iJ:=qh hrd;have HX:=qh (aB.at_ (g':=w.heap.size) w 65 #[.int .i64 b,.int .i64 x] rfl);have HB:=qh ((Below.refl w.heap.size w).alloc ql (.cells #[.int .i64 b,.int .i64 x] 65));clear hL hn hrd
 go_enter Tryz.func177,Tryz.ntmps177
 go_wp2_with fail
 go_loopw [8] (fun y wr=>∃k:Nat,k≤P.length∧y=.int .i64 k∧Hq (Below (w.alloc (.cells #[.int .i64 b,.int .i64 x] 65)).heap.size (w.alloc (.cells #[.int .i64 b,.int .i64 x] 65)) wr)) (fun y _=>L.length-(intOf y).toNat)
 case atStart=>exact⟨0,Nat.zero_le _,rfl,qh (Below.refl _ _)⟩
 case round=>
  obtain⟨k,hk,rfl,g7⟩:=hrel;have hkl:k<L.length:=qo;obtain⟨n,hn⟩:∃n,L[k]?=some n:=⟨_,List.getElem?_eq_getElem hkl⟩;have tQ:=qh (HB.o.trans (g7.o.mono HB.o.size));obtain⟨ga,o,rfl,hga,r0,r1⟩:=WA (iJ.o.below tQ.o) hn;have Pm:=qh hn;obtain⟨nb,na⟩:=n;have r0:wr.cell? ⟨ga,o+k*2,none⟩=some (.int .i64 nb):=r0;have r1:wr.cell? ⟨ga,o+k*2+1,none⟩=some (.int .i64 na):=r1;have t0:wr.cell? ⟨w.heap.size,0,none⟩=some (.int .i64 b):=(HX.o.below g7.o HX.o.lt).cell 0;have t1:wr.cell? ⟨w.heap.size,1,none⟩=some (.int .i64 x):=(HX.o.below g7.o HX.o.lt).cell 1;have mO:=fun W=>Jm b x nb na W
  by_cases hlt:k<P.length
  ·have ZY:=qh (show decide ((b,x)=(nb,na))=false from decide_eq_false fun e=>mE.o k hlt _ Pm.o e.symm)
   rw[ZY.o]at mO;clear hn hga
   go_wp2_with fail
   go_quiet (fail)
   rename_i nq
   have HBn:=qh (Below.drewN' g7.o nq)
   go_wp2_with fail
   go_roundw
   case rel=>exact⟨k+1,by omega,qg,HBn⟩
   case measure=>exact qs
  ·obtain rfl:k=P.length:=qo
   have ZY:=qh (show decide ((b,x)=(nb,na))=true from decide_eq_true (by
    have h:=Pm.o;rw[HAT.o]at h;injection h))
   rw[ZY.o]at mO;clear hn hga
   go_wp2_with fail
   go_quiet (fail)
   rename_i nq
   have dU:=qh (Below.drewN' tQ.o nq)
   go_wp2_with fail
   go_ret
   exact⟨rfl,dU.o⟩
end Go.Proofs.YtdnmhhohcedjbaaGreat
