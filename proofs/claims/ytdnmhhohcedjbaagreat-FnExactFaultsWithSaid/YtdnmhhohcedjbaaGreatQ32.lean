/- Walks and plain lemmas. -/
import Derived.Test.YtdnmhhohcedjbaaGreatQ31
set_option linter.unusedVariables false
set_option linter.unusedSimpArgs false
set_option maxHeartbeats 4000000
set_option maxRecDepth 20000
namespace Go.Proofs.YtdnmhhohcedjbaaGreat
open Go.RowKit
theorem aa0:(Tryz.prog.info? 65).map (fun i=>(i.zero,i.size,i.bytes))=some (some (.agg #[.int .i64 0,.int .i64 0]),2,16):=by kernel_rfl
def jK:List T.eV→List Int
 |[]=>[]
 |n::L=>n.1::n.2::jK L
theorem yX (L M:List T.eV):jK (L++M)=jK L++jK M:=by
 induction L with
 |nil=>rfl
 |cons n L ih=>simp only[List.cons_append,jK,ih]
theorem rz (L:List T.eV):(jK L).length=L.length*2:=by
 induction L with
 |nil=>rfl
 |cons n L ih=>simp only[jK,List.length_cons,ih];omega
theorem NT {L:List T.eV}{i:Nat}{n:T.eV}(h:L[i]?=some n):(jK L).getD (i*2) 0=n.1∧(jK L).getD (i*2+1) 0=n.2:=by
 induction L generalizing i with
 |nil=>simp at h
 |cons m L ih=>
  cases i with
  |zero=>
   simp only[List.getElem?_cons_zero,Option.some.injEq]at h
   subst h;exact⟨rfl,rfl⟩
  |succ i=>
   rw[List.getElem?_cons_succ]at h;obtain⟨h1,h2⟩:=ih h;rw[show(i+1)*2=i*2+1+1 from by omega];exact⟨h1,h2⟩
def NdP (w:World)(L:List T.eV)(e:Ending)(w':World):Prop:=∃v,e=.returned v∧w'.ownsRow w.heap.size 65 2 v L.length (ints (jK L))∧Below w.heap.size w w'
theorem afi {w:World}{B n c:Nat}{A:Option Addr}{L:List T.eV}(h:w.ownsRow B 65 2 (.slice A n c) n (ints (jK L))):Rd w A (n*2) (fun j=>.int .i64 ((jK L).getD j 0)):=fun h0=>by
 have hl:(jK L).length=n*2:=by have:=h.1;simpa [ints]using this
 rcases h.2 with⟨_,h1⟩|⟨g',cap,_,hg,_⟩
 ·omega
 injection hg with hA _ hc;subst hA;refine⟨g',0,rfl,(h.lt g' rfl).2,fun j hj=>?_⟩;rw[Nat.zero_add,h.cellAt j qo]
 simp[ints,List.getD,show j<(jK L).length by omega]
theorem JT (W:Nat)(r:Int)(j:Nat):(T.d9 W r j).length≤2*j:=by
 induction j with
 |zero=>simp[T.d9]
 |succ j ih=>
  simp only[T.d9,List.length_append]
  have h1:(T.m9 W ((j:Int)-3)).length≤1:=by unfold T.m9;split<;>simp
  have h2:(T.bk1 W r ((j:Int)-3)).length≤1:=by unfold T.bk1;split<;>simp
  omega
section
variable {tg:Nat→Nat}{a:bC}{s:aI}{D:Nat}{w:World}
theorem zQ32x0 {p:Prop}(h:p:=by
 go_wp2_with fail
 go_roundw
 case rel=>exact⟨j+1,by omega,congrArg (Value.int .i64) (by have h:=HX.o;omega),qh (by
  have h:=PO.o;rw[xA.o,gW.o,bX.o,yX,aT]
  simpa [jK,ints,Nat.add_assoc]using h),tQ⟩
 case measure=>
  show s.W+6-(x+1+3).toNat<s.W+6-(x+3).toNat;have h:=HX.o;omega):p:=h
theorem zQ32x1 {p:Prop}(h:p:=by
 go_roundw
 case rel=>exact⟨j+1,by omega,congrArg (Value.int .i64) (by have h:=HX.o;omega),qh (by
  have h:=bS.o;rw[xA.o,gW.o,bX.o,yX,aT]
  simpa [jK,ints,Nat.add_assoc]using h),HB3⟩
 case measure=>
  show s.W+6-(x+1+3).toNat<s.W+6-(x+3).toNat;have h:=HX.o;omega):p:=h
theorem CS (H:Mem tg a s w)(hs:bW s D):
 Calls Tryz.prog 156 #[.pointer (some ⟨a.g,0,none⟩)] w (NdP w (T.d9 s.W s.rk (s.W+6))):=by
 obtain⟨i0,hi,iz,is,ib⟩:=info_parts aa0;have HM:=qh H;have hw2:=hs.w2;have hr1:=hs.r1;have hr2:=hs.r2;have HO:=qh (World.ownsRow_made (e:=65) (size:=2) w #[] 0 ql qm rfl);have HB:=qh ((Below.refl w.heap.size w).alloc ql (.cells #[] 65));have HN:=qh (fun j=>show T.d9 s.W s.rk (j+1)=T.d9 s.W s.rk j++(T.m9 s.W ((j:Int)-3)++T.bk1 s.W s.rk ((j:Int)-3))from rfl);have jG:=qh (JT s.W s.rk);have HZ:=qh (show T.d9 s.W s.rk 0=[]from rfl);clear H hs
 go_enter Tryz.func156,Tryz.ntmps156
 go_wp2_with fail
 go_loopw [3,4] (fun v y wr=>∃j:Nat,j≤s.W+6∧y=.int .i64 ((j:Int)-3)∧Hq (wr.ownsRow w.heap.size 65 2 v (T.d9 s.W s.rk j).length (ints (jK (T.d9 s.W s.rk j))))∧Hq (Below w.heap.size w wr)) (fun _ y _=>s.W+6-(intOf y+3).toNat)
 case atStart=>exact⟨0,Nat.zero_le _,qg,qh (by rw[HZ.o];exact HO.o),HB⟩
 case round=>
  clear HO HB;obtain⟨j,hj,rfl,iU,g7⟩:=hrel;have iR:=qh (HM.o.below g7.o);have m0:wr.cell? ⟨a.g,0,none⟩=some (.int .i64 s.W):=iR.o.m.cell 0;have hM:=jG.o j;have xA:=qh (HN.o j);obtain⟨x,hx⟩:∃x:Int,x=(j:Int)-3:=⟨_,rfl⟩;rw[←hx]at xA ⊢;obtain⟨L,hL⟩:=qx (T.d9 s.W s.rk j);rw[←hL]at hM xA iU;have J8:=qh hL;clear hL
  by_cases hlt:j<s.W+6
  ·have b1:x<(s.W:Int)+3:=qo
   have m1:wr.cell? ⟨a.g,1,none⟩=some (.int .i64 s.rk):=iR.o.m.cell 1;have s1:IntKind.i64.wrap (x-s.rk)=x-s.rk:=IntWalk.i64_in _ qo;have s2:IntKind.i64.wrap ((s.W:Int)-1)=(s.W:Int)-1:=IntWalk.i64_in _ qo;have s3:IntKind.i64.wrap (x+1)=x+1:=IntWalk.i64_in _ qo;have pQ:=qh (fun W:World=>eB x 0 ((s.W:Int)-1) W);have pP:=qh (fun W:World=>eB (x-s.rk) 0 ((s.W:Int)-1) W);have HX:=qh hx
   by_cases hf:0≤x∧x<(s.W:Int)
   ·by_cases hb:0≤x-s.rk∧x-s.rk<(s.W:Int)
    ·have fV:aK x 0 ((s.W:Int)-1)=true:=by unfold aK;simp;omega
     have hinc:aK (x-s.rk) 0 ((s.W:Int)-1)=true:=by unfold aK;simp;omega
     rw[fV]at pQ;rw[hinc]at pP;have gW:=qh (show T.m9 s.W x=[(1,x)]from if_pos hf);have bX:=qh (show T.bk1 s.W s.rk x=[(2,x-s.rk)]from if_pos hb);clear fV hinc hf hb hx
     go_wp2_with fail
     refine(pQ.o _).mono ?_;rintro e w2 ⟨rfl,rfl⟩
     go_wp2_with (at_builtin;go_must (refine cB _ rfl (.tmp 22) (.tmp 25) _ rfl w.heap.size 65 i0 _ 2 16 Tryz.underlying176 hi iz is ib rfl qo _ L.length _ rfl iU.o _ 1 1 [.int .i64 1,.int .i64 (x)] rfl rfl (by simp[Value.oneCell']) qm qo g7.o.size ?_);intro v' w' hown' hfr hat';have aH:=qh hown';have HB2:=qh (g7.o.trans (hfr.own iU.o g7.o.size));have vR:=qh (HM.o.below HB2.o);have n0:w'.cell? ⟨a.g,0,none⟩=some (.int .i64 s.W):=vR.o.m.cell 0;have n1:w'.cell? ⟨a.g,1,none⟩=some (.int .i64 s.rk):=vR.o.m.cell 1;clear hown' hfr hat')
     go_quiet ((go_at_call 37;exact Calls.quiet_of_same ((pP.o _).mono fun _ _ h=>⟨h.1,h.2.symm⟩)))
     rename_i nq
     have tQ:=qh (Below.drewN' HB2.o nq);have PO:=qh (own_drewN aH.o nq);have ZC:=qh (HM.o.below tQ.o);have q1:(w'.drewN nq).cell? ⟨a.g,1,none⟩=some (.int .i64 s.rk):=ZC.o.m.cell 1
     go_wp2_with (at_builtin;go_must (refine cB _ rfl (.tmp 39) (.tmp 47) _ rfl w.heap.size 65 i0 _ 2 16 Tryz.underlying176 hi iz is ib rfl qo _ (L.length+1) _ rfl PO.o _ 1 1 [.int .i64 2,.int .i64 (x-s.rk)] rfl rfl (by simp[Value.oneCell']) qm qo tQ.o.size ?_);intro v' w' hown' hfr hat';have bS:=qh hown';have HB3:=qh (tQ.o.trans (hfr.own PO.o tQ.o.size));clear hown' hfr hat')
     exact zQ32x1
    ·have fV:aK x 0 ((s.W:Int)-1)=true:=by unfold aK;simp;omega
     have hinc:aK (x-s.rk) 0 ((s.W:Int)-1)=false:=by unfold aK;rw[Bool.and_eq_false_iff,decide_eq_false_iff_not,decide_eq_false_iff_not];omega
     rw[fV]at pQ;rw[hinc]at pP;have gW:=qh (show T.m9 s.W x=[(1,x)]from if_pos hf);have bX:=qh (show T.bk1 s.W s.rk x=[]from if_neg hb);clear fV hinc hf hb hx
     go_wp2_with fail
     refine(pQ.o _).mono ?_;rintro e w2 ⟨rfl,rfl⟩
     go_wp2_with (at_builtin;go_must (refine cB _ rfl (.tmp 22) (.tmp 25) _ rfl w.heap.size 65 i0 _ 2 16 Tryz.underlying176 hi iz is ib rfl qo _ L.length _ rfl iU.o _ 1 1 [.int .i64 1,.int .i64 (x)] rfl rfl (by simp[Value.oneCell']) qm qo g7.o.size ?_);intro v' w' hown' hfr hat';have aH:=qh hown';have HB2:=qh (g7.o.trans (hfr.own iU.o g7.o.size));have vR:=qh (HM.o.below HB2.o);have n0:w'.cell? ⟨a.g,0,none⟩=some (.int .i64 s.W):=vR.o.m.cell 0;have n1:w'.cell? ⟨a.g,1,none⟩=some (.int .i64 s.rk):=vR.o.m.cell 1;clear hown' hfr hat')
     go_quiet ((go_at_call 37;exact Calls.quiet_of_same ((pP.o _).mono fun _ _ h=>⟨h.1,h.2.symm⟩)))
     rename_i nq
     have tQ:=qh (Below.drewN' HB2.o nq);have PO:=qh (own_drewN aH.o nq);have ZC:=qh (HM.o.below tQ.o);have q1:(w'.drewN nq).cell? ⟨a.g,1,none⟩=some (.int .i64 s.rk):=ZC.o.m.cell 1
     exact zQ32x0
   ·by_cases hb:0≤x-s.rk∧x-s.rk<(s.W:Int)
    ·have fV:aK x 0 ((s.W:Int)-1)=false:=by unfold aK;rw[Bool.and_eq_false_iff,decide_eq_false_iff_not,decide_eq_false_iff_not];omega
     have hinc:aK (x-s.rk) 0 ((s.W:Int)-1)=true:=by unfold aK;simp;omega
     rw[fV]at pQ;rw[hinc]at pP;have gW:=qh (show T.m9 s.W x=[]from if_neg hf);have bX:=qh (show T.bk1 s.W s.rk x=[(2,x-s.rk)]from if_pos hb);clear fV hinc hf hb hx
     go_wp2_with fail
     refine(pQ.o _).mono ?_;rintro e w2 ⟨rfl,rfl⟩
     go_wp2_with fail
     go_quiet ((go_at_call 37;exact Calls.quiet_of_same ((pP.o _).mono fun _ _ h=>⟨h.1,h.2.symm⟩)))
     rename_i nq
     have tQ:=qh (Below.drewN' g7.o nq);have PO:=qh (own_drewN iU.o nq);have ZC:=qh (HM.o.below tQ.o);have q1:(wr.drewN nq).cell? ⟨a.g,1,none⟩=some (.int .i64 s.rk):=ZC.o.m.cell 1
     go_wp2_with (at_builtin;go_must (refine cB _ rfl (.tmp 39) (.tmp 47) _ rfl w.heap.size 65 i0 _ 2 16 Tryz.underlying176 hi iz is ib rfl qo _ L.length _ rfl PO.o _ 1 1 [.int .i64 2,.int .i64 (x-s.rk)] rfl rfl (by simp[Value.oneCell']) qm qo tQ.o.size ?_);intro v' w' hown' hfr hat';have bS:=qh hown';have HB3:=qh (tQ.o.trans (hfr.own PO.o tQ.o.size));clear hown' hfr hat')
     exact zQ32x1
    ·have fV:aK x 0 ((s.W:Int)-1)=false:=by unfold aK;rw[Bool.and_eq_false_iff,decide_eq_false_iff_not,decide_eq_false_iff_not];omega
     have hinc:aK (x-s.rk) 0 ((s.W:Int)-1)=false:=by unfold aK;rw[Bool.and_eq_false_iff,decide_eq_false_iff_not,decide_eq_false_iff_not];omega
     rw[fV]at pQ;rw[hinc]at pP;have gW:=qh (show T.m9 s.W x=[]from if_neg hf);have bX:=qh (show T.bk1 s.W s.rk x=[]from if_neg hb);clear fV hinc hf hb hx
     go_wp2_with fail
     refine(pQ.o _).mono ?_;rintro e w2 ⟨rfl,rfl⟩
     go_wp2_with fail
     go_quiet ((go_at_call 37;exact Calls.quiet_of_same ((pP.o _).mono fun _ _ h=>⟨h.1,h.2.symm⟩)))
     rename_i nq
     have tQ:=qh (Below.drewN' g7.o nq);have PO:=qh (own_drewN iU.o nq);have ZC:=qh (HM.o.below tQ.o);have q1:(wr.drewN nq).cell? ⟨a.g,1,none⟩=some (.int .i64 s.rk):=ZC.o.m.cell 1
     exact zQ32x0
  ·obtain rfl:j=s.W+6:=qo
   have b1:¬x<(s.W:Int)+3:=qo;have HO:=qh (show wr.ownsRow w.heap.size 65 2 u3 (T.d9 s.W s.rk (s.W+6)).length (ints (jK (T.d9 s.W s.rk (s.W+6))))from by rw[←J8.o];exact iU.o)
   go_wp2_with fail
   go_ret
   exact⟨_,rfl,HO.o,g7.o⟩
end
end Go.Proofs.YtdnmhhohcedjbaaGreat
