/- Walks and plain lemmas. -/
import Derived.Test.YtimlpmbabbbcaaaGreatP28
import Derived.Test.YtimlpmbabbbcaaaGreatP26
import Derived.Test.YtimlpmbabbbcaaaGreatP25
import Derived.Test.YtimlpmbabbbcaaaGreatP27
set_option linter.unusedVariables false
set_option linter.unusedSimpArgs false
set_option maxHeartbeats 4000000
set_option maxRecDepth 20000
namespace Go.Proofs.YtimlpmbabbbcaaaGreat
open Go.RowKit
theorem Zu {W:Nat}{z:Nat→Int}{i:Nat}(h:xS W z i=true):rY (z (i*8)) (z (i*8+2)):=by
 intro hk;unfold xS at h;generalize z (i*8)=k at*;generalize z (i*8+1)=d at*;generalize z (i*8+2)=fb at*;generalize z (i*8+3)=fa at*;generalize z (i*8+4)=tb at*;generalize z (i*8+5)=ta at*;generalize z (i*8+6)=c at*;generalize z (i*8+7)=r at*;unfold bD gQ nB aJ at h
 split at h
 ·simp only[Bool.and_eq_true,decide_eq_true_eq,beq_iff_eq]at h;omega
 split at h
 ·simp only[Bool.and_eq_true,decide_eq_true_eq,beq_iff_eq]at h;omega
 split at h
 ·simp only[Bool.and_eq_true,decide_eq_true_eq,beq_iff_eq]at h;omega
 split at h
 ·simp only[Bool.and_eq_true,decide_eq_true_eq,beq_iff_eq]at h;omega
 ·omega
section
variable {tg:Nat→Nat}{a:bV}{s:aP}{D:Nat}{w:World}
theorem jq {k d fb fa tb ta c r:Int}{j:Nat}(H:Mem tg a s w)(hs:d8 s D)(hD:D≤1000000)(hp:gZ s.W k d fb fa tb ta c r j)(hb:nZ k fb tb)(hf:rY k fb):
 Calls Tryz.prog 66 #[.pointer (some ⟨a.g,0,none⟩),.agg #[.int .i64 k,.int .i64 d,.int .i64 fb,.int .i64 fa,.int .i64 tb,.int .i64 ta,.int .i64 c,.int .i64 r]] w (MN w tg a.g (bJ s k d fb fa tb ta j) (eM s k d fb fa tb ta r j)):=by
 have hk:k=1∨k=2∨k=3∨k=4∨k=5∨k=6∨k=7∨k=8∨k=9:=by have:=hp.k1;have:=hp.k9;omega
 rcases hk with rfl|rfl|rfl|rfl|rfl|rfl|rfl|rfl|rfl
 ·exact Lb H hs hD hp hb hf
 ·exact La H hs hD hp hb hf
 ·exact Kz H hs hD hp hb hf
 ·exact Ky H hs hD hp hb hf
 ·exact Kw H hs hD hp hb hf
 ·exact Kv H hs hD hp hb hf
 ·exact Ku H hs hD hp hb hf
 ·exact Kt H hs hD hp hb hf
 ·exact Kr H hs hD hp hb hf
end
theorem Mem.seven {tg:Nat→Nat}{a:bV}{s:aP}{w:World}(H:Mem tg a s w):∃AL cL AD qD cD,jP a s=#[.int .i64 s.W,.int .i64 s.rk,.slice (some ⟨a.gf,0,none⟩) s.W a.cf,.slice (some ⟨a.gk,0,none⟩) s.W a.ck,.slice (some ⟨a.gc,0,none⟩) 4 a.cc,.slice AL s.n cL,.slice AD qD cD]∧
 w.cell? ⟨a.g,0,none⟩=some (.int .i64 s.W)∧w.cell? ⟨a.g,1,none⟩=some (.int .i64 s.rk)∧w.cell? ⟨a.g,2,none⟩=some (.slice (some ⟨a.gf,0,none⟩) s.W a.cf)∧w.cell? ⟨a.g,3,none⟩=some (.slice (some ⟨a.gk,0,none⟩) s.W a.ck)∧w.cell? ⟨a.g,4,none⟩=some (.slice (some ⟨a.gc,0,none⟩) 4 a.cc)∧w.cell? ⟨a.g,5,none⟩=some (.slice AL s.n cL)∧w.cell? ⟨a.g,6,none⟩=some (.slice AD qD cD):=by
 obtain⟨xs,hx,_⟩:=H.l;obtain⟨AL,cL,hL⟩:=aE hx;obtain⟨q,_,xd,hd⟩:=H.d;obtain⟨AD,cD,hD⟩:=aE hd;refine⟨AL,cL,AD,q,cD,by unfold jP;rw[hL,hD],H.m.cell 0,H.m.cell 1,H.m.cell 2,H.m.cell 3,H.m.cell 4,(H.m.cell 5).trans (by rw[←hL];rfl),(H.m.cell 6).trans (by rw[←hD];rfl)⟩
end Go.Proofs.YtimlpmbabbbcaaaGreat
namespace Go.Proofs.YtimlpmbabbbcaaaGreat
open Go.RowKit
def adW (v:Value):Prop:=∃(a0 a1:Int) (A2 A3 A4 A5 A6:OA) (n2 c2 n3 c3 n4 c4 n5 c5 n6 c6:Nat),v=.agg #[.int .i64 a0,.int .i64 a1,.slice A2 n2 c2,.slice A3 n3 c3,.slice A4 n4 c4,.slice A5 n5 c5,.slice A6 n6 c6]
theorem l3.v {B:Nat}{v:Value}{s:aP}{w:World}(h:l3 B v s w):adW v:=by
 obtain⟨tg,⟨g0,gf,cf,gk,ck,gc,cc,F0,K0,L0,D0⟩,rfl,_,_,⟨⟨AL,nL,cL,hL⟩,⟨AD,nD,cD,hD⟩⟩,_⟩:=h;obtain rfl:L0=_:=hL;obtain rfl:D0=_:=hD;exact⟨_,_,_,_,_,_,_,_,_,_,_,_,_,_,_,_,_,rfl⟩
end Go.Proofs.YtimlpmbabbbcaaaGreat
namespace Go.Proofs.YtimlpmbabbbcaaaGreat
open Go.RowKit
theorem Za:(Tryz.prog.info? 49).map (fun i=>(i.zero,i.size,i.bytes))=some (some (.agg #[.int .i64 0,.int .i64 0]),2,16):=by kernel_rfl
def kY:List T.fU→List Int
 |[]=>[]
 |n::L=>n.1::n.2::kY L
theorem AG (L M:List T.fU):kY (L++M)=kY L++kY M:=by
 induction L with
 |nil=>rfl
 |cons n L ih=>simp only[List.cons_append,kY,ih]
theorem pq (L:List T.fU):(kY L).length=L.length*2:=by
 induction L with
 |nil=>rfl
 |cons n L ih=>simp only[kY,List.length_cons,ih];omega
theorem OP {L:List T.fU}{i:Nat}{n:T.fU}(h:L[i]?=some n):(kY L).getD (i*2) 0=n.1∧(kY L).getD (i*2+1) 0=n.2:=by
 induction L generalizing i with
 |nil=>simp at h
 |cons m L ih=>
  cases i with
  |zero=>
   simp only[List.getElem?_cons_zero,Option.some.injEq]at h
   subst h;exact⟨rfl,rfl⟩
  |succ i=>
   rw[List.getElem?_cons_succ]at h;obtain⟨h1,h2⟩:=ih h;rw[show(i+1)*2=i*2+1+1 from by omega];exact⟨h1,h2⟩
def NdP (w:World)(L:List T.fU)(e:Ending)(w':World):Prop:=∃v,e=.returned v∧w'.ownsRow w.heap.size 49 2 v L.length (ints (kY L))∧Below w.heap.size w w'
theorem adD {w:World}{B n c:Nat}{A:Option Addr}{L:List T.fU}(h:w.ownsRow B 49 2 (.slice A n c) n (ints (kY L))):Rd w A (n*2) (fun j=>.int .i64 ((kY L).getD j 0)):=fun h0=>by
 have hl:(kY L).length=n*2:=by have:=h.1;simpa [ints]using this
 rcases h.2 with⟨_,h1⟩|⟨g',cap,_,hg,_⟩
 ·omega
 injection hg with hA _ hc;subst hA;refine⟨g',0,rfl,(h.lt g' rfl).2,fun j hj=>?_⟩;rw[Nat.zero_add,h.cellAt j qo]
 simp[ints,List.getD,show j<(kY L).length by omega]
theorem KZ (W:Nat)(r:Int)(j:Nat):(T.dS W r j).length≤2*j:=by
 induction j with
 |zero=>simp[T.dS]
 |succ j ih=>
  simp only[T.dS,List.length_append]
  have h1:(T.mO W ((j:Int)-3)).length≤1:=by unfold T.mO;split<;>simp
  have h2:(T.bk1 W r ((j:Int)-3)).length≤1:=by unfold T.bk1;split<;>simp
  omega
section
variable {tg:Nat→Nat}{a:bV}{s:aP}{D:Nat}{w:World}
theorem zP29x0 {p:Prop}(h:p:=by
 go_wp2_with fail
 go_roundw
 case rel=>exact⟨j+1,by omega,congrArg (Value.int .i64) (by have h:=HX.o;omega),qh (by
  have h:=Q8.o;rw[tC.o,iC.o,dB.o,AG,aL]
  simpa [kY,ints,Nat.add_assoc]using h),wA⟩
 case measure=>
  show s.W+6-(x+1+3).toNat<s.W+6-(x+3).toNat;have h:=HX.o;omega):p:=h
theorem zP29x1 {p:Prop}(h:p:=by
 go_roundw
 case rel=>exact⟨j+1,by omega,congrArg (Value.int .i64) (by have h:=HX.o;omega),qh (by
  have h:=cI.o;rw[tC.o,iC.o,dB.o,AG,aL]
  simpa [kY,ints,Nat.add_assoc]using h),HB3⟩
 case measure=>
  show s.W+6-(x+1+3).toNat<s.W+6-(x+3).toNat;have h:=HX.o;omega):p:=h
theorem DU (H:Mem tg a s w)(hs:d8 s D):
 Calls Tryz.prog 152 #[.pointer (some ⟨a.g,0,none⟩)] w (NdP w (T.dS s.W s.rk (s.W+6))):=by
 obtain⟨i0,hi,iz,is,ib⟩:=info_parts Za;have HM:=qh H;have hw2:=hs.w2;have hr1:=hs.r1;have hr2:=hs.r2;have HO:=qh (World.ownsRow_made (e:=49) (size:=2) w #[] 0 ql qm rfl);have HB:=qh ((Below.refl w.heap.size w).alloc ql (.cells #[] 49));have HN:=qh (fun j=>show T.dS s.W s.rk (j+1)=T.dS s.W s.rk j++(T.mO s.W ((j:Int)-3)++T.bk1 s.W s.rk ((j:Int)-3))from rfl);have gK:=qh (KZ s.W s.rk);have HZ:=qh (show T.dS s.W s.rk 0=[]from rfl);clear H hs
 go_enter Tryz.func152,Tryz.ntmps152
 go_wp2_with fail
 go_loopw [3,4] (fun v y wr=>∃j:Nat,j≤s.W+6∧y=.int .i64 ((j:Int)-3)∧Hq (wr.ownsRow w.heap.size 49 2 v (T.dS s.W s.rk j).length (ints (kY (T.dS s.W s.rk j))))∧Hq (Below w.heap.size w wr)) (fun _ y _=>s.W+6-(intOf y+3).toNat)
 case atStart=>exact⟨0,Nat.zero_le _,qg,qh (by rw[HZ.o];exact HO.o),HB⟩
 case round=>
  clear HO HB;obtain⟨j,hj,rfl,jX,i3⟩:=hrel;have jT:=qh (HM.o.below i3.o);have m0:wr.cell? ⟨a.g,0,none⟩=some (.int .i64 s.W):=jT.o.m.cell 0;have hM:=gK.o j;have tC:=qh (HN.o j);obtain⟨x,hx⟩:∃x:Int,x=(j:Int)-3:=⟨_,rfl⟩;rw[←hx]at tC ⊢;obtain⟨L,hL⟩:=qx (T.dS s.W s.rk j);rw[←hL]at hM tC jX;have KE:=qh hL;clear hL
  by_cases hlt:j<s.W+6
  ·have b1:x<(s.W:Int)+3:=qo
   have m1:wr.cell? ⟨a.g,1,none⟩=some (.int .i64 s.rk):=jT.o.m.cell 1;have s1:IntKind.i64.wrap (x-s.rk)=x-s.rk:=IntWalk.i64_in _ qo;have s2:IntKind.i64.wrap ((s.W:Int)-1)=(s.W:Int)-1:=IntWalk.i64_in _ qo;have s3:IntKind.i64.wrap (x+1)=x+1:=IntWalk.i64_in _ qo;have qL:=qh (fun W:World=>bX x 0 ((s.W:Int)-1) W);have qK:=qh (fun W:World=>bX (x-s.rk) 0 ((s.W:Int)-1) W);have HX:=qh hx
   by_cases hf:0≤x∧x<(s.W:Int)
   ·by_cases hb:0≤x-s.rk∧x-s.rk<(s.W:Int)
    ·have gX:aJ x 0 ((s.W:Int)-1)=true:=by unfold aJ;simp;omega
     have hinc:aJ (x-s.rk) 0 ((s.W:Int)-1)=true:=by unfold aJ;simp;omega
     rw[gX]at qL;rw[hinc]at qK;have iC:=qh (show T.mO s.W x=[(1,x)]from if_pos hf);have dB:=qh (show T.bk1 s.W s.rk x=[(2,x-s.rk)]from if_pos hb);clear gX hinc hf hb hx
     go_wp2_with fail
     refine(qL.o _).mono ?_;rintro e w2 ⟨rfl,rfl⟩
     go_wp2_with (at_builtin;go_must (refine d5 _ rfl (.tmp 22) (.tmp 25) _ rfl w.heap.size 49 i0 _ 2 16 Tryz.underlying188 hi iz is ib rfl qo _ L.length _ rfl jX.o _ 1 1 [.int .i64 1,.int .i64 (x)] rfl rfl (by simp[Value.oneCell']) qm qo i3.o.size ?_);intro v' w' hown' hfr hat';have aI:=qh hown';have HB2:=qh (i3.o.trans (hfr.own jX.o i3.o.size));have x8:=qh (HM.o.below HB2.o);have n0:w'.cell? ⟨a.g,0,none⟩=some (.int .i64 s.W):=x8.o.m.cell 0;have n1:w'.cell? ⟨a.g,1,none⟩=some (.int .i64 s.rk):=x8.o.m.cell 1;clear hown' hfr hat')
     go_quiet ((go_at_call 58;exact Calls.quiet_of_same ((qK.o _).mono fun _ _ h=>⟨h.1,h.2.symm⟩)))
     rename_i nq
     have wA:=qh (Below.drewN' HB2.o nq);have Q8:=qh (own_drewN aI.o nq);have ZA:=qh (HM.o.below wA.o);have q1:(w'.drewN nq).cell? ⟨a.g,1,none⟩=some (.int .i64 s.rk):=ZA.o.m.cell 1
     go_wp2_with (at_builtin;go_must (refine d5 _ rfl (.tmp 39) (.tmp 47) _ rfl w.heap.size 49 i0 _ 2 16 Tryz.underlying188 hi iz is ib rfl qo _ (L.length+1) _ rfl Q8.o _ 1 1 [.int .i64 2,.int .i64 (x-s.rk)] rfl rfl (by simp[Value.oneCell']) qm qo wA.o.size ?_);intro v' w' hown' hfr hat';have cI:=qh hown';have HB3:=qh (wA.o.trans (hfr.own Q8.o wA.o.size));clear hown' hfr hat')
     exact zP29x1
    ·have gX:aJ x 0 ((s.W:Int)-1)=true:=by unfold aJ;simp;omega
     have hinc:aJ (x-s.rk) 0 ((s.W:Int)-1)=false:=by unfold aJ;rw[Bool.and_eq_false_iff,decide_eq_false_iff_not,decide_eq_false_iff_not];omega
     rw[gX]at qL;rw[hinc]at qK;have iC:=qh (show T.mO s.W x=[(1,x)]from if_pos hf);have dB:=qh (show T.bk1 s.W s.rk x=[]from if_neg hb);clear gX hinc hf hb hx
     go_wp2_with fail
     refine(qL.o _).mono ?_;rintro e w2 ⟨rfl,rfl⟩
     go_wp2_with (at_builtin;go_must (refine d5 _ rfl (.tmp 22) (.tmp 25) _ rfl w.heap.size 49 i0 _ 2 16 Tryz.underlying188 hi iz is ib rfl qo _ L.length _ rfl jX.o _ 1 1 [.int .i64 1,.int .i64 (x)] rfl rfl (by simp[Value.oneCell']) qm qo i3.o.size ?_);intro v' w' hown' hfr hat';have aI:=qh hown';have HB2:=qh (i3.o.trans (hfr.own jX.o i3.o.size));have x8:=qh (HM.o.below HB2.o);have n0:w'.cell? ⟨a.g,0,none⟩=some (.int .i64 s.W):=x8.o.m.cell 0;have n1:w'.cell? ⟨a.g,1,none⟩=some (.int .i64 s.rk):=x8.o.m.cell 1;clear hown' hfr hat')
     go_quiet ((go_at_call 58;exact Calls.quiet_of_same ((qK.o _).mono fun _ _ h=>⟨h.1,h.2.symm⟩)))
     rename_i nq
     have wA:=qh (Below.drewN' HB2.o nq);have Q8:=qh (own_drewN aI.o nq);have ZA:=qh (HM.o.below wA.o);have q1:(w'.drewN nq).cell? ⟨a.g,1,none⟩=some (.int .i64 s.rk):=ZA.o.m.cell 1
     exact zP29x0
   ·by_cases hb:0≤x-s.rk∧x-s.rk<(s.W:Int)
    ·have gX:aJ x 0 ((s.W:Int)-1)=false:=by unfold aJ;rw[Bool.and_eq_false_iff,decide_eq_false_iff_not,decide_eq_false_iff_not];omega
     have hinc:aJ (x-s.rk) 0 ((s.W:Int)-1)=true:=by unfold aJ;simp;omega
     rw[gX]at qL;rw[hinc]at qK;have iC:=qh (show T.mO s.W x=[]from if_neg hf);have dB:=qh (show T.bk1 s.W s.rk x=[(2,x-s.rk)]from if_pos hb);clear gX hinc hf hb hx
     go_wp2_with fail
     refine(qL.o _).mono ?_;rintro e w2 ⟨rfl,rfl⟩
     go_wp2_with fail
     go_quiet ((go_at_call 58;exact Calls.quiet_of_same ((qK.o _).mono fun _ _ h=>⟨h.1,h.2.symm⟩)))
     rename_i nq
     have wA:=qh (Below.drewN' i3.o nq);have Q8:=qh (own_drewN jX.o nq);have ZA:=qh (HM.o.below wA.o);have q1:(wr.drewN nq).cell? ⟨a.g,1,none⟩=some (.int .i64 s.rk):=ZA.o.m.cell 1
     go_wp2_with (at_builtin;go_must (refine d5 _ rfl (.tmp 39) (.tmp 47) _ rfl w.heap.size 49 i0 _ 2 16 Tryz.underlying188 hi iz is ib rfl qo _ L.length _ rfl Q8.o _ 1 1 [.int .i64 2,.int .i64 (x-s.rk)] rfl rfl (by simp[Value.oneCell']) qm qo wA.o.size ?_);intro v' w' hown' hfr hat';have cI:=qh hown';have HB3:=qh (wA.o.trans (hfr.own Q8.o wA.o.size));clear hown' hfr hat')
     exact zP29x1
    ·have gX:aJ x 0 ((s.W:Int)-1)=false:=by unfold aJ;rw[Bool.and_eq_false_iff,decide_eq_false_iff_not,decide_eq_false_iff_not];omega
     have hinc:aJ (x-s.rk) 0 ((s.W:Int)-1)=false:=by unfold aJ;rw[Bool.and_eq_false_iff,decide_eq_false_iff_not,decide_eq_false_iff_not];omega
     rw[gX]at qL;rw[hinc]at qK;have iC:=qh (show T.mO s.W x=[]from if_neg hf);have dB:=qh (show T.bk1 s.W s.rk x=[]from if_neg hb);clear gX hinc hf hb hx
     go_wp2_with fail
     refine(qL.o _).mono ?_;rintro e w2 ⟨rfl,rfl⟩
     go_wp2_with fail
     go_quiet ((go_at_call 58;exact Calls.quiet_of_same ((qK.o _).mono fun _ _ h=>⟨h.1,h.2.symm⟩)))
     rename_i nq
     have wA:=qh (Below.drewN' i3.o nq);have Q8:=qh (own_drewN jX.o nq);have ZA:=qh (HM.o.below wA.o);have q1:(wr.drewN nq).cell? ⟨a.g,1,none⟩=some (.int .i64 s.rk):=ZA.o.m.cell 1
     exact zP29x0
  ·obtain rfl:j=s.W+6:=qo
   have b1:¬x<(s.W:Int)+3:=qo;have HO:=qh (show wr.ownsRow w.heap.size 49 2 u3 (T.dS s.W s.rk (s.W+6)).length (ints (kY (T.dS s.W s.rk (s.W+6))))from by rw[←KE.o];exact jX.o)
   go_wp2_with fail
   go_ret
   exact⟨_,rfl,HO.o,i3.o⟩
end
theorem Ik (x0 x1 y0 y1:Int)(w:World):(binOp .eql 49 (.agg #[.int .i64 x0,.int .i64 x1]) (.agg #[.int .i64 y0,.int .i64 y1])).run Tryz.prog w=.ok (.bool (decide ((x0,x1)=(y0,y1)))) w:=by
 rw[run_eql_struct,run_equalIn_agg _ _ _ _ _ qk qk]
 simp[Program.fieldsOf,Tryz.underlying49,Op.eqFields,go_sem]
 repeat' split
 all_goals simp_all
theorem xT (x0 x1 y0 y1:Int)(w:World):(binOp .neq 49 (.agg #[.int .i64 x0,.int .i64 x1]) (.agg #[.int .i64 y0,.int .i64 y1])).run Tryz.prog w=.ok (.bool (!decide ((x0,x1)=(y0,y1)))) w:=by
 rw[run_neq_struct,run_equalIn_agg _ _ _ _ _ qk qk]
 simp[Program.fieldsOf,Tryz.underlying49,Op.eqFields,go_sem]
 repeat' split
 all_goals simp_all
theorem FW {s:aP}{n:T.fU}(h:T.EW s.W n):T.FX s.f s.k n=aU s n.1 n.2:=by
 unfold T.FX aU
 rcases h.1 with h1|h1
 ·rw[if_neg qo,if_pos h1]
 ·rw[if_pos h1,if_neg qo]
theorem N6 {s:aP}{D:Nat}(hs:d8 s D){L:List T.fU}(h:∀n∈L,T.EW s.W n):T.gD s.f s.k L≤4*L.length:=by
 induction L with
 |nil=>exact Nat.le_refl _
 |cons n L ih=>
  have h1:=h n (List.mem_cons_self ..);have h2:=ih fun m hm=>h m (List.mem_cons_of_mem _ hm);have h3:=cY (b:=n.1) hs h1.2.1 h1.2.2
  simp only[T.gD,List.length_cons,FW h1]
  omega
theorem FV {f k:Nat→Nat}{L:List T.fU}{i:Nat}{n:T.fU}(h:L[i]?=some n):T.gD f k (L.take (i+1))=T.gD f k (L.take i)+T.FX f k n:=by
 rw[List.take_add_one,T.D9,h]
 rfl
theorem W3 {w:World}{A:Option Addr}{L:List T.fU}(h:Rd w A (L.length*2) (fun j=>.int .i64 ((kY L).getD j 0))){i:Nat}{n:T.fU}(hi:L[i]?=some n):∃g o,A=some ⟨g,o,none⟩∧g<w.heap.size∧w.cell? ⟨g,o+i*2,none⟩=some (.int .i64 n.1)∧w.cell? ⟨g,o+i*2+1,none⟩=some (.int .i64 n.2):=by
 have hl:i<L.length:=(List.getElem?_eq_some_iff.1 hi).1;obtain⟨g,o,e,hg,hr⟩:=h qo;have h1:w.cell? ⟨g,o+i*2,none⟩=some (.int .i64 ((kY L).getD (i*2) 0)):=hr (i*2) qo;have h2:w.cell? ⟨g,o+(i*2+1),none⟩=some (.int .i64 ((kY L).getD (i*2+1) 0)):=hr (i*2+1) qo;rw[(OP hi).1]at h1;rw[(OP hi).2,←Nat.add_assoc]at h2;exact⟨g,o,e,hg,h1,h2⟩
section
variable {tg:Nat→Nat}{a:bV}{s:aP}{D:Nat}{w:World}
theorem rN (b x:Int)(H:Mem tg a s w)(hs:d8 s D)(hb:b=1∨b=2)(h0:0≤x)(h1:x<s.W):
 Calls Tryz.prog 104 #[.pointer (some ⟨a.g,0,none⟩),.agg #[.int .i64 b,.int .i64 x]] w fun e w'=>e=.returned (.int .i64 (jA s b x:Nat))∧Below w.heap.size w w':=by
 obtain⟨P,R,hL,hP,hN⟩:=T.Mg s.f s.k hb h0 h1 (show-3≤s.rk∧s.rk≤3 from⟨hs.r1,hs.r2⟩);have HS:=qh hs;have hg:Below w.heap.size w (w.alloc (.cells #[.int .i64 b,.int .i64 x] 49)):=qb;have HB1:=qh hg;have fD:=qh (H.below hg);have HX:=qh (aG.at_ (g':=w.heap.size) w 49 #[.int .i64 b,.int .i64 x] rfl);have vM:=qh (DU fD.o hs);have rD:=qh (fun n (hn:n∈T.dS s.W s.rk (s.W+6))=>(T.wH hn).1);have hw2:=hs.w2;have hle:=KZ s.W s.rk (s.W+6);obtain⟨L,hLe⟩:=qx (T.dS s.W s.rk (s.W+6));rw[←hLe]at vM rD hL hle;have HL:=qh hL;have HP:=qh hP;have agl:=qh (show T.gD s.f s.k P=jA s b x from hN);have hpl:P.length<L.length:=by rw[hL];simp
 have HAT:=qh (show L[P.length]?=some (b,x)from by rw[hL];simp);have vY:=qh (show L.take P.length=P from by rw[hL];simp);have lO:=qh (fun i (hi:i<P.length) n (hn:L[i]?=some n)=>show n≠(b,x)from fun e=>HP.o (by
  rw[HL.o,List.getElem?_append_left hi]at hn;rw[←e];exact List.mem_of_getElem? hn))
 clear hL hP hN hLe hg H hs h0 h1 hb
 go_enter Tryz.func104,Tryz.ntmps104
 go_wp2_with fail
 refine vM.o.mono ?_;rintro e w2 ⟨v,rfl,ho,hb2⟩;obtain⟨A,c,rfl⟩:=aE ho;have hJ:=qh (adD ho);have HB2:=HB1.st hb2;have dA:=qh (fD.o.below hb2);have dP:=qh (HX.o.below hb2 HX.o.lt);clear ho hb2 vM
 go_wp2_with fail
 go_loopw [5,11] (fun v y wr=>∃k:Nat,k≤P.length∧y=.int .i64 k∧v=.int .i64 (T.gD s.f s.k (L.take k):Nat)∧Hq (Below w2.heap.size w2 wr)) (fun _ y _=>L.length-(intOf y).toNat)
 case atStart=>exact⟨0,Nat.zero_le _,rfl,rfl,qh (Below.refl _ _)⟩
 case round=>
  obtain⟨k,hk,rfl,rfl,i3⟩:=hrel;have hkl:k<L.length:=qo;obtain⟨n,hn⟩:∃n,L[k]?=some n:=⟨_,List.getElem?_eq_getElem hkl⟩;obtain⟨ga,o,rfl,hga,r0,r1⟩:=W3 (hJ.o.below i3.o) hn;have rK:=qh (rD.o n (List.mem_of_getElem? hn));have rQ:=qh (FW rK.o);have hsum:=N6 HS.o (L:=L.take k) (fun m hm=>rD.o m (List.mem_of_mem_take hm));have cB:=qh (FV (f:=s.f) (k:=s.k) hn);have Nt:=qh hn;have hmin:(L.take k).length≤L.length:=by simp;omega
  obtain⟨S,hS⟩:=qx (T.gD s.f s.k (L.take k));rw[←hS]at hsum cB ⊢;have DK:=qh hS;obtain⟨nb,na⟩:=n;have r0:wr.cell? ⟨ga,o+k*2,none⟩=some (.int .i64 nb):=r0;have r1:wr.cell? ⟨ga,o+k*2+1,none⟩=some (.int .i64 na):=r1;have t0:(wr.alloc (.cells #[.int .i64 nb,.int .i64 na] 49)).cell? ⟨w.heap.size,0,none⟩=some (.int .i64 b):=(dP.o.below (i3.o.alloc i3.o.size _) dP.o.lt).cell 0;have t1:(wr.alloc (.cells #[.int .i64 nb,.int .i64 na] 49)).cell? ⟨w.heap.size,1,none⟩=some (.int .i64 x):=(dP.o.below (i3.o.alloc i3.o.size _) dP.o.lt).cell 1;have nJ:=fun W=>Ik nb na b x W
  by_cases hlt:k<P.length
  ·have ZN:=qh (show decide ((nb,na)=(b,x))=false from decide_eq_false (lO.o k hlt _ Nt.o))
   rw[ZN.o]at nJ;have mT:=qh (dA.o.below (i3.o.alloc i3.o.size (.cells #[.int .i64 nb,.int .i64 na] 49)));have hon:=dJ nb na mT.o rK.o.1 rK.o.2.1 rK.o.2.2;have TM:=qh hon;obtain⟨AF,cF,nS⟩:=(mT.o.nP (b:=nb) rK.o.2.1 rK.o.2.2).form;have hb4:=cY (b:=nb) HS.o rK.o.2.1 rK.o.2.2;have lF:=qh nS;have iO:=qh hlt;clear hS hn hon nS hga hlt
   go_wp2_with fail
   refine TM.o.mono ?_;rintro e w5 ⟨rfl,hb5⟩;have nG:=qh (mT.o.below hb5);have kc:=nG.o.eL (b:=nb) rK.o.2.1 rK.o.2.2;rw[lF.o]at kc;have bG:=qh ((i3.o.alloc i3.o.size (.cells #[.int .i64 nb,.int .i64 na] 49)).trans (hb5.mono (Nat.le_trans i3.o.size qj)));have yY:=qh (show aU s nb na=T.FX s.f s.k (nb,na)from rQ.o.symm);obtain⟨K,hK⟩:=qx (aU s nb na);rw[←hK]at kc hb4 yY;clear hb5 hK TM
   go_wp2_with fail
   go_roundw
   case rel=>exact⟨k+1,iO.o,qg,by rw[cB.o,←yY.o];go_num,bG⟩
   case measure=>exact qs
  ·obtain rfl:k=P.length:=qo
   have ZN:=qh (show decide ((nb,na)=(b,x))=true from decide_eq_true (by
    have h:=Nt.o;rw[HAT.o]at h;injection h with h;exact h.symm))
   rw[ZN.o]at nJ;have fW:=qh (HB2.o.trans ((i3.o.alloc i3.o.size (.cells #[.int .i64 nb,.int .i64 na] 49)).mono HB2.o.size));have HR:=qh (show S=jA s b x from by rw[DK.o,vY.o];exact agl.o);clear hS hn hga
   go_wp2_with fail
   go_ret
   exact⟨by rw[←HR.o];rfl,fW.o⟩
end
theorem xG {w:World}{A:Option Addr}{c:Nat}{L P R:List T.fU}{b x:Int}(hL:L=P++(b,x)::R)(hn:(b,x)∉P)(hrd:Rd w A (L.length*2) (fun j=>.int .i64 ((kY L).getD j 0)))(hl:L.length≤1000):
 Calls Tryz.prog 186 #[.slice A L.length c,.agg #[.int .i64 b,.int .i64 x]] w fun e w'=>e=.returned (.int .i64 P.length)∧Below w.heap.size w w':=by
 have hpl:P.length<L.length:=by rw[hL];simp
 have HAT:=qh (show L[P.length]?=some (b,x)from by rw[hL];simp);have lO:=qh (fun i (hi:i<P.length) n (hn':L[i]?=some n)=>show n≠(b,x)from fun e=>hn (by
  rw[hL,List.getElem?_append_left hi]at hn';rw[←e];exact List.mem_of_getElem? hn'))
 have hJ:=qh hrd;have HX:=qh (aG.at_ (g':=w.heap.size) w 49 #[.int .i64 b,.int .i64 x] rfl);have HB:=qh ((Below.refl w.heap.size w).alloc ql (.cells #[.int .i64 b,.int .i64 x] 49));clear hL hn hrd
 go_enter Tryz.func186,Tryz.ntmps186
 go_wp2_with fail
 go_loopw [8] (fun y wr=>∃k:Nat,k≤P.length∧y=.int .i64 k∧Hq (Below (w.alloc (.cells #[.int .i64 b,.int .i64 x] 49)).heap.size (w.alloc (.cells #[.int .i64 b,.int .i64 x] 49)) wr)) (fun y _=>L.length-(intOf y).toNat)
 case atStart=>exact⟨0,Nat.zero_le _,rfl,qh (Below.refl _ _)⟩
 case round=>
  obtain⟨k,hk,rfl,i3⟩:=hrel;have hkl:k<L.length:=qo;obtain⟨n,hn⟩:∃n,L[k]?=some n:=⟨_,List.getElem?_eq_getElem hkl⟩;have wA:=qh (HB.o.trans (i3.o.mono HB.o.size));obtain⟨ga,o,rfl,hga,r0,r1⟩:=W3 (hJ.o.below wA.o) hn;have Nt:=qh hn;obtain⟨nb,na⟩:=n;have r0:wr.cell? ⟨ga,o+k*2,none⟩=some (.int .i64 nb):=r0;have r1:wr.cell? ⟨ga,o+k*2+1,none⟩=some (.int .i64 na):=r1;have t0:wr.cell? ⟨w.heap.size,0,none⟩=some (.int .i64 b):=(HX.o.below i3.o HX.o.lt).cell 0;have t1:wr.cell? ⟨w.heap.size,1,none⟩=some (.int .i64 x):=(HX.o.below i3.o HX.o.lt).cell 1;have nJ:=fun W=>Ik b x nb na W
  by_cases hlt:k<P.length
  ·have ZN:=qh (show decide ((b,x)=(nb,na))=false from decide_eq_false fun e=>lO.o k hlt _ Nt.o e.symm)
   rw[ZN.o]at nJ;clear hn hga
   go_wp2_with fail
   go_quiet (fail)
   rename_i nq
   have HBn:=qh (Below.drewN' i3.o nq)
   go_wp2_with fail
   go_roundw
   case rel=>exact⟨k+1,by omega,qg,HBn⟩
   case measure=>exact qs
  ·obtain rfl:k=P.length:=qo
   have ZN:=qh (show decide ((b,x)=(nb,na))=true from decide_eq_true (by
    have h:=Nt.o;rw[HAT.o]at h;injection h))
   rw[ZN.o]at nJ;clear hn hga
   go_wp2_with fail
   go_quiet (fail)
   rename_i nq
   have fW:=qh (Below.drewN' wA.o nq)
   go_wp2_with fail
   go_ret
   exact⟨rfl,fW.o⟩
end Go.Proofs.YtimlpmbabbbcaaaGreat
