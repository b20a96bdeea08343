/- Walks and plain lemmas. -/
import Derived.Test.YtdnmhhohcedjbaaGreatQ47
set_option linter.unusedVariables false
set_option linter.unusedSimpArgs false
set_option maxHeartbeats 4000000
set_option maxRecDepth 20000
namespace Go.Proofs.YtdnmhhohcedjbaaGreat
open Go.RowKit
section
variable (W:Int)(A:OA)(n q:Nat)(z:Nat→Int)(B:OA)(m p:Nat)(y:Nat→Int)(w:World)
theorem aai (ha:Rd w A (n*8) (fun j=>.int .i64 (z j)))(hb:Rd w B (m*6) (fun j=>.int .i64 (y j)))(hn:n≤1048576)(hq:n≤q)(hm:m≤1048576):Calls Tryz.prog 27 #[.int .i64 W,.slice A n q,.slice B m p] w (FwP w W z n y m):=by
 have hr:=KF W A n q z w ha hn;have HA:=qh ha;have HB:=qh hb;have wh:∀(fn:Fn) (first c:Array Value) (w:World),(Instr.makeFunc fn first c).run Tryz.prog w=.ok (.func fn first c) w:=fun _ _ _ _=>rfl;clear ha hb
 by_cases hc:codeOf W z n=0
 ·obtain⟨W,rfl,hW1,hW2,oG,hops,hok⟩:=wR hc
  have HFC:=qh (show R0 (W:Int) z n y m=if(R5 y m).isSome=true then(if(iI y m).isSome=true∧(lE (W:Int).toNat z n).isSome=true∧qN (W:Int).toNat z n (kI z n)=true then 0 else 5)else 1 from if_pos hc);rw[Int.toNat_natCast]at HFC;have qG:=qh hc;rw[hc]at hr;have HR:=qh hr;have dT:=qh hops;have iV:=qh hok;clear hc hr hops hok;have HVE:=qh (fun w' (h:Below w.heap.size w w')=>abR B m p y w' (HB.o.below h) hm)
  cases hcn:(R5 y m).isSome with
  |false=>
   rw[hcn]at HVE HFC;have R2:=qh (show R0 (W:Int) z n y m=1 from HFC.o.trans (if_neg (by decide)));clear hcn
   go_enter Tryz.func27,Tryz.ntmps27
   go_wp2_with fail
   refine HR.o.mono ?_;rintro e w1 ⟨rfl,hb1⟩;have HB1:=qh hb1;clear hb1
   go_wp2_with fail
   refine(HVE.o _ HB1.o).mono ?_;rintro e w2 ⟨rfl,hb2⟩;have HB2:=HB1.st hb2;clear hb2
   go_wp2_with fail
   go_ret2
   exact FwP.no R2.o (by decide) rfl HB2.o
  |true=>
   obtain⟨hm2,hcv⟩:=acP hcn;have HCV:=qh hcv;rw[hcn]at HVE HFC;have R2:=qh (show R0 (W:Int) z n y m=if(iI y m).isSome=true∧(lE W z n).isSome=true∧qN W z n (kI z n)=true then 0 else 5 from HFC.o.trans (if_pos rfl));clear hcn hcv HFC
   go_enter Tryz.func27,Tryz.ntmps27
   go_wp2_with fail
   refine HR.o.mono ?_;rintro e w1 ⟨rfl,hb1⟩;have HB1:=qh hb1;clear hb1
   go_wp2_with fail
   refine(HVE.o _ HB1.o).mono ?_;rintro e w2 ⟨rfl,hb2⟩;have HB2:=HB1.st hb2;have CM:=qh (Fh B m p y w2 (HB.o.below HB2.o) hm2 HCV.o);clear hb2
   go_wp2_with fail
   refine CM.o.mono ?_;rintro e w3 hx3;obtain⟨hb3,hr3⟩:=JI.of HCV.o hm2 (Below.refl w2.heap.size w2) hx3;have HB3:=HB2.st hb3;have TN:=qh hb3.size;clear hb3 hx3
   cases hF:iI y m with
   |none=>
    rw[hF]at hr3 R2;have Qi:=qh (show R0 (W:Int) z n y m=5 from R2.o.trans (if_neg fun h=>by cases h.1));obtain rfl:e=.returned (.tuple #[.slice none 0 0,.int .i64 5]):=hr3;clear hF
    go_wp2_with fail
    go_ret2
    exact FwP.no Qi.o (by decide) rfl (HB3.o.alloc HB3.o.size _)
   |some goal=>
    have mN:=qh (show abE y m=goal from by unfold abE;rw[hF];rfl);rw[hF]at hr3 R2;obtain⟨A5,c5,he,hk5⟩:=hr3;subst he;have xD:=qh hk5;clear hF hk5
    go_upto_region 7 with(fail)
    obtain⟨w4,hw4⟩:=qx (w3.alloc (.cells #[.slice A5 goal.length c5] 68));rw[←hw4];obtain⟨g9,hg9⟩:=qx (w3.heap.size);rw[←hg9];have hb4:Below w3.heap.size w3 w4:=hw4▸qb;have agX:=qh hb4;have H9:Hq (aB w4 g9 68 #[.slice A5 goal.length c5]):=qh (hw4▸aB.at_ _ _ _ hg9);have HG9:=qh hg9;have aR:=HB3.st hb4;have HFO:=qh (AH W A n q z w4 (HA.o.below aR.o) hW1 hW2 oG dT.o iV.o);clear hw4 hg9 hb4
    go_wp2_with fail
    refine HFO.o.mono ?_;rintro e w5 ⟨hb5,qW⟩;have adI:=qh hb5;have aZ:=aR.st hb5;clear hb5
    cases hF:lE W z n with
    |none=>
     rw[hF]at qW R2;have Qi:=qh (show R0 (W:Int) z n y m=5 from R2.o.trans (if_neg fun h=>by cases h.2.1));obtain rfl:e=.returned (.tuple #[.slice none 0 0,.int .i64 5]):=qW;clear hF
     go_wp2_with fail
     go_ret2
     exact FwP.no Qi.o (by decide) rfl aZ.o
    |some own=>
     rw[hF]at qW R2;obtain⟨A7,c7,he,_⟩:=qW;subst he;clear hF
     go_upto_region 13 with(fail)
     obtain⟨wa,lZ⟩:=qx (w5.alloc (.cells #[] 30));rw[←lZ];obtain⟨wb,hwb⟩:=qx (wa.alloc (.cells #[.slice (some ⟨w5.heap.size,0,none⟩) 0 0] 41));rw[←hwb];obtain⟨g11,adl⟩:=qx (w5.heap.size+1);rw[←adl];have hsa:wa.heap.size=w5.heap.size+1:=by rw[lZ];simp
     have hba:Below w5.heap.size w5 wa:=lZ▸qb;have hbb:Below wa.heap.size wa wb:=hwb▸qb;have ab5:=hba.trans (hbb.mono hba.size);have dX:=aZ.st ab5;have ho:wa.ownsRow w5.heap.size 30 2 (.slice (some ⟨w5.heap.size,0,none⟩) 0 0) 0 (ints []):=lZ▸oA w5 [] 0 ql (Nat.zero_le _) rfl;have h6:aB wb g11 41 #[.slice (some ⟨w5.heap.size,0,none⟩) 0 0]:=hwb▸aB.at_ _ _ _ (by rw[adl,hsa]);have s2:=HB2.o.size;have s3:=TN.o;have s4:=agX.o.size;have s5:=adI.o.size;have g9e:=HG9.o;have h9l:=H9.o.lt;have hLI:RB w.heap.size g11 (hfs W z n goal) 0 (fun b=>b=g11∨(Value.slice (some ⟨w5.heap.size,0,none⟩) 0 0).ownBlock=some b) wb:=⟨_,0,h6,eF (own_below ho hbb) aZ.o.size,rfl,Nat.le_refl _,fun b hb=>by
      have e:=Option.some.inj hb
      simp only at e
      omega,rfl⟩
     have HGI:=qh (show acs w.heap.size g9 g11 w2.heap.size w3.heap.size (hfs W z n goal) (.slice A5 goal.length c5) goal 0 _ wb from⟨_,hLI,((H9.o.below adI.o h9l).below ab5 qo),((xD.o.below agX.o).below (adI.o.mono s4)).below (ab5.mono qo),(by have:=ab5.size;omega),fun b hb=>by
      rcases hb with hb|hb
      ·exact⟨by omega,by omega⟩
      ·have e:=Option.some.inj hb
       simp only at e
       exact⟨by omega,by omega⟩,rfl⟩)
     have ZW:=qh (US W A n q z wb 55 Tryz.call55 #[.pointer (some ⟨g9,0,none⟩),.pointer (some ⟨g11,0,none⟩)] _ w.heap.size _ (adn qo qo qo) HGI.o dX.o.size
      (fun k C wc A5' c5' o hk h1 hI hK=>ac3 W z n w.heap.size g9 g11 _ _ A5 c5 goal qo qo k C wc A5' c5' o hk h1 hI hK) (fun W' hb=>HA.o.below (dX.o.trans hb)) hW1 hW2 oG hq dT.o iV.o qG.o)
     obtain⟨cd,hcd⟩:=qx (yx W z n);have HCQ:=qh (show R0 (W:Int) z n y m=cd from by
      rw[hcd,R2.o];unfold yx
      by_cases h:qN W z n (kI z n)=true
      ·rw[if_pos ⟨rfl,rfl,h⟩,if_pos h]
      ·rw[if_neg fun h'=>h h'.2.2,if_neg h])
     have yH:=qh (show cd=0→qN W z n (kI z n)=true from fun h=>by
      rw[hcd]at h;unfold yx at h
      by_cases h':qN W z n (kI z n)=true
      ·exact h'
      ·rw[if_neg h']at h
       cases h)
     unfold af6 at ZW;rw[←hcd]at ZW;clear lZ hwb adl hsa hba hbb ab5 ho h6 s2 s3 s4 s5 g9e h9l hLI hcd
     by_cases h0:cd=0
     ·have ajK:=qh (yH.o h0)
      subst h0
      go_wp2_with fail
      refine ZW.o.mono ?_;rintro e w6 ⟨rfl,hb6,Lu⟩;obtain⟨C,C',⟨v,M,b6,ho,hl,hm6,hd,hC⟩,_⟩:=Lu ajK.o;obtain⟨A6,c6,rfl⟩:=aF ho;have bG:=qh (dX.o.trans hb6);have HO:=qh ho;have lA:=qh hl;have x6:=qc b6 0 rfl;clear hb6 Lu b6 ho hl hd hC
      go_wp2_with fail
      go_ret2
      exact FwP.ok HCQ.o (by rw[mN.o,Int.toNat_natCast]) lA.o rfl HO.o bG.o
     ·have jH:=qh h0
      have hc1:(cd==0)=false:=by simpa using h0
      clear h0
      go_wp2_with fail
      refine ZW.o.mono ?_;rintro e w6 ⟨rfl,hb6,Lu⟩;have bG:=qh (dX.o.trans hb6);clear hb6 Lu
      go_wp2_with fail
      go_ret2
      exact FwP.no HCQ.o jH.o rfl bG.o
 ·obtain⟨cd,hcd⟩:=qx (codeOf W z n)
  have HC:=qh (show R0 W z n y m=cd from(if_neg hc).trans hcd.symm);rw[←hcd]at hr hc;have hc1:(cd==0)=false:=by simpa using hc
  have jH:=qh hc;have HR:=qh hr;clear hc hr hcd
  go_enter Tryz.func27,Tryz.ntmps27
  go_wp2_with fail
  refine HR.o.mono ?_;rintro e w1 ⟨rfl,hb1⟩;have HB1:=qh hb1;clear hb1
  go_wp2_with fail
  go_ret2
  exact FwP.no HC.o jH.o rfl HB1.o
end
end Go.Proofs.YtdnmhhohcedjbaaGreat
