/- Walks and plain lemmas. -/
import Derived.Test.YtdnmhhohcedjbaaGreatQ32
set_option linter.unusedVariables false
set_option linter.unusedSimpArgs false
set_option maxHeartbeats 4000000
set_option maxRecDepth 20000
namespace Go.Proofs.YtdnmhhohcedjbaaGreat
open Go.RowKit
theorem Jm (x0 x1 y0 y1:Int)(w:World):(binOp .eql 65 (.agg #[.int .i64 x0,.int .i64 x1]) (.agg #[.int .i64 y0,.int .i64 y1])).run Tryz.prog w=.ok (.bool (decide ((x0,x1)=(y0,y1)))) w:=by
 rw[run_eql_struct,run_equalIn_agg _ _ _ _ _ qk qk]
 simp[Program.fieldsOf,Tryz.underlying65,Op.eqFields,go_sem]
 repeat' split
 all_goals simp_all
theorem wI (x0 x1 y0 y1:Int)(w:World):(binOp .neq 65 (.agg #[.int .i64 x0,.int .i64 x1]) (.agg #[.int .i64 y0,.int .i64 y1])).run Tryz.prog w=.ok (.bool (!decide ((x0,x1)=(y0,y1)))) w:=by
 rw[run_neq_struct,run_equalIn_agg _ _ _ _ _ qk qk]
 simp[Program.fieldsOf,Tryz.underlying65,Op.eqFields,go_sem]
 repeat' split
 all_goals simp_all
theorem ER {s:aI}{n:T.eV}(h:T.DZ s.W n):T.ES s.f s.k n=aM s n.1 n.2:=by
 unfold T.ES aM
 rcases h.1 with h1|h1
 ·rw[if_neg qo,if_pos h1]
 ·rw[if_pos h1,if_neg qo]
theorem M7 {s:aI}{D:Nat}(hs:bW s D){L:List T.eV}(h:∀n∈L,T.DZ s.W n):T.fG s.f s.k L≤4*L.length:=by
 induction L with
 |nil=>exact Nat.le_refl _
 |cons n L ih=>
  have h1:=h n (List.mem_cons_self ..);have h2:=ih fun m hm=>h m (List.mem_cons_of_mem _ hm);have h3:=bT (b:=n.1) hs h1.2.1 h1.2.2
  simp only[T.fG,List.length_cons,ER h1]
  omega
theorem EQ {f k:Nat→Nat}{L:List T.eV}{i:Nat}{n:T.eV}(h:L[i]?=some n):T.fG f k (L.take (i+1))=T.fG f k (L.take i)+T.ES f k n:=by
 rw[List.take_add_one,T.BW,h]
 rfl
theorem WA {w:World}{A:Option Addr}{L:List T.eV}(h:Rd w A (L.length*2) (fun j=>.int .i64 ((jK L).getD j 0))){i:Nat}{n:T.eV}(hi:L[i]?=some n):∃g o,A=some ⟨g,o,none⟩∧g<w.heap.size∧w.cell? ⟨g,o+i*2,none⟩=some (.int .i64 n.1)∧w.cell? ⟨g,o+i*2+1,none⟩=some (.int .i64 n.2):=by
 have hl:i<L.length:=(List.getElem?_eq_some_iff.1 hi).1;obtain⟨g,o,e,hg,hr⟩:=h qo;have h1:w.cell? ⟨g,o+i*2,none⟩=some (.int .i64 ((jK L).getD (i*2) 0)):=hr (i*2) qo;have h2:w.cell? ⟨g,o+(i*2+1),none⟩=some (.int .i64 ((jK L).getD (i*2+1) 0)):=hr (i*2+1) qo;rw[(NT hi).1]at h1;rw[(NT hi).2,←Nat.add_assoc]at h2;exact⟨g,o,e,hg,h1,h2⟩
section
variable {tg:Nat→Nat}{a:bC}{s:aI}{D:Nat}{w:World}
theorem qY (b x:Int)(H:Mem tg a s w)(hs:bW s D)(hb:b=1∨b=2)(h0:0≤x)(h1:x<s.W):
 Calls Tryz.prog 126 #[.pointer (some ⟨a.g,0,none⟩),.agg #[.int .i64 b,.int .i64 x]] w fun e w'=>e=.returned (.int .i64 (iH s b x:Nat))∧Below w.heap.size w w':=by
 obtain⟨P,R,hL,hP,hN⟩:=T.Ny s.f s.k hb h0 h1 (show-3≤s.rk∧s.rk≤3 from⟨hs.r1,hs.r2⟩);have HS:=qh hs;have hg:Below w.heap.size w (w.alloc (.cells #[.int .i64 b,.int .i64 x] 65)):=qb;have HB1:=qh hg;have bZ:=qh (H.below hg);have HX:=qh (aB.at_ (g':=w.heap.size) w 65 #[.int .i64 b,.int .i64 x] rfl);have eR:=qh (CS bZ.o hs);have gV:=qh (fun n (hn:n∈T.d9 s.W s.rk (s.W+6))=>(T.tY hn).1);have hw2:=hs.w2;have hle:=JT s.W s.rk (s.W+6);obtain⟨L,hLe⟩:=qx (T.d9 s.W s.rk (s.W+6));rw[←hLe]at eR gV hL hle;have HL:=qh hL;have HP:=qh hP;have xS:=qh (show T.fG s.f s.k P=iH s b x from hN);have hpl:P.length<L.length:=by rw[hL];simp
 have HAT:=qh (show L[P.length]?=some (b,x)from by rw[hL];simp);have CG:=qh (show L.take P.length=P from by rw[hL];simp);have mE:=qh (fun i (hi:i<P.length) n (hn:L[i]?=some n)=>show n≠(b,x)from fun e=>HP.o (by
  rw[HL.o,List.getElem?_append_left hi]at hn;rw[←e];exact List.mem_of_getElem? hn))
 clear hL hP hN hLe hg H hs h0 h1 hb
 go_enter Tryz.func126,Tryz.ntmps126
 go_wp2_with fail
 refine eR.o.mono ?_;rintro e w2 ⟨v,rfl,ho,hb2⟩;obtain⟨A,c,rfl⟩:=aF ho;have iJ:=qh (afi ho);have HB2:=HB1.st hb2;have dW:=qh (bZ.o.below hb2);have eI:=qh (HX.o.below hb2 HX.o.lt);clear ho hb2 eR
 go_wp2_with fail
 go_loopw [5,11] (fun v y wr=>∃k:Nat,k≤P.length∧y=.int .i64 k∧v=.int .i64 (T.fG s.f s.k (L.take k):Nat)∧Hq (Below w2.heap.size w2 wr)) (fun _ y _=>L.length-(intOf y).toNat)
 case atStart=>exact⟨0,Nat.zero_le _,rfl,rfl,qh (Below.refl _ _)⟩
 case round=>
  obtain⟨k,hk,rfl,rfl,g7⟩:=hrel;have hkl:k<L.length:=qo;obtain⟨n,hn⟩:∃n,L[k]?=some n:=⟨_,List.getElem?_eq_getElem hkl⟩;obtain⟨ga,o,rfl,hga,r0,r1⟩:=WA (iJ.o.below g7.o) hn;have qR:=qh (gV.o n (List.mem_of_getElem? hn));have qZ:=qh (ER qR.o);have hsum:=M7 HS.o (L:=L.take k) (fun m hm=>gV.o m (List.mem_of_mem_take hm));have bN:=qh (EQ (f:=s.f) (k:=s.k) hn);have Pm:=qh hn;have hmin:(L.take k).length≤L.length:=by simp;omega
  obtain⟨S,hS⟩:=qx (T.fG s.f s.k (L.take k));rw[←hS]at hsum bN ⊢;have KY:=qh hS;obtain⟨nb,na⟩:=n;have r0:wr.cell? ⟨ga,o+k*2,none⟩=some (.int .i64 nb):=r0;have r1:wr.cell? ⟨ga,o+k*2+1,none⟩=some (.int .i64 na):=r1;have t0:(wr.alloc (.cells #[.int .i64 nb,.int .i64 na] 65)).cell? ⟨w.heap.size,0,none⟩=some (.int .i64 b):=(eI.o.below (g7.o.alloc g7.o.size _) eI.o.lt).cell 0;have t1:(wr.alloc (.cells #[.int .i64 nb,.int .i64 na] 65)).cell? ⟨w.heap.size,1,none⟩=some (.int .i64 x):=(eI.o.below (g7.o.alloc g7.o.size _) eI.o.lt).cell 1;have mO:=fun W=>Jm nb na b x W
  by_cases hlt:k<P.length
  ·have ZY:=qh (show decide ((nb,na)=(b,x))=false from decide_eq_false (mE.o k hlt _ Pm.o))
   rw[ZY.o]at mO;have mF:=qh (dW.o.below (g7.o.alloc g7.o.size (.cells #[.int .i64 nb,.int .i64 na] 65)));have hon:=cG nb na mF.o qR.o.1 qR.o.2.1 qR.o.2.2;have TO:=qh hon;obtain⟨AF,cF,mW⟩:=(mF.o.lU (b:=nb) qR.o.2.1 qR.o.2.2).form;have hb4:=bT (b:=nb) HS.o qR.o.2.1 qR.o.2.2;have jV:=qh mW;have dC:=qh hlt;clear hS hn hon mW hga hlt
   go_wp2_with fail
   refine TO.o.mono ?_;rintro e w5 ⟨rfl,hb5⟩;have oQ:=qh (mF.o.below hb5);have kc:=oQ.o.dE (b:=nb) qR.o.2.1 qR.o.2.2;rw[jV.o]at kc;have aZ:=qh ((g7.o.alloc g7.o.size (.cells #[.int .i64 nb,.int .i64 na] 65)).trans (hb5.mono (Nat.le_trans g7.o.size qj)));have xU:=qh (show aM s nb na=T.ES s.f s.k (nb,na)from qZ.o.symm);obtain⟨K,hK⟩:=qx (aM s nb na);rw[←hK]at kc hb4 xU;clear hb5 hK TO
   go_wp2_with fail
   go_roundw
   case rel=>exact⟨k+1,dC.o,qg,by rw[bN.o,←xU.o];go_num,aZ⟩
   case measure=>exact qs
  ·obtain rfl:k=P.length:=qo
   have ZY:=qh (show decide ((nb,na)=(b,x))=true from decide_eq_true (by
    have h:=Pm.o;rw[HAT.o]at h;injection h with h;exact h.symm))
   rw[ZY.o]at mO;have dU:=qh (HB2.o.trans ((g7.o.alloc g7.o.size (.cells #[.int .i64 nb,.int .i64 na] 65)).mono HB2.o.size));have HR:=qh (show S=iH s b x from by rw[KY.o,CG.o];exact xS.o);clear hS hn hga
   go_wp2_with fail
   go_ret
   exact⟨by rw[←HR.o];rfl,dU.o⟩
end
theorem vV {w:World}{A:Option Addr}{c:Nat}{L P R:List T.eV}{b x:Int}(hL:L=P++(b,x)::R)(hn:(b,x)∉P)(hrd:Rd w A (L.length*2) (fun j=>.int .i64 ((jK L).getD j 0)))(hl:L.length≤1000):
 Calls Tryz.prog 177 #[.slice A L.length c,.agg #[.int .i64 b,.int .i64 x]] w fun e w'=>e=.returned (.int .i64 P.length)∧Below w.heap.size w w':=by
 have hpl:P.length<L.length:=by rw[hL];simp
 have HAT:=qh (show L[P.length]?=some (b,x)from by rw[hL];simp);have mE:=qh (fun i (hi:i<P.length) n (hn':L[i]?=some n)=>show n≠(b,x)from fun e=>hn (by
  rw[hL,List.getElem?_append_left hi]at hn';rw[←e];exact List.mem_of_getElem? hn'))
 have iJ:=qh hrd;have HX:=qh (aB.at_ (g':=w.heap.size) w 65 #[.int .i64 b,.int .i64 x] rfl);have HB:=qh ((Below.refl w.heap.size w).alloc ql (.cells #[.int .i64 b,.int .i64 x] 65));clear hL hn hrd
 go_enter Tryz.func177,Tryz.ntmps177
 go_wp2_with fail
 go_loopw [8] (fun y wr=>∃k:Nat,k≤P.length∧y=.int .i64 k∧Hq (Below (w.alloc (.cells #[.int .i64 b,.int .i64 x] 65)).heap.size (w.alloc (.cells #[.int .i64 b,.int .i64 x] 65)) wr)) (fun y _=>L.length-(intOf y).toNat)
 case atStart=>exact⟨0,Nat.zero_le _,rfl,qh (Below.refl _ _)⟩
 case round=>
  obtain⟨k,hk,rfl,g7⟩:=hrel;have hkl:k<L.length:=qo;obtain⟨n,hn⟩:∃n,L[k]?=some n:=⟨_,List.getElem?_eq_getElem hkl⟩;have tQ:=qh (HB.o.trans (g7.o.mono HB.o.size));obtain⟨ga,o,rfl,hga,r0,r1⟩:=WA (iJ.o.below tQ.o) hn;have Pm:=qh hn;obtain⟨nb,na⟩:=n;have r0:wr.cell? ⟨ga,o+k*2,none⟩=some (.int .i64 nb):=r0;have r1:wr.cell? ⟨ga,o+k*2+1,none⟩=some (.int .i64 na):=r1;have t0:wr.cell? ⟨w.heap.size,0,none⟩=some (.int .i64 b):=(HX.o.below g7.o HX.o.lt).cell 0;have t1:wr.cell? ⟨w.heap.size,1,none⟩=some (.int .i64 x):=(HX.o.below g7.o HX.o.lt).cell 1;have mO:=fun W=>Jm b x nb na W
  by_cases hlt:k<P.length
  ·have ZY:=qh (show decide ((b,x)=(nb,na))=false from decide_eq_false fun e=>mE.o k hlt _ Pm.o e.symm)
   rw[ZY.o]at mO;clear hn hga
   go_wp2_with fail
   go_quiet (fail)
   rename_i nq
   have HBn:=qh (Below.drewN' g7.o nq)
   go_wp2_with fail
   go_roundw
   case rel=>exact⟨k+1,by omega,qg,HBn⟩
   case measure=>exact qs
  ·obtain rfl:k=P.length:=qo
   have ZY:=qh (show decide ((b,x)=(nb,na))=true from decide_eq_true (by
    have h:=Pm.o;rw[HAT.o]at h;injection h))
   rw[ZY.o]at mO;clear hn hga
   go_wp2_with fail
   go_quiet (fail)
   rename_i nq
   have dU:=qh (Below.drewN' tQ.o nq)
   go_wp2_with fail
   go_ret
   exact⟨rfl,dU.o⟩
end Go.Proofs.YtdnmhhohcedjbaaGreat
