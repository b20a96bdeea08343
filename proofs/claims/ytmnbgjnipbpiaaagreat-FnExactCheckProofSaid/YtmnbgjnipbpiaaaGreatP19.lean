/- Walks and plain lemmas. -/
import Derived.Test.YtmnbgjnipbpiaaaGreatP18
set_option linter.unusedVariables false
set_option linter.unusedSimpArgs false
set_option maxRecDepth 20000
namespace Go.Proofs.YtmnbgjnipbpiaaaGreat
open Go.RowKit
def six (L:List Int)(k:Nat):List Int:=[L.getD (k*6) 0,L.getD (k*6+1) 0,L.getD (k*6+2) 0,L.getD (k*6+3) 0,L.getD (k*6+4) 0,L.getD (k*6+5) 0]
theorem kT {L:List Int}{k:Nat}(h:k*6+6≤L.length):L.take ((k+1)*6)=L.take (k*6)++six L k:=by
 rw[show(k+1)*6=k*6+6 by omega,List.take_add]
 congr 1
 have hd:∀j,j<6→(L.drop (k*6))[j]?=some (L.getD (k*6+j) 0):=fun j hj=>by
  rw[List.getElem?_drop]
  simp[List.getD,show k*6+j<L.length by omega]
 apply List.ext_getElem?
 intro i;rw[List.getElem?_take]
 rcases i with _|_|_|_|_|_|i
 ·exact hd 0 qo
 ·exact hd 1 qo
 ·exact hd 2 qo
 ·exact hd 3 qo
 ·exact hd 4 qo
 ·exact hd 5 qo
 ·rw[if_neg qo]
  simp[six]
theorem C3 (x0 x1 x2 x3 x4 x5 y0 y1 y2 y3 y4 y5:Int)(w:World):(binOp .neq 52 (.agg #[.int .i64 x0,.int .i64 x1,.int .i64 x2,.int .i64 x3,.int .i64 x4,.int .i64 x5]) (.agg #[.int .i64 y0,.int .i64 y1,.int .i64 y2,.int .i64 y3,.int .i64 y4,.int .i64 y5])).run Tryz.prog w=.ok (.bool (!decide ([x0,x1,x2,x3,x4,x5]=[y0,y1,y2,y3,y4,y5]))) w:=by
 rw[run_neq_struct,run_equalIn_agg _ _ _ _ _ qk qk]
 simp[Program.fieldsOf,Tryz.underlying52,Op.eqFields,go_sem]
 repeat' split
 all_goals simp_all
theorem lQ (A B:OA)(c c' m m':Nat)(L M:List Int)(w:World)(hL:L.length=m*6)(hM:M.length=m'*6)(ha:Rd w A (m*6) (fun j=>.int .i64 (L.getD j 0)))(hb:Rd w B (m'*6) (fun j=>.int .i64 (M.getD j 0)))(hm:m≤1000000)(hm':m'≤1000000):
 Calls Tryz.prog 36 #[.slice A m c,.slice B m' c'] w fun e w'=>e=.returned (.bool (decide (L=M)))∧∃q,w'=w.drewN q:=by
 have HA:=qh ha;have HB:=qh hb;have eI:=qh hL;have nG:=qh hM;clear ha hb hL hM
 by_cases hl:m=m'
 case neg=>
  have HD:=qh (show decide (L=M)=false from decide_eq_false fun e=>hl (by have h1:=eI.o;have h2:=nG.o;rw[e]at h1;omega));have hlb:((m:Int)==(m':Int))=false:=by rw[beq_eq_false_iff_ne];omega
  have hlc:¬(m:Int)=(m':Int):=qo
  go_enter Tryz.func36,Tryz.ntmps36
  go_wp2
  go_ret
  exact⟨by rw[HD.o];rfl,0,rfl⟩
 subst hl
 go_enter Tryz.func36,Tryz.ntmps36
 go_wp2_with fail
 go_loopw [5] (fun x wr=>∃k q:Nat,k≤m∧x=.int .i64 k∧wr=w.drewN q∧Hq (L.take (k*6)=M.take (k*6))) (fun x _=>m-(intOf x).toNat)
 case atStart=>exact⟨0,0,Nat.zero_le _,rfl,rfl,qh qj⟩
 case round=>
  obtain⟨k,q,hk,rfl,rfl,HX⟩:=hrel
  by_cases hlt:k<m
  ·obtain⟨ga,o,rfl,hg,hr⟩:=HA.o qo
   obtain⟨gb,o',rfl,hg',hr'⟩:=HB.o qo;have r0:=hr (k*6) qo;have r1:=hr (k*6+1) qo;have r2:=hr (k*6+2) qo;have r3:=hr (k*6+3) qo;have r4:=hr (k*6+4) qo;have r5:=hr (k*6+5) qo;have t0:=hr' (k*6) qo;have t1:=hr' (k*6+1) qo;have t2:=hr' (k*6+2) qo;have t3:=hr' (k*6+3) qo;have t4:=hr' (k*6+4) qo;have t5:=hr' (k*6+5) qo;have oX:=qh (kT (L:=L) (k:=k) (by have:=eI.o;omega));have gC:=qh (kT (L:=M) (k:=k) (by have:=nG.o;omega));unfold six at oX gC;obtain⟨x0,hx0⟩:=qx (L.getD (k*6) 0);obtain⟨x1,hx1⟩:=qx (L.getD (k*6+1) 0);obtain⟨x2,hx2⟩:=qx (L.getD (k*6+2) 0);obtain⟨x3,hx3⟩:=qx (L.getD (k*6+3) 0);obtain⟨x4,hx4⟩:=qx (L.getD (k*6+4) 0);obtain⟨x5,hx5⟩:=qx (L.getD (k*6+5) 0);obtain⟨y0,hy0⟩:=qx (M.getD (k*6) 0);obtain⟨y1,hy1⟩:=qx (M.getD (k*6+1) 0);obtain⟨y2,hy2⟩:=qx (M.getD (k*6+2) 0);obtain⟨y3,hy3⟩:=qx (M.getD (k*6+3) 0);obtain⟨y4,hy4⟩:=qx (M.getD (k*6+4) 0);obtain⟨y5,n6⟩:=qx (M.getD (k*6+5) 0)
   simp only[←hx0]at r0
   simp only[←hx1,←Nat.add_assoc]at r1
   simp only[←hx2,←Nat.add_assoc]at r2
   simp only[←hx3,←Nat.add_assoc]at r3
   simp only[←hx4,←Nat.add_assoc]at r4
   simp only[←hx5,←Nat.add_assoc]at r5
   simp only[←hy0]at t0
   simp only[←hy1,←Nat.add_assoc]at t1
   simp only[←hy2,←Nat.add_assoc]at t2
   simp only[←hy3,←Nat.add_assoc]at t3
   simp only[←hy4,←Nat.add_assoc]at t4
   simp only[←n6,←Nat.add_assoc]at t5
   rw[←hx0,←hx1,←hx2,←hx3,←hx4,←hx5]at oX;rw[←hy0,←hy1,←hy2,←hy3,←hy4,←n6]at gC;clear hx0 hx1 hx2 hx3 hx4 hx5 hy0 hy1 hy2 hy3 hy4 n6 hr hr';have b1:(0:Int)≤(k:Int):=qo;have b2:(k:Int)<(m:Int):=qo
   by_cases he:[x0,x1,x2,x3,x4,x5]=[y0,y1,y2,y3,y4,y5]
   ·injection he with h0 he
    injection he with h1 he;injection he with h2 he;injection he with h3 he;injection he with h4 he;injection he with h5 he;subst h0 h1 h2 h3 h4 h5;clear he
    go_wp2_with fail
    go_quiet (fail)
    go_wp2_with fail
    go_roundw
    case rel=>exact⟨k+1,_,by omega,qg,rfl,qh (by rw[oX.o,gC.o,HX.o])⟩
    case measure=>exact qs
   ·have HD:=qh (show decide (L=M)=false from decide_eq_false fun e=>he (by
     have h1:=oX.o;have h2:=gC.o;rw[e]at h1;rw[h2]at h1;exact(List.append_inj_right' h1 rfl).symm))
    have eD:=fun W=>C3 x0 x1 x2 x3 x4 x5 y0 y1 y2 y3 y4 y5 W;rw[decide_eq_false he]at eD;clear he
    go_wp2_with fail
    go_quiet (fail)
    go_wp2_with fail
    go_ret
    exact⟨by rw[HD.o];rfl,_,World.drewN_drewN _ _ _⟩
  ·obtain rfl:m=k:=qo
   have HD:=qh (show decide (L=M)=true from decide_eq_true (by
    have h:=HX.o;rwa[List.take_of_length_le (by have:=eI.o;omega),List.take_of_length_le (by have:=nG.o;omega)]at h))
   go_wp2
   go_ret
   exact⟨by rw[HD.o];rfl,q,rfl⟩
end Go.Proofs.YtmnbgjnipbpiaaaGreat
