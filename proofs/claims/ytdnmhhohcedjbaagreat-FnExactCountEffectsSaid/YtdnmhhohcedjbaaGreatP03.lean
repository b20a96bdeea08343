/- Walks and plain lemmas. -/
import Derived.Test.YtdnmhhohcedjbaaGreatP00
import Derived.Deep.RegionHeld3
import Derived.BigQuiet
set_option linter.unusedVariables false
set_option linter.unusedSimpArgs false
set_option maxHeartbeats 1000000
namespace Go.Proofs.YtdnmhhohcedjbaaGreat
open Go.RowKit
theorem AI (A A':OA)(n c c':Nat)(z:Nat→Int)(w:World)(ha:Rd w A (n*1) (fun j=>.int .i64 (z j)))(hb:Rd w A' (n*1) (fun j=>.int .i64 (z j)))(hn:n≤1000000000):
 Calls Tryz.prog 15 #[.slice A n c,.slice A' n c'] w fun e w'=>e=.returned (.bool true)∧Below w.heap.size w w':=by
 have HA:=qh ha;have HB:=qh hb;clear ha hb
 go_enter Tryz.func15,Tryz.ntmps15
 go_wp2
 go_loopw [5] (fun i wr=>∃k:Nat,k≤n∧i=.int .i64 k∧Below w.heap.size w wr) (fun i _=>n-(intOf i).toNat)
 case atStart=>exact⟨0,Nat.zero_le _,rfl,Below.refl _ _⟩
 case round=>
  obtain⟨k,hk,rfl,hbl⟩:=hrel;have HL:=qh hbl;clear hbl
  by_cases hlt:k<n
  ·obtain⟨g,o,rfl,hg,hc⟩:=HA.o qo
   obtain⟨g',o',rfl,hg',hc'⟩:=HB.o qo;have a0:=((aA HL.o).1 g _ hg).trans (hc (k*1+0) qo);have b0:=((aA HL.o).1 g' _ hg').trans (hc' (k*1+0) qo)
   simp only[←Nat.add_assoc]at a0 b0
   obtain⟨y0,hy0⟩:=qx (z (k*1+0))
   simp only[Nat.mul_one,Nat.add_zero]at a0 b0 hy0
   simp only[←hy0]at a0 b0
   clear hy0 hc hc';have hgr:g<wr.heap.size:=blt HL.o hg;have Eh:g'<wr.heap.size:=blt HL.o hg'
   go_wp2
   go_quiet (fail)
   go_wp2
   go_roundw
   case rel=>exact⟨k+1,by omega,qg,Below.drewN' HL.o nq⟩
   case measure=>exact qs
  ·obtain rfl:k=n:=qo
   go_wp2
   go_ret
   exact⟨rfl,HL.o⟩
theorem QO (A:OA)(n c:Nat)(k:Int)(w:World)(h:Wr w A (n*1))(hn:n≤1000000000)(h0:0≤k)(hk:k≤2000000000):
 Calls Tryz.prog 17 #[.slice A n c,.int .i64 k] w (q8 w A (n*1) (k+n*1) (fun j=>.int .i64 (k+j))):=by
 by_cases hz:n=0
 ·subst hz
  go_enter Tryz.func17,Tryz.ntmps17
  go_wp2
  go_loop [1,5] (fun kk i=>kk=.int .i64 k∧i=.int .i64 0) (fun _ _=>0)
  case atStart=>exact⟨rfl,rfl⟩
  case round=>
   obtain⟨rfl,rfl⟩:=hrel
   go_wp2
   go_ret
   exact⟨QF qj,Nat.le_refl _,fun _=>rfl,fun _ _ _ h=>absurd h qo⟩
 ·obtain⟨g,o,rfl,hw⟩:=h qo
  clear h;have hg:=hw.lt qo;have HW:=qh hw;clear hw
  go_enter Tryz.func17,Tryz.ntmps17
  go_wp2
  go_loopw [1,5] (fun kk i wr=>∃q:Nat,q≤n∧i=.int .i64 q∧kk=.int .i64 (k+q*1)∧g<wr.heap.size∧Only w wr g∧dS wr g o (n*1)∧bI wr g o (q*1) (fun j=>.int .i64 (k+j))) (fun _ i _=>n-(intOf i).toNat)
  case atStart=>exact⟨0,Nat.zero_le _,rfl,by simp,hg,Only.refl _ _,HW.o,fun j hj=>absurd hj qo⟩
  case round=>
   obtain⟨q,hq,rfl,rfl,hgr,ho,hw,hr⟩:=hrel;have HO:=qh ho;have l7:=qh hw;have HR:=qh hr;clear ho hw hr
   by_cases hlt:q<n
   ·obtain⟨⟨u100,hu0⟩,hf0⟩:=l7.o (q*1+0) qo
    simp only[Nat.add_zero,Nat.mul_one]at hu0 hf0
    go_wp2
    go_roundw
    case rel=>
     refine⟨q+1,by omega,qg,qg,by simp;exact hgr,(HO.o.set _ _),(l7.o.set _ _),?_⟩;have r0:=bI.step (m:=q*1) (a:=o+q) (u:=.int .i64 (k+q)) HR.o l7.o qo qo (by simp only[Value.int.injEq,true_and];omega);exact bI.cast qo r0
    case measure=>exact qs
   ·obtain rfl:q=n:=qo
    go_wp2
    go_ret
    exact⟨rfl,HO.o.size,fun h=>absurd h qo,fun g' o' e _=>by injection e with e;injection e with e1 e2;subst e1 e2;exact⟨HO.o,l7.o,HR.o⟩⟩
theorem DP (A:OA)(n c:Nat)(k:Int)(w:World)(h:Rd w A (n*1) (fun j=>.int .i64 (k+j)))(hn:n≤1000000000)(h0:0≤k)(hk:k≤2000000000):
 Calls Tryz.prog 18 #[.slice A n c,.int .i64 k] w fun e w'=>e=.returned (.int .i64 (k+n*1))∧Below w.heap.size w w':=by
 have H:=qh h;clear h
 go_enter Tryz.func18,Tryz.ntmps18
 go_wp2
 go_loop [1,5] (fun kk i=>∃q:Nat,q≤n∧i=.int .i64 q∧kk=.int .i64 (k+q*1)) (fun _ i=>n-(intOf i).toNat)
 case atStart=>exact⟨0,Nat.zero_le _,rfl,by simp⟩
 case round=>
  obtain⟨q,hq,rfl,rfl⟩:=hrel
  by_cases hlt:q<n
  ·obtain⟨g,o,rfl,hg,hr⟩:=H.o qo
   have c0:=hr (q*1+0) qo
   simp only[Nat.add_zero,Nat.mul_one]at c0
   clear hr
   go_wp2
   go_round
   case rel=>exact⟨q+1,by omega,qg,qg⟩
   case measure=>exact qs
  ·obtain rfl:q=n:=qo
   go_wp2
   go_ret
   exact⟨rfl,Below.refl _ _⟩
end Go.Proofs.YtdnmhhohcedjbaaGreat
