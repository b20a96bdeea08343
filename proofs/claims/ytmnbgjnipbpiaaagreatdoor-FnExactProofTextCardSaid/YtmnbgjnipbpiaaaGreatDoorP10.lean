/- Walks and plain lemmas. -/
import Derived.Test.YtmnbgjnipbpiaaaGreatDoorP09
import Derived.Test.YtmnbgjnipbpiaaaGreatDoorP08
import Derived.BigQuiet
import Derived.Deep.LoopGhost
set_option linter.unusedVariables false
set_option linter.unusedSimpArgs false
set_option maxRecDepth 20000
namespace Go.Proofs.YtmnbgjnipbpiaaaGreatDoor
open Go.RowKit
theorem a6 {B:Nat}{w w':World}{g o:Nat}{v:Value}(hb:Below B w w')(hg:g<B)(h:w.cell? ⟨g,o,none⟩=some v):w'.cell? ⟨g,o,none⟩=some v:=((aA hb).1 g o hg).trans h
def eE (w:World)(L:List Int)(e:Ending)(w':World):Prop:=∃v,e=.returned v∧w'.ownsRow w.heap.size 2 1 v L.length (ints L)∧Below w.heap.size w w'
theorem qZ {B:Nat}{w:World}{A:Option Addr}{n c:Nat}{L:List Int}(ho:w.ownsRow B 2 1 (.slice A n c) n (ints L)):aW w A L:=fun h0=>by
 have hl:L.length=n:=by have:=ho.1;simp[ints]at this;omega
 rcases ho.2 with⟨_,h1⟩|⟨g',cap,_,hg,_⟩
 ·omega
 injection hg with hA _ hc;subst hA;refine⟨g',0,rfl,(ho.lt g' rfl).2,fun j hj=>?_⟩;rw[Nat.zero_add,ho.cellAt j qo]
 simp[ints,List.getD,hj]
theorem gL (w:World)(cs:Array Value)(n:Nat)(hn:n≤1000000)(hcs:cs.size=n)(hcv:∀j,j<n→cs[j]?=some (.int .i64 0)):(w.alloc (.cells cs 2)).ownsRow w.heap.size 2 1 (.slice (some ⟨w.heap.size,0,none⟩) n n) n (ints (List.replicate n 0)):=by
 have h:=World.ownsRow_lit (base:=w.heap.size) (e:=2) (size:=1) w cs n ql qm qo;have e:cs.toList=ints (List.replicate n 0):=by
  apply List.ext_getElem?
  intro j
  by_cases hj:j<n
  ·have:=hcv j hj
   rw[Array.getElem?_toList,this]
   simp[ints,hj]
  ·rw[List.getElem?_eq_none (by rw[Array.length_toList];omega),List.getElem?_eq_none (by simp[ints];omega)]
 rwa[e]at h
theorem dP {L:List Int}{k:Nat}(hk:k<L.length)(x:Int):x∈L.take (k+1)↔x∈L.take k∨x=L.getD k 0:=by
 rw[List.take_succ_eq_append_getElem hk,List.mem_append,List.mem_singleton]
 simp[List.getD,hk]
theorem f8 (A:OA)(c:Nat)(L:List Int)(x:Int)(w:World)(ha:aW w A L)(hn:L.length≤1048576):
 Calls Tryz.prog 138 #[.slice A L.length c,.int .i64 x] w fun e w'=>e=.returned (.bool (decide (x∈L)))∧w=w':=by
 have HA:=qh ha;clear ha
 go_enter Tryz.func138,Tryz.ntmps138
 go_wp2
 go_loop [5] (fun i=>∃k:Nat,k≤L.length∧i=.int .i64 k∧Hq (x∉L.take k)) (fun i=>L.length-(intOf i).toNat)
 case atStart=>exact⟨0,Nat.zero_le _,rfl,qh qj⟩
 case round=>
  obtain⟨k,hk,rfl,HX⟩:=hrel
  by_cases hlt:k<L.length
  ·obtain⟨ga,o,rfl,hg,hr⟩:=HA.o qo
   have hc:=hr k hlt;have HM:=qh (dP hlt x);obtain⟨y,hy⟩:=qx (L.getD k 0)
   simp only[←hy]at hc HM
   have HY:=qh (show y∈L by rw[hy];simp[List.getD,hlt]);have b1:(0:Int)≤(k:Int):=qo;have b2:(k:Int)<(L.length:Int):=qo;clear hr hy
   by_cases hxy:y=x
   ·subst hxy
    have HD:=qh (show decide (y∈L)=true from decide_eq_true HY.o)
    go_wp2
    go_ret
    exact⟨by rw[HD.o];rfl,rfl⟩
   ·have hxb:(y==x)=false:=by simpa using hxy
    go_wp2
    go_round
    case rel=>exact⟨k+1,by omega,qg,qh (by rw[HM.o];rintro(h|h);exact HX.o h;exact hxy h.symm)⟩
    case measure=>exact qs
  ·obtain rfl:L.length=k:=qo
   have HD:=qh (show decide (x∈L)=false from decide_eq_false (by have:=HX.o;rwa[List.take_length]at this))
   go_wp2
   go_ret
   exact⟨by rw[HD.o];rfl,rfl⟩
theorem lP (A B:OA)(c c':Nat)(L M:List Int)(w:World)(ha:aW w A L)(hb:aW w B M)(hn:L.length≤1048576)(hm:M.length≤1048576):
 Calls Tryz.prog 88 #[.slice A L.length c,.slice B M.length c'] w fun e w'=>e=.returned (.bool (decide (L=M)))∧∃q,w'=w.drewN q:=by
 have HA:=qh ha;have HB:=qh hb;clear ha hb
 by_cases hl:L.length=M.length
 case neg=>
  have HD:=qh (show decide (L=M)=false from decide_eq_false fun e=>hl (by rw[e]));have hlb:((L.length:Int)==(M.length:Int))=false:=by rw[beq_eq_false_iff_ne];omega
  have hlc:¬(L.length:Int)=(M.length:Int):=qo
  go_enter Tryz.func88,Tryz.ntmps88
  go_wp2
  go_ret
  exact⟨by rw[HD.o];rfl,0,rfl⟩
 obtain⟨n,hnl⟩:=qx (L.length);have hnm:M.length=n:=qo;have xZ:=qh hnl;have dR:=qh hnm;have e1:L.length=n:=hnl.symm;rw[←hnl];rw[hnm];rw[←hnl]at hn;clear hnl hnm hl hm
 go_enter Tryz.func88,Tryz.ntmps88
 go_wp2
 go_loopw [5] (fun i wr=>∃k q:Nat,k≤n∧i=.int .i64 k∧wr=w.drewN q∧Hq (L.take k=M.take k)) (fun i _=>n-(intOf i).toNat)
 case atStart=>exact⟨0,0,Nat.zero_le _,rfl,rfl,qh qj⟩
 case round=>
  obtain⟨k,q,hk,rfl,rfl,HX⟩:=hrel
  by_cases hlt:k<n
  ·obtain⟨ga,o,rfl,hg,hr⟩:=HA.o qo
   obtain⟨gb,o',rfl,hg',hr'⟩:=HB.o (by have:=dR.o;omega);have hc:=hr k qo;have hc':=hr' k (by have:=dR.o;omega);have HT1:=qh (show L.take (k+1)=L.take k++[L.getD k 0]by rw[List.take_succ_eq_append_getElem qo];simp[List.getD,show k<L.length by omega]);have HT2:=qh (show M.take (k+1)=M.take k++[M.getD k 0]by rw[List.take_succ_eq_append_getElem (by have:=dR.o;omega)];simp[List.getD,show k<M.length by have:=dR.o;omega]);obtain⟨x,hx⟩:=qx (L.getD k 0);obtain⟨y,hy⟩:=qx (M.getD k 0)
   simp only[←hx]at hc
   rw[←hx]at HT1
   simp only[←hy]at hc'
   rw[←hy]at HT2;have qK:=qh hx;have jB:=qh hy;have b1:(0:Int)≤(k:Int):=qo;have b2:(k:Int)<(n:Int):=qo;clear hr hr' hx hy
   by_cases hxy:x=y
   ·subst hxy
    go_wp2_with fail
    go_quiet (fail)
    go_wp2_with fail
    go_roundw
    case rel=>exact⟨k+1,_,by omega,qg,rfl,qh (by rw[HT1.o,HT2.o,HX.o])⟩
    case measure=>exact qs
   ·have HD:=qh (show decide (L=M)=false from decide_eq_false fun e=>hxy (by rw[qK.o,jB.o,e]))
    have hxb:(x==y)=false:=by simpa using hxy
    go_wp2_with fail
    go_quiet (fail)
    go_wp2_with fail
    go_ret
    exact⟨by rw[HD.o];rfl,_,World.drewN_drewN _ _ _⟩
  ·obtain rfl:n=k:=qo
   have HD:=qh (show decide (L=M)=true from decide_eq_true (by
    have h:=HX.o;rwa[List.take_of_length_le qo,List.take_of_length_le (by have:=dR.o;omega)]at h))
   go_wp2
   go_ret
   exact⟨by rw[HD.o];rfl,q,rfl⟩
end Go.Proofs.YtmnbgjnipbpiaaaGreatDoor
