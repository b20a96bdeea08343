/- Walks and plain lemmas. -/
import Derived.Test.YtmnbgjnipbpiaaaGreatDoorP30
set_option linter.unusedVariables false
set_option linter.unusedSimpArgs false
set_option maxHeartbeats 1000000
set_option maxRecDepth 20000
namespace Go.Proofs.YtmnbgjnipbpiaaaGreatDoor
open Go.RowKit
theorem aW.take {w:World}{A:Option Addr}{L:List Int}(h:aW w A L)(k:Nat):aW w A (L.take k):=fun h0=>by
 obtain⟨g,o,e,hg,hr⟩:=h (by rw[List.length_take]at h0;omega);refine⟨g,o,e,hg,fun j hj=>?_⟩;rw[List.length_take]at hj;rw[hr j qo]
 simp[List.getD,show j<k by omega]
theorem eR {n lo hi:Int}:a8 n lo hi=true↔lo≤n∧n≤hi:=by simp[a8]
theorem gV {n lo hi:Int}:a8 n lo hi=false↔¬(lo≤n∧n≤hi):=by rw[←Bool.not_eq_true,eR]
theorem cL {n lo hi:Int}{b:Bool}(h:a8 n lo hi=b)(w:World):Calls Tryz.prog 51 #[.int .i64 n,.int .i64 lo,.int .i64 hi] w fun e w'=>e=.returned (.bool b)∧w'=w:=h▸dE n lo hi w
theorem kH {L:List Int}{k:Nat}(hk:k≤L.length)(x:Int):x∈L.take k↔∃j,j<k∧L.getD j 0=x:=by
 constructor
 ·intro h
  obtain⟨j,hj⟩:=List.getElem?_of_mem h;have hjl:=(List.getElem?_eq_some_iff.1 hj).1;rw[List.length_take]at hjl;refine⟨j,by omega,?_⟩;rw[List.getElem?_take,if_pos qo]at hj
  simp[List.getD,hj]
 ·rintro⟨j,hj,e⟩
  rw[←e];refine List.mem_of_getElem? (i:=j) ?_;rw[List.getElem?_take,if_pos hj]
  simp[List.getD,show j<L.length by omega]
open Classical in
theorem lN (A:OA)(c:Nat)(L:List Int)(w:World)(ha:aW w A L)(hn:L.length≤1048576)(hc:L.length≤c):
 Calls Tryz.prog 93 #[.slice A L.length c] w fun e w'=>e=.returned (.bool (decide (cJ L)))∧∃q,w'=w.drewN q:=by
 have HA:=qh ha;clear ha
 go_enter Tryz.func93,Tryz.ntmps93
 go_wp2_with fail
 go_loopw [3] (fun i wr=>∃k:Nat,k≤L.length∧i=.int .i64 k∧Hq (aW wr A L)∧Hq (∃q,wr=w.drewN q)∧Hq (G.dL L k)) (fun i _=>L.length-(intOf i).toNat)
 case atStart=>exact⟨0,Nat.zero_le _,rfl,HA,qh ⟨0,rfl⟩,qh (fun i hi=>absurd hi (Nat.not_lt_zero i))⟩
 case round=>
  clear HA;obtain⟨k,hk,rfl,HA,HQ,HX⟩:=hrel;have t6:=qh (fun n=>(⟨_,by rw[HQ.o.choose_spec,World.drewN_drewN]⟩:∃q,wr.drewN n=w.drewN q))
  by_cases hlt:k<L.length
  ·obtain⟨ga,o,rfl,hg,hr⟩:=HA.o qo
   have hck:=hr k hlt;have hlen:(L.take k).length=k:=by rw[List.length_take];omega
   have qC:=qh (kH hk (L.getD k 0));obtain⟨y,hy⟩:=qx (L.getD k 0)
   simp only[←hy]at hck qC
   have HY:=qh hy;have b1:(0:Int)≤(k:Int):=qo;have b2:(k:Int)<(L.length:Int):=qo;have b3:(k:Int)≤(c:Int):=qo;clear hr hy
   by_cases hin:0≤y∧y≤(L.length:Int)-1
   ·have cF:=qh (fun W=>cL (n:=y) (lo:=0) (hi:=(L.length:Int)-1) (b:=true) (eR.2 hin) W)
    by_cases hm:y∈L.take k
    ·have HT:=qh (fun(W:World) (h:aW W (some ⟨ga,o,none⟩) (L.take k))=>(f8 (some ⟨ga,o,none⟩) c (L.take k) y W h qo).mono fun e w' h=>(⟨by rw[h.1,decide_eq_true hm],h.2.symm⟩:e=.returned (.bool true)∧w'=W))
     rw[hlen]at HT;have HD:=qh (show decide (cJ L)=false from decide_eq_false fun h=>by
      obtain⟨j,hj,e⟩:=qC.o.1 hm;exact(h.2 k hlt).2 j hj (e.trans HY.o))
     have sY:=qh (fun Q=>Rd.drewN (HA.o.take k) Q);clear hin hm hlen
     go_wp2_with fail
     go_quiet (first|(go_at_call 51;exact Calls.quiet_of_same (cF.o _))|(go_at_call 138;exact Calls.quiet_of_same (HT.o _ (sY.o _))))
     go_wp2_with fail
     go_ret
     exact⟨by rw[HD.o];rfl,t6.o nq⟩
    ·have HT:=qh (fun(W:World) (h:aW W (some ⟨ga,o,none⟩) (L.take k))=>(f8 (some ⟨ga,o,none⟩) c (L.take k) y W h qo).mono fun e w' h=>(⟨by rw[h.1,decide_eq_false hm],h.2.symm⟩:e=.returned (.bool false)∧w'=W))
     rw[hlen]at HT;have dN:=qh (HX.o.next (by rw[←HY.o];omega) (fun j hj e=>hm (qC.o.2 ⟨j,hj,e.trans HY.o.symm⟩)));have sY:=qh (fun Q=>Rd.drewN (HA.o.take k) Q);clear hin hm hlen
     go_wp2_with fail
     go_quiet (first|(go_at_call 51;exact Calls.quiet_of_same (cF.o _))|(go_at_call 138;exact Calls.quiet_of_same (HT.o _ (sY.o _))))
     go_wp2_with fail
     go_roundw
     case rel=>exact⟨k+1,by omega,qg,qh (HA.o.drewN nq),qh (t6.o nq),dN⟩
     case measure=>exact qs
   ·have cF:=qh (fun W=>cL (n:=y) (lo:=0) (hi:=(L.length:Int)-1) (b:=false) (gV.2 hin) W)
    have HD:=qh (show decide (cJ L)=false from decide_eq_false fun h=>by
     have:=(h.2 k hlt).1;rw[←HY.o]at this;omega)
    clear hin hlen
    go_wp2_with fail
    go_quiet (first|(go_at_call 51;exact Calls.quiet_of_same (cF.o _)))
    go_wp2_with fail
    go_ret
    exact⟨by rw[HD.o];rfl,t6.o nq⟩
  ·obtain rfl:L.length=k:=qo
   have HD:=qh (show decide (cJ L)=decide ((L.length:Int)≤12)from decide_eq_decide.2 ⟨fun h=>by have:=h.1;omega,fun h=>⟨by omega,HX.o⟩⟩)
   go_wp2_with fail
   go_ret
   exact⟨by rw[HD.o];rfl,HQ.o⟩
end Go.Proofs.YtmnbgjnipbpiaaaGreatDoor
