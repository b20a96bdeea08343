/- Walks and plain lemmas. -/
import Derived.Test.YtmnbgjnipbpiaaaGreatDoorP10
set_option linter.unusedVariables false
set_option linter.unusedSimpArgs false
set_option maxRecDepth 20000
namespace Go.Proofs.YtmnbgjnipbpiaaaGreatDoor
open Go.RowKit
theorem eE.rd {w w':World}{L:List Int}{e:Ending}(h:eE w L e w'):∃A c,e=.returned (.slice A L.length c)∧w'.ownsRow w.heap.size 2 1 (.slice A L.length c) L.length (ints L)∧aW w' A L∧Below w.heap.size w w':=by
 obtain⟨v,rfl,ho,hb⟩:=h;obtain⟨A,c,rfl⟩:=cK ho;exact⟨A,c,rfl,ho,qZ ho,hb⟩
def nM (k:Nat):List Int:=(List.range k).map fun(j:Nat)=>(j:Int)
def kT (n k:Nat):List Int:=(List.range k).map fun(j:Nat)=>(n:Int)-1-j
theorem p4 (k:Nat):nM (k+1)=nM k++[(k:Int)]:=by simp[nM,List.range_succ]
theorem pW (n k:Nat):kT n (k+1)=kT n k++[(n:Int)-1-k]:=by simp[kT,List.range_succ]
theorem qU (n:Nat):nM n=G.pl (G.one:G.PM n):=rfl
theorem rH (n:Nat):kT n n=G.pl (G.del:G.PM n):=G.qE (by simp[kT]) fun i hi=>by
 simp only[kT,List.getD,List.getElem?_map,List.getElem?_range hi,Option.map_some,Option.getD_some]
 show _=((G.rev n i:Nat):Int);rw[G.aK hi];omega
theorem gU (n:Nat)(w:World)(hn:n≤1000):Calls Tryz.prog 95 #[.int .i64 n] w (eE w (G.pl (G.one:G.PM n))):=by
 obtain⟨i0,hi,iz,is,ib⟩:=info_parts info64;have HO:=qh (World.ownsRow_made (e:=2) (size:=1) w #[] 0 ql qm rfl);have HB:=qh ((Below.refl w.heap.size w).alloc ql (.cells #[] 2))
 go_enter Tryz.func95,Tryz.ntmps95
 go_wp2_with fail
 go_loopw [3,4] (fun v x wr=>∃k:Nat,k≤n∧x=.int .i64 k∧Hq (wr.ownsRow w.heap.size 2 1 v k (ints (nM k)))∧Hq (Below w.heap.size w wr)) (fun _ x _=>n-(intOf x).toNat)
 case atStart=>exact⟨0,Nat.zero_le _,rfl,HO,HB⟩
 case round=>
  obtain⟨k,hk,rfl,aL,HB2⟩:=hrel
  by_cases hlt:k<n
  ·go_wp2_with (at_builtin;go_must (refine aC wr rfl (.tmp 11) (.tmp 13) _ rfl w.heap.size 2 i0 _ 1 8 Tryz.underlying57 hi iz is ib rfl qo u3 k _ rfl aL.o _ 1 1 _ rfl rfl (by simp[Value.oneCell']) qm qo HB2.o.size ?_);intro v' w' hown' hb';have dB:=qh hown';have HB3:=qh (HB2.o.trans hb');clear hown' hb')
   go_roundw
   case rel=>exact⟨k+1,by omega,qg,qh (by rw[p4,eB];exact dB.o),HB3⟩
   case measure=>exact qs
  ·obtain rfl:n=k:=qo
   go_wp2
   go_ret
   exact⟨_,rfl,by rw[G.a7,←qU];exact aL.o,HB2.o⟩
theorem lO (n:Nat)(w:World)(hn:n≤1000):Calls Tryz.prog 96 #[.int .i64 n] w (eE w (G.pl (G.del:G.PM n))):=by
 obtain⟨i0,hi,iz,is,ib⟩:=info_parts info64;have HO:=qh (World.ownsRow_made (e:=2) (size:=1) w #[] 0 ql qm rfl);have HB:=qh ((Below.refl w.heap.size w).alloc ql (.cells #[] 2))
 go_enter Tryz.func96,Tryz.ntmps96
 go_wp2_with fail
 go_loopg [3,4] n (fun q v x wr=>∃k:Nat,k≤n∧q=n-k∧x=.int .i64 ((n:Int)-1-k)∧Hq (wr.ownsRow w.heap.size 2 1 v k (ints (kT n k)))∧Hq (Below w.heap.size w wr))
 case atStart=>exact⟨0,Nat.zero_le _,rfl,qg,HO,HB⟩
 case round=>
  obtain⟨k,hk,hq,rfl,aL,HB2⟩:=hrel
  by_cases hlt:k<n
  ·have b1:(0:Int)≤(n:Int)-1-k:=qo
   go_wp2_with (at_builtin;go_must (refine aC wr rfl (.tmp 12) (.tmp 14) _ rfl w.heap.size 2 i0 _ 1 8 Tryz.underlying57 hi iz is ib rfl qo u3 k _ rfl aL.o _ 1 1 _ rfl rfl (by simp[Value.oneCell']) qm qo HB2.o.size ?_);intro v' w' hown' hb';have dB:=qh hown';have HB3:=qh (HB2.o.trans hb');clear hown' hb')
   go_roundg (n-(k+1))
   case rel=>exact⟨k+1,by omega,rfl,qg,qh (by rw[pW,eB];exact dB.o),HB3⟩
   case measure=>omega
  ·obtain rfl:n=k:=qo
   go_wp2
   go_ret
   exact⟨_,rfl,by rw[G.a7,←rH];exact aL.o,HB2.o⟩
def bV {n:Nat}(p:G.PM n)(k:Nat):List Int:=(List.range n).map fun j=>if p.g j<k then(p.g j:Int)else 0
theorem j4 {n:Nat}(p:G.PM n):bV p 0=List.replicate n 0:=by
 apply List.ext_getElem?
 intro j
 by_cases hj:j<n
 ·simp[bV,hj]
 ·simp[bV,hj]
theorem j5 {n:Nat}(p:G.PM n){k:Nat}(hk:k<n):(bV p k).set (p.f k) (k:Int)=bV p (k+1):=by
 apply List.ext_getElem?
 intro j;rw[List.getElem?_set]
 by_cases hjk:p.f k=j
 ·have hj:j<n:=by rw[←hjk];exact p.lt hk
  have hg:p.g j=k:=by rw[←hjk,p.gf]
  rw[if_pos hjk,if_pos (by simp[bV];omega)]
  simp[bV,hj,hg]
 ·rw[if_neg hjk]
  by_cases hj:j<n
  ·have hg:p.g j≠k:=fun e=>hjk (by rw[←e,p.fg])
   simp only[bV,List.getElem?_map,List.getElem?_range hj,Option.map_some]
   by_cases h:p.g j<k
   ·rw[if_pos h,if_pos qo]
   ·rw[if_neg h,if_neg qo]
  ·simp[bV,hj]
theorem kN {n:Nat}(p:G.PM n):bV p n=G.pl p.inv:=by
 refine List.map_congr_left fun j hj=>?_;rw[if_pos (p.gY (List.mem_range.1 hj))]
 rfl
theorem iF {n:Nat}(p:G.PM n)(A:OA)(c:Nat)(w:World)(ha:aW w A (G.pl p))(hn:n≤1000):Calls Tryz.prog 156 #[.slice A n c] w (eE w (G.pl p.inv)):=by
 obtain⟨cs,hcs,hcv,hmk⟩:=kI n qo;have HO:=qh (gL w cs n qo hcs hcv);have HB:=qh ((Below.refl w.heap.size w).alloc ql (.cells cs 2));have HA:=qh ha;clear hcv ha
 go_enter Tryz.func156,Tryz.ntmps156
 go_wp2_with fail
 clear hmk
 go_loopw [4] (fun x wr=>∃k:Nat,k≤n∧x=.int .i64 k∧Hq (wr.ownsRow w.heap.size 2 1 (.slice (some ⟨w.heap.size,0,none⟩) n n) n (ints (bV p k)))∧Hq (Below w.heap.size w wr)) (fun x _=>n-(intOf x).toNat)
 case atStart=>exact⟨0,Nat.zero_le _,rfl,qh (by rw[j4];exact HO.o),HB⟩
 case round=>
  obtain⟨k,hk,rfl,aL,HB2⟩:=hrel
  by_cases hlt:k<n
  ·obtain⟨ga,o,rfl,hg,hr⟩:=HA.o (by rw[G.a7];omega)
   have hc:=a6 HB2.o hg (hr k (by rw[G.a7];exact hlt))
   simp only[G.cC p hlt]at hc
   have hp:=p.lt hlt;have bI:=qh (j5 p hlt);obtain⟨P,hP⟩:=qx (p.f k);rw[←hP]at hp bI
   simp only[←hP]at hc
   have hl:(ints (bV p k)).length=n:=by simp[ints,bV]
   have hcell:wr.cell? ⟨w.heap.size,P,none⟩=(ints (bV p k))[P]?:=aL.o.cellAt P qo;obtain⟨y,hy⟩:∃y,wr.cell? ⟨w.heap.size,P,none⟩=some y:=⟨_,hcell.trans (List.getElem?_eq_getElem qo)⟩;have hf:=aL.o.frozenAt P;have HST:=qh (aL.o.stored P (.int .i64 k)).1;have HB3:=qh (Below.setCell (p:=⟨w.heap.size,P,none⟩) HB2.o ql (.int .i64 k));have b1:(0:Int)≤(k:Int):=qo;have b2:(k:Int)<(n:Int):=qo;have b3:(0:Int)≤(P:Int):=qo;have b4:(P:Int)<(n:Int):=qo;clear hr hP hcell hl
   go_wp2
   go_roundw
   case rel=>exact⟨k+1,by omega,qg,qh (by
    have h:=HST.o;rw[show(ints (bV p k)).set P (.int .i64 k)=ints ((bV p k).set P k)by simp[ints,List.map_set],bI.o]at h;exact h),HB3⟩
   case measure=>exact qs
  ·obtain rfl:n=k:=qo
   go_wp2
   go_ret
   exact⟨_,rfl,by rw[G.a7,←kN];exact aL.o,HB2.o⟩
theorem fO {n:Nat}(p:G.PM n)(A:OA)(c:Nat)(w:World)(ha:aW w A (G.pl p))(hn:n≤1000):Calls Tryz.prog 140 #[.slice A n c] w (eE w (G.bA p.f n)):=by
 obtain⟨i0,hi,iz,is,ib⟩:=info_parts info64;have HO:=qh (World.ownsRow_made (e:=2) (size:=1) w #[] 0 ql qm rfl);have HB:=qh ((Below.refl w.heap.size w).alloc ql (.cells #[] 2));have HA:=qh ha;clear ha
 go_enter Tryz.func140,Tryz.ntmps140
 go_wp2_with fail
 go_loopw [3,4] (fun v x wr=>∃k:Nat,1≤k∧(k≤n∨k=1)∧x=.int .i64 k∧Hq (wr.ownsRow w.heap.size 2 1 v (G.bA p.f k).length (ints (G.bA p.f k)))∧Hq (Below w.heap.size w wr)) (fun _ x _=>n-(intOf x).toNat)
 case atStart=>exact⟨1,Nat.le_refl _,.inr rfl,rfl,HO,HB⟩
 case round=>
  obtain⟨k,hk1,hk,rfl,aL,HB2⟩:=hrel
  by_cases hlt:k<n
  ·obtain⟨ga,o,rfl,hg,hr⟩:=HA.o (by rw[G.a7];omega)
   have hc:=a6 HB2.o hg (hr k (by rw[G.a7];exact hlt));have hc0:=a6 HB2.o hg (hr (k-1) (by rw[G.a7];omega))
   simp only[G.cC p hlt]at hc
   simp only[G.cC p (show k-1<n by omega)]at hc0
   have bI:=qh (show G.bA p.f (k+1)=G.bA p.f k++(if 1≤k∧p.f k<p.f (k-1)then [(k:Int)]else [])from rfl);have hll:=G.cP p.f k;obtain⟨j,rfl⟩:∃j,k=j+1:=⟨k-1,by omega⟩;rw[Nat.add_sub_cancel]at hc0 bI;obtain⟨P,hP⟩:=qx (p.f (j+1));obtain⟨Q,hQ⟩:=qx (p.f j);rw[←hP,←hQ]at bI
   simp only[←hP]at hc
   simp only[←hQ]at hc0
   have e1:((j+1:Nat):Int)-1=(j:Int):=qo;have b1:(0:Int)≤((j+1:Nat):Int):=qo;have b2:((j+1:Nat):Int)<(n:Int):=qo;have b3:(0:Int)≤(j:Int):=qo;have b4:(j:Int)<(n:Int):=qo;clear hr hP hQ
   by_cases hd:P<Q
   ·have jC:=qh (show G.bA p.f (j+1+1)=G.bA p.f (j+1)++[((j+1:Nat):Int)]by rw[bI.o,if_pos ⟨by omega,hd⟩])
    have hdb:(P:Int)<(Q:Int):=qo
    go_wp2_with fail
    go_quiet (fail)
    have dA:=qh (own_drewN aL.o nq);have aI:=qh (Below.drewN' HB2.o nq)
    go_wp2_with (at_builtin;go_must (refine aC (wr.drewN nq) rfl (.tmp 22) (.tmp 24) _ rfl w.heap.size 2 i0 _ 1 8 Tryz.underlying57 hi iz is ib rfl qo u3 _ _ rfl dA.o _ 1 1 _ rfl rfl (by simp[Value.oneCell']) qm qo aI.o.size ?_);intro v' w' hown' hb';have dB:=qh hown';have HB3:=qh (aI.o.trans hb');clear hown' hb')
    go_roundw
    case rel=>exact⟨j+1+1,by omega,.inl qo,qg,qh (by rw[jC.o,eB,List.length_append];exact dB.o),HB3⟩
    case measure=>exact qs
   ·have jC:=qh (show G.bA p.f (j+1+1)=G.bA p.f (j+1)by rw[bI.o,if_neg (fun h=>hd h.2),List.append_nil])
    have hdb:¬(P:Int)<(Q:Int):=qo
    go_wp2_with fail
    go_quiet (fail)
    go_wp2_with fail
    go_roundw
    case rel=>exact⟨j+1+1,by omega,.inl qo,qg,qh (by rw[jC.o];exact own_drewN aL.o nq),qh (Below.drewN' HB2.o nq)⟩
    case measure=>exact qs
  ·go_wp2
   go_ret
   have e:G.bA p.f k=G.bA p.f n:=by
    rcases hk with hk|rfl
    ·rw[show k=n by omega]
    ·rcases(show n=0∨n=1 by omega)with rfl|rfl
     ·rfl
     ·rfl
   exact⟨_,rfl,by rw[←e];exact aL.o,HB2.o⟩
end Go.Proofs.YtmnbgjnipbpiaaaGreatDoor
