/- Walks and plain lemmas. -/
import Derived.Test.YtmnbgjnipbpiaaaGreatDoorP18
import Derived.Test.YtmnbgjnipbpiaaaGreatDoorP19
set_option linter.unusedVariables false
set_option linter.unusedSimpArgs false
set_option maxRecDepth 20000
namespace Go.Proofs.YtmnbgjnipbpiaaaGreatDoor
open Go.RowKit
def cA (n:Nat)(F:Nat→Nat)(k:Nat):List Int:=(List.range n).map fun j=>if j<k then(F j:Int)else 0
theorem nA (n:Nat)(F:Nat→Nat):cA n F 0=List.replicate n 0:=by
 apply List.ext_getElem?
 intro j
 by_cases hj:j<n
 ·simp[cA,hj]
 ·simp[cA,hj]
theorem nB (n:Nat)(F:Nat→Nat){k:Nat}(hk:k<n):(cA n F k).set k (F k:Int)=cA n F (k+1):=by
 apply List.ext_getElem?
 intro j;rw[List.getElem?_set]
 by_cases hjk:k=j
 ·subst hjk
  rw[if_pos rfl,if_pos (by simp[cA];omega)]
  simp[cA,hk]
 ·rw[if_neg hjk]
  by_cases hj:j<n
  ·simp only[cA,List.getElem?_map,List.getElem?_range hj,Option.map_some]
   by_cases h:j<k
   ·rw[if_pos h,if_pos qo]
   ·rw[if_neg h,if_neg qo]
  ·simp[cA,hj]
theorem oK {n:Nat}(p:G.PM n):cA n p.f n=G.pl p:=by
 refine List.map_congr_left fun j hj=>?_;rw[if_pos (List.mem_range.1 hj)]
theorem m7 (n:Nat)(w:World)(hn:n≤1000):Calls Tryz.prog 107 #[.int .i64 n] w (eE w (G.pl (G.one:G.PM n))):=by
 obtain⟨cs,hcs,hcv,hmk⟩:=kI n qo;have HO:=qh (gL w cs n qo hcs hcv);have HB:=qh ((Below.refl w.heap.size w).alloc ql (.cells cs 2));clear hcv
 go_enter Tryz.func107,Tryz.ntmps107
 go_wp2_with fail
 clear hmk
 go_loopw [9] (fun x wr=>∃k:Nat,k≤n∧x=.int .i64 k∧Hq (wr.ownsRow w.heap.size 2 1 (.slice (some ⟨w.heap.size,0,none⟩) n n) n (ints (cA n (fun j=>j) k)))∧Hq (Below w.heap.size w wr)) (fun x _=>n-(intOf x).toNat)
 case atStart=>exact⟨0,Nat.zero_le _,rfl,qh (by rw[nA];exact HO.o),HB⟩
 case round=>
  obtain⟨k,hk,rfl,aL,HB2⟩:=hrel
  by_cases hlt:k<n
  ·have bI:=qh (nB n (fun j=>j) hlt)
   have hl:(ints (cA n (fun j=>j) k)).length=n:=by simp[ints,cA]
   obtain⟨y,hy⟩:∃y,wr.cell? ⟨w.heap.size,k,none⟩=some y:=⟨_,(aL.o.cellAt k qo).trans (List.getElem?_eq_getElem qo)⟩;have hf:=aL.o.frozenAt k;have HST:=qh (aL.o.stored k (.int .i64 k)).1;have HB3:=qh (Below.setCell (p:=⟨w.heap.size,k,none⟩) HB2.o ql (.int .i64 k));have b1:(0:Int)≤(k:Int):=qo;have b2:(k:Int)<(n:Int):=qo;clear hl
   go_wp2
   go_roundw
   case rel=>exact⟨k+1,by omega,qg,qh (by
    have h:=HST.o;rw[show(ints (cA n (fun j=>j) k)).set k (.int .i64 k)=ints ((cA n (fun j=>j) k).set k (k:Int))by simp[ints,List.map_set],bI.o]at h;exact h),HB3⟩
   case measure=>exact qs
  ·obtain rfl:n=k:=qo
   go_wp2
   go_ret
   exact⟨_,rfl,by rw[G.a7,←oK];exact aL.o,HB2.o⟩
theorem n5 {n:Nat}(p:G.PM n)(A:OA)(c:Nat)(w:World)(ha:aW w A (G.pl p))(hn:n≤1000):Calls Tryz.prog 143 #[.slice A n c] w (eE w (G.pl p.inv)):=by
 obtain⟨cs,hcs,hcv,hmk⟩:=kI n qo;have HO:=qh (gL w cs n qo hcs hcv);have HB:=qh ((Below.refl w.heap.size w).alloc ql (.cells cs 2));have HA:=qh ha;clear hcv ha
 go_enter Tryz.func143,Tryz.ntmps143
 go_wp2_with fail
 clear hmk
 go_loopw [11] (fun x wr=>∃k:Nat,k≤n∧x=.int .i64 k∧Hq (wr.ownsRow w.heap.size 2 1 (.slice (some ⟨w.heap.size,0,none⟩) n n) n (ints (bV p k)))∧Hq (Below w.heap.size w wr)) (fun x _=>n-(intOf x).toNat)
 case atStart=>exact⟨0,Nat.zero_le _,rfl,qh (by rw[j4];exact HO.o),HB⟩
 case round=>
  obtain⟨k,hk,rfl,aL,HB2⟩:=hrel
  by_cases hlt:k<n
  ·obtain⟨ga,o,rfl,hg,hr⟩:=HA.o (by rw[G.a7];omega)
   have hc:=a6 HB2.o hg (hr k (by rw[G.a7];exact hlt))
   simp only[G.cC p hlt]at hc
   have hp:=p.lt hlt;have bI:=qh (j5 p hlt);obtain⟨P,hP⟩:=qx (p.f k);rw[←hP]at hp bI
   simp only[←hP]at hc
   have hl:(ints (bV p k)).length=n:=by simp[ints,bV]
   obtain⟨y,hy⟩:∃y,wr.cell? ⟨w.heap.size,P,none⟩=some y:=⟨_,(aL.o.cellAt P qo).trans (List.getElem?_eq_getElem qo)⟩;have hf:=aL.o.frozenAt P;have HST:=qh (aL.o.stored P (.int .i64 k)).1;have HB3:=qh (Below.setCell (p:=⟨w.heap.size,P,none⟩) HB2.o ql (.int .i64 k));have b1:(0:Int)≤(k:Int):=qo;have b2:(k:Int)<(n:Int):=qo;have b3:(0:Int)≤(P:Int):=qo;have b4:(P:Int)<(n:Int):=qo;clear hr hP hl
   go_wp2
   go_roundw
   case rel=>exact⟨k+1,by omega,qg,qh (by
    have h:=HST.o;rw[show(ints (bV p k)).set P (.int .i64 k)=ints ((bV p k).set P k)by simp[ints,List.map_set],bI.o]at h;exact h),HB3⟩
   case measure=>exact qs
  ·obtain rfl:n=k:=qo
   go_wp2
   go_ret
   exact⟨_,rfl,by rw[G.a7,←kN];exact aL.o,HB2.o⟩
def d4 (f:Nat→Nat)(k:Nat):List Int:=(G.bA f k).map fun x=>x-1
theorem pV (f:Nat→Nat)(k:Nat):d4 f (k+1)=d4 f k++(if 1≤k∧f k<f (k-1)then [(k:Int)-1]else []):=by
 have h:G.bA f (k+1)=G.bA f k++(if 1≤k∧f k<f (k-1)then [(k:Int)]else []):=rfl;rw[d4,h,List.map_append]
 congr 1
 split<;>rfl
theorem hH (f:Nat→Nat)(k:Nat):(d4 f k).length≤k:=by
 rw[d4,List.length_map];exact G.cP f k
theorem kV {n:Nat}(p:G.PM n)(A:OA)(c:Nat)(w:World)(ha:aW w A (G.pl p))(hn:n≤1000):Calls Tryz.prog 155 #[.slice A n c] w (eE w (d4 p.f n)):=by
 obtain⟨i0,hi,iz,is,ib⟩:=info_parts info64;have HO:=qh (World.ownsRow_made (e:=2) (size:=1) w #[] 0 ql qm rfl);have HB:=qh ((Below.refl w.heap.size w).alloc ql (.cells #[] 2));have HA:=qh ha;clear ha
 go_enter Tryz.func155,Tryz.ntmps155
 go_wp2_with fail
 go_loopw [3,4] (fun v x wr=>∃k:Nat,(k<n∨k=0)∧x=.int .i64 k∧Hq (wr.ownsRow w.heap.size 2 1 v (d4 p.f (k+1)).length (ints (d4 p.f (k+1))))∧Hq (Below w.heap.size w wr)) (fun _ x _=>n-(intOf x).toNat)
 case atStart=>exact⟨0,.inr rfl,rfl,HO,HB⟩
 case round=>
  obtain⟨k,hk,rfl,aL,HB2⟩:=hrel
  by_cases hlt:k+1<n
  ·obtain⟨ga,o,rfl,hg,hr⟩:=HA.o (by rw[G.a7];omega)
   have hc:=a6 HB2.o hg (hr (k+1) (by rw[G.a7];exact hlt));have hc0:=a6 HB2.o hg (hr k (by rw[G.a7];omega))
   simp only[G.cC p hlt]at hc
   simp only[G.cC p (show k<n by omega)]at hc0
   have bI:=qh (pV p.f (k+1));rw[Nat.add_sub_cancel]at bI;have hll:=hH p.f (k+1);obtain⟨P,hP⟩:=qx (p.f (k+1));obtain⟨Q,hQ⟩:=qx (p.f k);rw[←hP,←hQ]at bI
   simp only[←hP]at hc
   simp only[←hQ]at hc0
   have b0:(k:Int)+1<(n:Int):=qo;have b1:(0:Int)≤(k:Int)+1:=qo;have b3:(0:Int)≤(k:Int):=qo;have b4:(k:Int)<(n:Int):=qo;clear hr hP hQ
   by_cases hd:P<Q
   ·have jC:=qh (show d4 p.f (k+1+1)=d4 p.f (k+1)++[(k:Int)]by rw[bI.o,if_pos ⟨by omega,hd⟩,show((k+1:Nat):Int)-1=k by omega])
    have hdb:(P:Int)<(Q:Int):=qo
    go_wp2_with fail
    go_quiet (fail)
    have dA:=qh (own_drewN aL.o nq);have aI:=qh (Below.drewN' HB2.o nq)
    go_wp2_with (at_builtin;go_must (refine aC (wr.drewN nq) rfl (.tmp 23) (.tmp 25) _ rfl w.heap.size 2 i0 _ 1 8 Tryz.underlying57 hi iz is ib rfl qo u3 _ _ rfl dA.o _ 1 1 _ rfl rfl (by simp[Value.oneCell']) qm qo aI.o.size ?_);intro v' w' hown' hb';have dB:=qh hown';have HB3:=qh (aI.o.trans hb');clear hown' hb')
    go_roundw
    case rel=>exact⟨k+1,.inl qo,qg,qh (by rw[jC.o,eB,List.length_append];exact dB.o),HB3⟩
    case measure=>exact qs
   ·have jC:=qh (show d4 p.f (k+1+1)=d4 p.f (k+1)by rw[bI.o,if_neg (fun h=>hd h.2),List.append_nil])
    have hdb:¬(P:Int)<(Q:Int):=qo
    go_wp2_with fail
    go_quiet (fail)
    go_wp2_with fail
    go_roundw
    case rel=>exact⟨k+1,.inl qo,qg,qh (by rw[jC.o];exact own_drewN aL.o nq),qh (Below.drewN' HB2.o nq)⟩
    case measure=>exact qs
  ·have b0:¬(k:Int)+1<(n:Int):=qo
   go_wp2
   go_ret
   have e:d4 p.f (k+1)=d4 p.f n:=by
    rcases hk with hk|rfl
    ·rw[show k+1=n by omega]
    ·rcases(show n=0∨n=1 by omega)with rfl|rfl
     ·rfl
     ·rfl
   exact⟨_,rfl,by rw[←e];exact aL.o,HB2.o⟩
def dG (L:List Int)(k:Nat):List Int:=(L.take k).map (fun x=>x+1)++L.drop k
theorem lS (L:List Int)(k:Nat):(dG L k).length=L.length:=by simp[dG];omega
theorem pF {L:List Int}{k:Nat}(hk:k<L.length):(dG L k)[k]?=L[k]?:=by
 simp only[dG]
 rw[List.getElem?_append_right (by simp;omega),List.getElem?_drop]
 congr 1
 simp
 omega
theorem oE {L:List Int}{k:Nat}(hk:k<L.length):(dG L k).set k (L.getD k 0+1)=dG L (k+1):=by
 simp only[dG]
 rw[List.set_append,if_neg (by simp;omega)];have e:((L.take k).map fun x=>x+1).length=k:=by simp;omega
 rw[e,Nat.sub_self,List.drop_eq_getElem_cons hk,List.set_cons_zero,List.take_succ_eq_append_getElem hk,List.map_append,List.append_assoc]
 simp[List.getD,hk]
theorem pG (f:Nat→Nat)(n:Nat):dG (d4 f n) (d4 f n).length=G.bA f n:=by
 simp only[dG]
 rw[List.take_length,List.drop_length,List.append_nil,d4,List.map_map]
 conv=>rhs;rw[←List.map_id (G.bA f n)]
 exact List.map_congr_left fun x _=>by simp
theorem oN (f:Nat→Nat)(n:Nat)(x:Int)(h:x∈d4 f n): -1≤x∧x≤n:=by
 obtain⟨y,hy,rfl⟩:=List.mem_map.1 h;obtain⟨k,rfl,_,h2,_⟩:=G.r8.1 hy;omega
theorem dY {n:Nat}(p:G.PM n)(A:OA)(c:Nat)(w:World)(ha:aW w A (G.pl p))(hn:n≤1000):Calls Tryz.prog 142 #[.slice A n c] w (eE w (G.bA p.f n)):=by
 go_enter Tryz.func142,Tryz.ntmps142
 go_wp2_with fail
 refine(kV p A c w ha hn).mono ?_;clear ha;rintro e w1 h1;obtain⟨A1,c1,rfl,ho1,hr1,hb1⟩:=h1.rd;have eM:=qh (pG p.f n);have bQ:=qh (oN p.f n);have hll:=hH p.f n;obtain⟨L,hL⟩:=qx (d4 p.f n);rw[←hL]at eM bQ hll ho1 hr1 ⊢;have vQ:=qh ho1;have HB1:=qh hb1;clear h1 ho1 hr1 hb1 hL;obtain⟨m,hm⟩:=qx (L.length);rw[←hm]at vQ eM hll ⊢;have HM:=qh hm;clear hm
 go_wp2_with fail
 go_loopw [9] (fun x wr=>∃k:Nat,k≤m∧x=.int .i64 k∧Hq (wr.ownsRow w.heap.size 2 1 (.slice A1 m c1) m (ints (dG L k)))∧Hq (Below w.heap.size w wr)) (fun x _=>m-(intOf x).toNat)
 case atStart=>exact⟨0,Nat.zero_le _,rfl,qh (by simp only[dG,List.take_zero,List.map_nil,List.drop_zero,List.nil_append];exact vQ.o),HB1⟩
 case round=>
  obtain⟨k,hk,rfl,aL,HB2⟩:=hrel
  by_cases hlt:k<m
  ·obtain⟨g1,rfl⟩:∃g1,A1=some ⟨g1,0,none⟩:=by
    rcases aL.o.2 with⟨_,h0⟩|⟨g1,cap,_,e,_⟩
    ·omega
    ·injection e with e _ _
     exact⟨g1,e⟩
   have hkl:k<L.length:=by rw[←HM.o];exact hlt
   have hc:wr.cell? ⟨g1,k,none⟩=some (.int .i64 (L.getD k 0)):=by
    rw[aL.o.cellAt k qo]
    simp[ints,pF hkl,List.getD,hkl]
   have bI:=qh (oE hkl);have hbd:=bQ.o (L.getD k 0) (by simp[List.getD,hkl]);obtain⟨x,hx⟩:=qx (L.getD k 0);rw[←hx]at hbd bI
   simp only[←hx]at hc
   have hf:=aL.o.frozenAt k;have s1:IntKind.i64.wrap (x+1)=x+1:=IntWalk.i64_in _ qo;have HST:=qh (aL.o.stored k (.int .i64 (x+1))).1;have HB3:=qh (Below.setCell (p:=⟨g1,k,none⟩) HB2.o (aL.o.lt g1 rfl).1 (.int .i64 (x+1)));have b1:(0:Int)≤(k:Int):=qo;have b2:(k:Int)<(m:Int):=qo;clear hx
   go_wp2
   go_roundw
   case rel=>exact⟨k+1,by omega,qg,qh (by
    have h:=HST.o;rw[show(ints (dG L k)).set k (.int .i64 (x+1))=ints ((dG L k).set k (x+1))by simp[ints,List.map_set],bI.o]at h;exact h),HB3⟩
   case measure=>exact qs
  ·obtain rfl:m=k:=qo
   go_wp2
   go_ret
   have h:=aL.o;rw[eM.o]at h;refine⟨_,rfl,?_,HB2.o⟩;have e:(G.bA p.f n).length=m:=by rw[←eM.o,lS];exact HM.o.symm
   rw[e];exact h
def xO (w:World)(n:Nat)(L:List Int)(e:Ending)(w':World):Prop:=∃A c,e=.returned (.slice A n c)∧aW w' A L∧Below w.heap.size w w'∧∀m b,Fb A m b→w.heap.size≤b
theorem aY.vZ {w:World}{B g n c:Nat}{xs:List Value}(ho:w.ownsRow B 2 1 (.slice (some ⟨g,0,none⟩) n c) n xs):aY w g 0 n:=by
 have h:=aY.eA ho;rwa[Nat.mul_one]at h
theorem jV (n:Nat)(w:World)(hn:n≤1000)(h0:1≤n):Calls Tryz.prog 78 #[.int .i64 n] w (xO w n (G.pl (G.del:G.PM n))):=by
 go_enter Tryz.func78,Tryz.ntmps78
 go_wp2_with fail
 refine(m7 n _ hn).mono ?_;rintro e w1 ⟨v1,rfl,ho1,hb1⟩;rw[G.a7]at ho1;obtain⟨g1,c1,rfl⟩:∃g1 c1,v1=.slice (some ⟨g1,0,none⟩) n c1:=by
  rcases ho1.2 with⟨_,h0⟩|⟨g1,cap,_,e,_⟩
  ·omega
  ·exact⟨g1,cap,e⟩
 have hg1:=ho1.lt g1 rfl;have hw:=aY.vZ ho1;have hr:b9 w1 g1 0 n (fun j=>.int .i64 ((fun(i:Nat)=>(i:Int)) j)):=fun j hj=>by
  rw[Nat.zero_add,ho1.cellAt j qo]
  simp[ints,G.pl,hj,G.one]
 have sZ:=qh (jI g1 n c1 (fun(i:Nat)=>(i:Int)) w1 hw hr qo);have HB1:=qh hb1;clear hw hr ho1 hb1
 go_wp2_with fail
 refine sZ.o.mono ?_;rintro e w2 ⟨rfl,ho,hw,hr⟩;have HB2:=qh (HB1.o.trans ((Fr.m2 (F:=fun x=>x=g1) ho rfl).below (B:=w.heap.size) qo (fun b hb=>by rw[hb];exact hg1.1)));have HR:=qh (show aW w2 (some ⟨g1,0,none⟩) (G.pl (G.del:G.PM n))from fun _=>by
  refine⟨g1,0,rfl,Nat.lt_of_lt_of_le hg1.2 (Fr.m2 (F:=fun x=>x=g1) ho rfl).size,fun j hj=>?_⟩;rw[G.a7]at hj;rw[hr j hj]
  simp only[G.cC _ hj]
  show some (Value.int .i64 ((n-1-j:Nat):Int))=some (.int .i64 ((G.rev n j:Nat):Int));rw[G.aK hj])
 clear ho hw hr sZ
 go_wp2_with fail
 go_ret
 exact⟨_,_,rfl,HR.o,HB2.o,fun m b ⟨_,a,ha,hb⟩=>by injection ha with ha;rw[←hb,←ha];exact hg1.1⟩
def wJ (w:World)(b:Bool)(e:Ending)(w':World):Prop:=∃i:Int,e=.returned (.int .i64 i)∧ -1≤i∧i≤2000000∧decide (0≤i)=b∧w=w'
theorem n8 (A:OA)(c:Nat)(L:List Int)(x:Int)(w:World)(ha:aW w A L)(hn:L.length≤1048576):
 Calls Tryz.prog 157 #[.slice A L.length c,.int .i64 x] w (wJ w (decide (x∈L))):=by
 have HA:=qh ha;clear ha
 go_enter Tryz.func157,Tryz.ntmps157
 go_wp2
 go_loop [8] (fun i=>∃k:Nat,k≤L.length∧i=.int .i64 k∧Hq (x∉L.take k)) (fun i=>L.length-(intOf i).toNat)
 case atStart=>exact⟨0,Nat.zero_le _,rfl,qh qj⟩
 case round=>
  obtain⟨k,hk,rfl,HX⟩:=hrel
  by_cases hlt:k<L.length
  ·obtain⟨ga,o,rfl,hg,hr⟩:=HA.o qo
   have hc:=hr k hlt;have HM:=qh (dP hlt x);obtain⟨y,hy⟩:=qx (L.getD k 0)
   simp only[←hy]at hc HM
   have HY:=qh (show y∈L by rw[hy];simp[List.getD,hlt]);have b1:(0:Int)≤(k:Int):=qo;have b2:(k:Int)<(L.length:Int):=qo;clear hr hy
   by_cases hxy:x=y
   ·subst hxy
    have HD:=qh (show decide (x∈L)=true from decide_eq_true HY.o)
    go_wp2
    go_ret
    exact⟨k,rfl,by omega,by omega,by rw[HD.o];exact decide_eq_true qo,rfl⟩
   ·have hxb:(x==y)=false:=by simpa using hxy
    go_wp2
    go_round
    case rel=>exact⟨k+1,by omega,qg,qh (by rw[HM.o];rintro(h|h);exact HX.o h;exact hxy h)⟩
    case measure=>exact qs
  ·obtain rfl:L.length=k:=qo
   have HD:=qh (show decide (x∈L)=false from decide_eq_false (by have:=HX.o;rwa[List.take_length]at this))
   go_wp2
   go_ret
   exact⟨-1,rfl,by omega,by omega,by rw[HD.o];rfl,rfl⟩
theorem jX (A:OA)(c:Nat)(L:List Int)(x:Int)(w:World)(ha:aW w A L)(hn:L.length≤1048576):
 Calls Tryz.prog 144 #[.slice A L.length c,.int .i64 x] w fun e w'=>e=.returned (.bool (decide (x∈L)))∧w=w':=by
 go_enter Tryz.func144,Tryz.ntmps144
 go_wp2_with fail
 refine(n8 A c L x w ha hn).mono ?_;rintro e w1 ⟨i,rfl,h1,h2,h3,rfl⟩;have H3:=qh h3;clear h3
 go_wp2_with fail
 go_ret
 exact⟨by rw[←H3.o];first|rfl|simp,rfl⟩
theorem lK {n:Nat}(p q:G.PM n)(A B:OA)(c c':Nat)(w:World)(ha:aW w A (G.pl p))(hb:aW w B (G.pl q))(hn:n≤1000):
 Calls Tryz.prog 108 #[.slice A n c,.slice B n c'] w fun e w'=>e=.returned (.int .i64 (G.ext p q))∧Below w.heap.size w w':=by
 have HA:=qh ha;have HB:=qh hb;clear ha hb
 go_enter Tryz.func108,Tryz.ntmps108
 go_wp2_with fail
 refine(n5 p A c _ HA.o hn).mono ?_;rintro e w0 h0;obtain⟨A0,c0,rfl,_,hr0,hb0⟩:=h0.rd;have vO:=qh hr0;have HB0:=qh hb0;have tK:=qh (Rd.below HB.o hb0);rw[G.a7];clear h0 hr0 hb0
 go_wp2_with fail
 refine(dY p.inv A0 c0 _ vO.o hn).mono ?_;rintro e w1 h1;obtain⟨A1,c1,rfl,_,hr1,hb1⟩:=h1.rd;have HR1:=qh (show aW w1 A1 (G.bA p.g n)from hr1);have HB1:=HB0.st hb1;have p2:=qh (Rd.below tK.o hb1);have e1:(G.bA p.inv.f n).length=(G.bA p.g n).length:=rfl;rw[e1];clear h1 hr1 hb1 e1 vO HB0 tK
 go_wp2_with fail
 refine(dY q B c' _ p2.o hn).mono ?_;rintro e w2 h2;obtain⟨A2,c2,rfl,_,hr2,hb2⟩:=h2.rd;have HR2:=qh hr2;have HB2:=HB1.st hb2;have HR3:=qh (Rd.below HR1.o hb2);have hs1:=G.cP p.g n;have hs2:=G.cP q.f n;have fU:=qh (show G.ext p q=G.fm (G.bA p.g n) (G.bA q.f n)from rfl);clear h2 hr2 hb2 HR1 HB p2;obtain⟨E,hE⟩:=qx (G.bA p.g n);obtain⟨S,hS⟩:=qx (G.bA q.f n)
 simp only[←hE,←hS]at HR2 HR3 fU hs1 hs2 ⊢
 clear hE hS
 go_wp2_with fail
 go_loopw [14] (fun x wr=>∃i:Nat,i≤S.length∧x=.int .i64 i∧wr=w2∧Hq (∀y∈S.take i,y∈E)) (fun x _=>S.length-(intOf x).toNat)
 case atStart=>exact⟨0,Nat.zero_le _,rfl,rfl,qh qj⟩
 case round=>
  obtain⟨i,hi,rfl,rfl,HX⟩:=hrel
  by_cases hlt:i<S.length
  ·obtain⟨gs,o,rfl,hg,hr⟩:=HR2.o qo
   have hc:=hr i hlt;have HT:=qh (show S.take (i+1)=S.take i++[S.getD i 0]by rw[List.take_succ_eq_append_getElem hlt];simp[List.getD,hlt]);have HD:=qh (show S.drop i=S.getD i 0::S.drop (i+1)by rw[List.drop_eq_getElem_cons hlt];simp[List.getD,hlt]);obtain⟨y,hy⟩:=qx (S.getD i 0)
   simp only[←hy]at hc HT HD
   have b1:(0:Int)≤(i:Int):=qo;have b2:(i:Int)<(S.length:Int):=qo;clear hr hy
   go_wp2_with fail
   refine(jX A1 c1 E y _ HR3.o qo).mono ?_;rintro e w3 ⟨rfl,rfl⟩
   by_cases hm:y∈E
   ·rw[decide_eq_true hm]
    go_wp2
    go_roundw
    case rel=>exact⟨i+1,by omega,qg,by trivial,qh (by
     rw[HT.o];intro z hz
     rcases List.mem_append.1 hz with h|h
     ·exact HX.o z h
     ·rw[List.mem_singleton.1 h]
      exact hm)⟩
    case measure=>exact qs
   ·rw[decide_eq_false hm]
    have sO:=qh (show G.ext p q=y by
     have h1:=fU.o;rw[←List.take_append_drop i S,G.gZ _ _ _ HX.o,HD.o]at h1;rw[h1]
     simp only[G.fm]
     rw[if_neg hm])
    go_wp2
    go_ret
    exact⟨by rw[sO.o];rfl,HB2.o⟩
  ·obtain rfl:S.length=i:=qo
   have HX0:=qh (show G.ext p q=0 by
    have h1:=fU.o;have h2:=HX.o;rw[List.take_length]at h2;rw[h1,←List.append_nil S,G.gZ _ _ _ h2]
    rfl)
   go_wp2
   go_ret
   exact⟨by rw[HX0.o];rfl,HB2.o⟩
def iL (n:Nat)(bs cs:Nat→Nat)(j:Nat):Value:=.slice (some ⟨bs j,0,none⟩) n (cs j)
structure bH {n:Nat}(B:Nat)(v:Value)(L:List (G.PM n))(bs cs:Nat→Nat)(w:World):Prop where
 own:OwnAt w B 57 v L.length ((List.range L.length).map (iL n bs cs))
 mB:∀j p,L[j]?=some p→w.ownsRow B 2 1 (.slice (some ⟨bs j,0,none⟩) n (cs j)) n (ints (G.pl p))
 inj:∀i j,i<L.length→j<L.length→bs i=bs j→i=j
 far:∀j,j<L.length→¬v.ownBlock=some (bs j)
def qJ (v:Value)(N:Nat)(bs:Nat→Nat)(x:Nat):Prop:=v.ownBlock=some x∨∃j,j<N∧bs j=x
section
variable {n:Nat}{B:Nat}{v v':Value}{L:List (G.PM n)}{bs cs:Nat→Nat}{w w':World}
theorem bH.lt (h:bH B v L bs cs w){x:Nat}(hx:qJ v L.length bs x):B≤x∧x<w.heap.size:=by
 rcases hx with hx|⟨j,hj,rfl⟩
 ·exact h.own.lt x hx
 ·exact(h.mB j _ (List.getElem?_eq_getElem hj)).lt (bs j) rfl
theorem bH.keep (h:bH B v L bs cs w)(hk:∀x,qJ v L.length bs x→w'.heap[x]?=w.heap[x]?):bH B v L bs cs w':=
 ⟨h.own.blk fun b hb=>hk b (.inl hb),fun j p hp=>bT (h.mB j p hp) fun b hb=>by
  injection hb with hb;exact hk b (.inr ⟨j,(List.getElem?_eq_some_iff.1 hp).1,hb⟩),h.inj,h.far⟩
theorem bH.below (h:bH B v L bs cs w)(hb:Below w.heap.size w w'):bH B v L bs cs w':=h.keep fun x hx=>hb.block x (h.lt hx).2
theorem bH.drewN (h:bH B v L bs cs w)(q:Nat):bH B v L bs cs (w.drewN q):=h.keep fun _ _=>rfl
theorem bH.fr {F:Nat→Prop}(h:bH B v L bs cs w)(hf:Fr w w' F)(hF:∀x,qJ v L.length bs x→¬F x):bH B v L bs cs w':=h.keep fun x hx=>hf.block x (h.lt hx).2 (hF x hx)
theorem bH.base {B':Nat}(h:bH B v L bs cs w)(hB:B'≤B):bH B' v L bs cs w:=⟨h.own.base hB,fun j p hp=>gK (h.mB j p hp) hB,h.inj,h.far⟩
theorem bH.nil {v:Value}(ho:OwnAt w B 57 v 0 [])(bs cs:Nat→Nat):bH B v ([]:List (G.PM n)) bs cs w:=⟨ho,fun j p hp=>by simp at hp,fun i j hi=>absurd hi (Nat.not_lt_zero i),fun j hj=>absurd hj (Nat.not_lt_zero j)⟩
theorem bH.form (h:bH B v L bs cs w)(hn:0<L.length):∃g o cap,v=.slice (some ⟨g,o,none⟩) L.length cap∧g<w.heap.size∧B≤g:=by
 obtain⟨g,o,cap,e,_,hB,hg⟩:=h.own.form hn;exact⟨g,o,cap,e,hg,hB⟩
theorem bH.cell {g o cap:Nat}(h:bH B (.slice (some ⟨g,o,none⟩) L.length cap) L bs cs w){j:Nat}(hj:j<L.length):w.cell? ⟨g,o+j,none⟩=some (.slice (some ⟨bs j,0,none⟩) n (cs j)):=by
 rw[h.own.cellAt hj]
 simp[hj,iL]
theorem bH.frozen {g o cap:Nat}(h:bH B (.slice (some ⟨g,o,none⟩) L.length cap) L bs cs w)(j:Nat):w.frozen? ⟨g,j,none⟩=false:=h.own.frozenAt j
theorem bH.put {g o cap:Nat}(h:bH B (.slice (some ⟨g,o,none⟩) L.length cap) L bs cs w){i:Nat}(hi:i<L.length){b c:Nat}{p:G.PM n}(hp:w.ownsRow B 2 1 (.slice (some ⟨b,0,none⟩) n c) n (ints (G.pl p)))(hb:¬qJ (.slice (some ⟨g,o,none⟩) L.length cap) L.length bs b):
 bH B (.slice (some ⟨g,o,none⟩) L.length cap) (L.set i p) (fun j=>if j=i then b else bs j) (fun j=>if j=i then c else cs j) (w.setCell ⟨g,o+i,none⟩ (.slice (some ⟨b,0,none⟩) n c)):=by
 have hk:∀x,x≠g→(w.setCell ⟨g,o+i,none⟩ (.slice (some ⟨b,0,none⟩) n c)).heap[x]?=w.heap[x]?:=fun x hx=>Below.heap_setCell w _ _ x hx;have hbg:b≠g:=fun e=>hb (.inl (by rw[e];rfl));refine⟨?_,fun j r hj=>?_,fun a e ha he hae=>?_,fun j hj=>?_⟩
 ·rw[List.length_set]
  have h1:=h.own.stored i (.slice (some ⟨b,0,none⟩) n c);have e:(List.range L.length).map (iL n (fun j=>if j=i then b else bs j) (fun j=>if j=i then c else cs j))=((List.range L.length).map (iL n bs cs)).set i (.slice (some ⟨b,0,none⟩) n c):=by
   apply List.ext_getElem?
   intro j;rw[List.getElem?_set]
   by_cases hj:j<L.length
   ·rw[List.getElem?_map,List.getElem?_range hj,Option.map_some]
    by_cases e:i=j
    ·subst e
     rw[if_pos rfl,if_pos (by simp;omega)]
     simp[iL]
    ·rw[if_neg e,List.getElem?_map,List.getElem?_range hj,Option.map_some]
     simp only[iL,if_neg (fun e'=>e e'.symm:¬j=i)]
   ·rw[if_neg qo,List.getElem?_eq_none (by simp;omega),List.getElem?_eq_none (by simp;omega)]
  rw[e];exact h1
 ·rw[List.getElem?_set]at hj
  by_cases e:i=j
  ·subst e
   rw[if_pos rfl,if_pos hi]at hj;injection hj with hj
   simp only[if_pos]
   rw[←hj];exact bT hp fun x hx=>hk x fun e=>by
    injection hx with hx;exact hbg (hx.trans e)
  ·rw[if_neg e]at hj
   simp only[if_neg (fun e'=>e e'.symm:¬j=i)]
   have hjl:=(List.getElem?_eq_some_iff.1 hj).1;exact bT (h.mB j r hj) fun x hx=>hk x fun e=>by
    injection hx with hx;have e2:g=bs j:=(hx.trans e).symm;exact h.far j hjl (congrArg some e2)
 ·rw[List.length_set]at ha he
  by_cases e1:a=i
  ·by_cases e2:e=i
   ·omega
   ·simp only[if_pos e1,if_neg e2]at hae
    exact absurd (.inr ⟨e,he,hae.symm⟩) hb
  ·by_cases e2:e=i
   ·simp only[if_neg e1,if_pos e2]at hae
    exact absurd (.inr ⟨a,ha,hae⟩) hb
   ·simp only[if_neg e1,if_neg e2]at hae
    exact h.inj a e ha he hae
 ·rw[List.length_set]at hj
  by_cases e:j=i
  ·simp only[if_pos e]
   exact fun e=>hb (.inl e)
  ·simp only[if_neg e]
   exact h.far j hj
theorem bH.tail {g o m cap:Nat}{p:G.PM n}(h:bH B (.slice (some ⟨g,o,none⟩) (m+1) cap) (p::L) bs cs w)(hm:L.length=m)(hc:¬cap=1):bH B (.slice (some ⟨g,o+1,none⟩) m (cap-1)) L (fun j=>bs (j+1)) (fun j=>cs (j+1)) w:=by
 subst hm;refine⟨?_,fun j r hj=>h.mB (j+1) r hj,fun a b ha hb e=>?_,fun j hj=>h.far (j+1) (by simp;omega)⟩
 ·have h1:=h.own
  rw[List.length_cons,List.range_succ_eq_map,List.map_cons,List.map_map]at h1;exact OwnAt.tail h1 hc
 ·have:=h.inj (a+1) (b+1) (by simp;omega) (by simp;omega) e
  omega
theorem bH.front {g o m cap:Nat}{p:G.PM n}(h:bH B (.slice (some ⟨g,o,none⟩) (m+1) cap) (L++[p]) bs cs w)(hm:L.length=m):bH B (.slice (some ⟨g,o,none⟩) m cap) L bs cs w:=by
 subst hm;have hl:(L++[p]).length=L.length+1:=by simp
 refine⟨?_,fun j r hj=>h.mB j r ?_,fun a b ha hb=>h.inj a b qo qo,fun j hj=>h.far j qo⟩
 ·have h1:=h.own
  rw[hl]at h1;have h2:=h1.front (k:=L.length) qo;rw[←List.map_take,List.take_range,Nat.min_eq_left qo]at h2;exact h2
 ·rw[List.getElem?_append_left (List.getElem?_eq_some_iff.1 hj).1]
  exact hj
end
theorem h9 (A B:OA)(c c':Nat)(L M:List Int)(w:World)(ha:aW w A L)(hb:aW w B M)(hn:L.length≤1048576)(hm:M.length≤1048576):
 Calls Tryz.prog 106 #[.slice A L.length c,.slice B M.length c'] w fun e w'=>e=.returned (.bool (decide (L=M)))∧∃q,w'=w.drewN q:=by
 have HA:=qh ha;have HB:=qh hb;clear ha hb
 by_cases hl:L.length=M.length
 case neg=>
  have HD:=qh (show decide (L=M)=false from decide_eq_false fun e=>hl (by rw[e]));have hlb:((L.length:Int)==(M.length:Int))=false:=by rw[beq_eq_false_iff_ne];omega
  have hlc:¬(L.length:Int)=(M.length:Int):=qo
  go_enter Tryz.func106,Tryz.ntmps106
  go_wp2
  go_ret
  exact⟨by rw[HD.o];rfl,0,rfl⟩
 obtain⟨n,hnl⟩:=qx (L.length);have hnm:M.length=n:=qo;have xZ:=qh hnl;have dR:=qh hnm;have e1:L.length=n:=hnl.symm;rw[←hnl];rw[hnm];rw[←hnl]at hn;clear hnl hnm hl hm
 go_enter Tryz.func106,Tryz.ntmps106
 go_wp2_with fail
 go_loopw [13] (fun i wr=>∃k q:Nat,k≤n∧i=.int .i64 k∧wr=w.drewN q∧Hq (L.take k=M.take k)) (fun i _=>n-(intOf i).toNat)
 case atStart=>exact⟨0,0,Nat.zero_le _,rfl,rfl,qh qj⟩
 case round=>
  obtain⟨k,q,hk,rfl,rfl,HX⟩:=hrel
  by_cases hlt:k<n
  ·obtain⟨ga,o,rfl,hg,hr⟩:=HA.o qo
   obtain⟨gb,o',rfl,hg',hr'⟩:=HB.o (by have:=dR.o;omega);have hc:=hr k qo;have hc':=hr' k (by have:=dR.o;omega);have HT1:=qh (show L.take (k+1)=L.take k++[L.getD k 0]by rw[List.take_succ_eq_append_getElem qo];simp[List.getD,show k<L.length by omega]);have HT2:=qh (show M.take (k+1)=M.take k++[M.getD k 0]by rw[List.take_succ_eq_append_getElem (by have:=dR.o;omega)];simp[List.getD,show k<M.length by have:=dR.o;omega]);obtain⟨x,hx⟩:=qx (L.getD k 0);obtain⟨y,hy⟩:=qx (M.getD k 0)
   simp only[←hx]at hc
   rw[←hx]at HT1
   simp only[←hy]at hc'
   rw[←hy]at HT2;have qK:=qh hx;have jB:=qh hy;have b1:(0:Int)≤(k:Int):=qo;have b2:(k:Int)<(n:Int):=qo;clear hr hr' hx hy
   by_cases hxy:x=y
   ·subst hxy
    go_wp2_with fail
    go_quiet (fail)
    go_wp2_with fail
    go_roundw
    case rel=>exact⟨k+1,q+nq,by omega,qg,rfl,qh (by rw[HT1.o,HT2.o,HX.o])⟩
    case measure=>exact qs
   ·have HD:=qh (show decide (L=M)=false from decide_eq_false fun e=>hxy (by rw[qK.o,jB.o,e]))
    have hxb:(x==y)=false:=by simpa using hxy
    go_wp2_with fail
    go_quiet (fail)
    go_wp2_with fail
    go_ret
    exact⟨by rw[HD.o];rfl,_,World.drewN_drewN _ _ _⟩
  ·obtain rfl:n=k:=qo
   have HD:=qh (show decide (L=M)=true from decide_eq_true (by
    have h:=HX.o;rwa[List.take_of_length_le qo,List.take_of_length_le (by have:=dR.o;omega)]at h))
   go_wp2
   go_ret
   exact⟨by rw[HD.o];rfl,q,rfl⟩
end Go.Proofs.YtmnbgjnipbpiaaaGreatDoor
