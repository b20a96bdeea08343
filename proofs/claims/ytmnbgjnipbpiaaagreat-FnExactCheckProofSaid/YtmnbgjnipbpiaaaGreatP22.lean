/- Walks and plain lemmas. -/
import Derived.Test.YtmnbgjnipbpiaaaGreatP18
set_option linter.unusedVariables false
set_option linter.unusedSimpArgs false
set_option maxHeartbeats 4000000
set_option maxRecDepth 20000
namespace Go.Proofs.YtmnbgjnipbpiaaaGreat
open Go.RowKit
def bZ (n:Nat)(F:Nat→Nat)(k:Nat):List Int:=(List.range n).map fun j=>if j<k then(F j:Int)else 0
theorem oP (n:Nat)(F:Nat→Nat):bZ n F 0=List.replicate n 0:=by
 apply List.ext_getElem?
 intro j
 by_cases hj:j<n
 ·simp[bZ,hj]
 ·simp[bZ,hj]
theorem oQ (n:Nat)(F:Nat→Nat){k:Nat}(hk:k<n):(bZ n F k).set k (F k:Int)=bZ n F (k+1):=by
 apply List.ext_getElem?
 intro j;rw[List.getElem?_set]
 by_cases hjk:k=j
 ·subst hjk
  rw[if_pos rfl,if_pos (by simp[bZ];omega)]
  simp[bZ,hk]
 ·rw[if_neg hjk]
  by_cases hj:j<n
  ·simp only[bZ,List.getElem?_map,List.getElem?_range hj,Option.map_some]
   by_cases h:j<k
   ·rw[if_pos h,if_pos qo]
   ·rw[if_neg h,if_neg qo]
  ·simp[bZ,hj]
theorem qN {n:Nat}(p:G.PM n):bZ n p.f n=G.pl p:=by
 refine List.map_congr_left fun j hj=>?_;rw[if_pos (List.mem_range.1 hj)]
theorem mO (n:Nat)(w:World)(hn:n≤1000):Calls Tryz.prog 74 #[.int .i64 n] w (dA w (G.pl (G.one:G.PM n))):=by
 obtain⟨cs,hcs,hcv,hmk⟩:=kA n qo;have HO:=qh (gI w cs n qo hcs hcv);have HB:=qh ((Below.refl w.heap.size w).alloc ql (.cells cs 2));clear hcv
 go_enter Tryz.func74,Tryz.ntmps74
 go_wp2_with fail
 clear hmk
 go_loopw [9] (fun x wr=>∃k:Nat,k≤n∧x=.int .i64 k∧Hq (wr.ownsRow w.heap.size 2 1 (.slice (some ⟨w.heap.size,0,none⟩) n n) n (ints (bZ n (fun j=>j) k)))∧Hq (Below w.heap.size w wr)) (fun x _=>n-(intOf x).toNat)
 case atStart=>exact⟨0,Nat.zero_le _,rfl,qh (by rw[oP];exact HO.o),HB⟩
 case round=>
  obtain⟨k,hk,rfl,a9,HB2⟩:=hrel
  by_cases hlt:k<n
  ·have aL:=qh (oQ n (fun j=>j) hlt)
   have hl:(ints (bZ n (fun j=>j) k)).length=n:=by simp[ints,bZ]
   obtain⟨y,hy⟩:∃y,wr.cell? ⟨w.heap.size,k,none⟩=some y:=⟨_,(a9.o.cellAt k qo).trans (List.getElem?_eq_getElem qo)⟩;have hf:=a9.o.frozenAt k;have HST:=qh (a9.o.stored k (.int .i64 k)).1;have HB3:=qh (Below.setCell (p:=⟨w.heap.size,k,none⟩) HB2.o ql (.int .i64 k));have b1:(0:Int)≤(k:Int):=qo;have b2:(k:Int)<(n:Int):=qo;clear hl
   go_wp2
   go_roundw
   case rel=>exact⟨k+1,by omega,qg,qh (by
    have h:=HST.o;rw[show(ints (bZ n (fun j=>j) k)).set k (.int .i64 k)=ints ((bZ n (fun j=>j) k).set k (k:Int))by simp[ints,List.map_set],aL.o]at h;exact h),HB3⟩
   case measure=>exact qs
  ·obtain rfl:n=k:=qo
   go_wp2
   go_ret
   exact⟨_,rfl,by rw[G.a6,←qN];exact a9.o,HB2.o⟩
theorem xI {n:Nat}(p q:G.PM n)(A B:OA)(c c':Nat)(w:World)(ha:aG w A (G.pl p))(hb:aG w B (G.pl q))(hn:n≤1000):Calls Tryz.prog 82 #[.slice A n c,.slice B n c'] w (dA w (G.pl (p.mul q))):=by
 obtain⟨cs,hcs,hcv,hmk⟩:=kA n qo;have HO:=qh (gI w cs n qo hcs hcv);have HB:=qh ((Below.refl w.heap.size w).alloc ql (.cells cs 2));have HA:=qh ha;have j6:=qh hb;clear hcv ha hb
 go_enter Tryz.func82,Tryz.ntmps82
 go_wp2_with fail
 clear hmk
 go_loopw [13] (fun x wr=>∃k:Nat,k≤n∧x=.int .i64 k∧Hq (wr.ownsRow w.heap.size 2 1 (.slice (some ⟨w.heap.size,0,none⟩) n n) n (ints (bZ n (p.mul q).f k)))∧Hq (Below w.heap.size w wr)) (fun x _=>n-(intOf x).toNat)
 case atStart=>exact⟨0,Nat.zero_le _,rfl,qh (by rw[oP];exact HO.o),HB⟩
 case round=>
  obtain⟨k,hk,rfl,a9,HB2⟩:=hrel
  by_cases hlt:k<n
  ·obtain⟨ga,o,rfl,hg,hr⟩:=HA.o (by rw[G.a6];omega)
   obtain⟨gb,o',rfl,hg',hr'⟩:=j6.o (by rw[G.a6];omega);have hp:=p.lt hlt;have hc:=a7 HB2.o hg (hr k (by rw[G.a6];exact hlt));have hd:=a7 HB2.o hg' (hr' (p.f k) (by rw[G.a6];exact hp))
   simp only[G.bO p hlt]at hc
   simp only[G.bO q hp]at hd
   have aL:=qh (show(bZ n (p.mul q).f k).set k (q.f (p.f k):Int)=bZ n (p.mul q).f (k+1)from oQ n (p.mul q).f hlt);obtain⟨P,hP⟩:=qx (p.f k);rw[←hP]at hp aL
   simp only[←hP]at hc hd
   obtain⟨Q,hQ⟩:=qx (q.f P);rw[←hQ]at aL
   simp only[←hQ]at hd
   have hl:(ints (bZ n (p.mul q).f k)).length=n:=by simp[ints,bZ]
   obtain⟨y,hy⟩:∃y,wr.cell? ⟨w.heap.size,k,none⟩=some y:=⟨_,(a9.o.cellAt k qo).trans (List.getElem?_eq_getElem qo)⟩;have hf:=a9.o.frozenAt k;have HST:=qh (a9.o.stored k (.int .i64 Q)).1;have HB3:=qh (Below.setCell (p:=⟨w.heap.size,k,none⟩) HB2.o ql (.int .i64 Q));have b1:(0:Int)≤(k:Int):=qo;have b2:(k:Int)<(n:Int):=qo;have b3:(0:Int)≤(P:Int):=qo;have b4:(P:Int)<(n:Int):=qo;clear hr hr' hP hQ hl
   go_wp2
   go_roundw
   case rel=>exact⟨k+1,by omega,qg,qh (by
    have h:=HST.o;rw[show(ints (bZ n (p.mul q).f k)).set k (.int .i64 Q)=ints ((bZ n (p.mul q).f k).set k (Q:Int))by simp[ints,List.map_set],aL.o]at h;exact h),HB3⟩
   case measure=>exact qs
  ·obtain rfl:n=k:=qo
   go_wp2
   go_ret
   exact⟨_,rfl,by rw[G.a6,←qN];exact a9.o,HB2.o⟩
theorem zO {n:Nat}(p:G.PM n)(A:OA)(c:Nat)(w:World)(ha:aG w A (G.pl p))(hn:n≤1000):Calls Tryz.prog 97 #[.slice A n c] w (dA w (G.pl p.inv)):=by
 obtain⟨cs,hcs,hcv,hmk⟩:=kA n qo;have HO:=qh (gI w cs n qo hcs hcv);have HB:=qh ((Below.refl w.heap.size w).alloc ql (.cells cs 2));have HA:=qh ha;clear hcv ha
 go_enter Tryz.func97,Tryz.ntmps97
 go_wp2_with fail
 clear hmk
 go_loopw [11] (fun x wr=>∃k:Nat,k≤n∧x=.int .i64 k∧Hq (wr.ownsRow w.heap.size 2 1 (.slice (some ⟨w.heap.size,0,none⟩) n n) n (ints (dH p k)))∧Hq (Below w.heap.size w wr)) (fun x _=>n-(intOf x).toNat)
 case atStart=>exact⟨0,Nat.zero_le _,rfl,qh (by rw[qI];exact HO.o),HB⟩
 case round=>
  obtain⟨k,hk,rfl,a9,HB2⟩:=hrel
  by_cases hlt:k<n
  ·obtain⟨ga,o,rfl,hg,hr⟩:=HA.o (by rw[G.a6];omega)
   have hc:=a7 HB2.o hg (hr k (by rw[G.a6];exact hlt))
   simp only[G.bO p hlt]at hc
   have hp:=p.lt hlt;have aL:=qh (qJ p hlt);obtain⟨P,hP⟩:=qx (p.f k);rw[←hP]at hp aL
   simp only[←hP]at hc
   have hl:(ints (dH p k)).length=n:=by simp[ints,dH]
   obtain⟨y,hy⟩:∃y,wr.cell? ⟨w.heap.size,P,none⟩=some y:=⟨_,(a9.o.cellAt P qo).trans (List.getElem?_eq_getElem qo)⟩;have hf:=a9.o.frozenAt P;have HST:=qh (a9.o.stored P (.int .i64 k)).1;have HB3:=qh (Below.setCell (p:=⟨w.heap.size,P,none⟩) HB2.o ql (.int .i64 k));have b1:(0:Int)≤(k:Int):=qo;have b2:(k:Int)<(n:Int):=qo;have b3:(0:Int)≤(P:Int):=qo;have b4:(P:Int)<(n:Int):=qo;clear hr hP hl
   go_wp2
   go_roundw
   case rel=>exact⟨k+1,by omega,qg,qh (by
    have h:=HST.o;rw[show(ints (dH p k)).set P (.int .i64 k)=ints ((dH p k).set P k)by simp[ints,List.map_set],aL.o]at h;exact h),HB3⟩
   case measure=>exact qs
  ·obtain rfl:n=k:=qo
   go_wp2
   go_ret
   exact⟨_,rfl,by rw[G.a6,←tC];exact a9.o,HB2.o⟩
theorem GT {n k:Nat}(hk:1≤k)(hn:k<n):((G.pl (G.one:G.PM n)).set (k-1) (k:Int)).set k ((k-1:Nat):Int)=G.pl (G.sig n k):=(sT (G.one:G.PM n) hk hn).trans rfl
theorem kB (n k:Nat)(w:World)(hn:n≤1000)(hk:1≤k)(hkn:k<n):Calls Tryz.prog 79 #[.int .i64 n,.int .i64 k] w (dA w (G.pl (G.sig n k))):=by
 go_enter Tryz.func79,Tryz.ntmps79
 go_wp2_with fail
 refine(mO n _ hn).mono ?_;rintro e w1 ⟨v1,rfl,ho1,hb1⟩;rw[G.a6]at ho1;obtain⟨g1,c1,rfl⟩:∃g1 c1,v1=.slice (some ⟨g1,0,none⟩) n c1:=by
  rcases ho1.2 with⟨_,h0⟩|⟨g1,cap,_,e,_⟩
  ·omega
  ·exact⟨g1,cap,e⟩
 have hg1:=ho1.lt g1 rfl;obtain⟨j,rfl⟩:∃j,k=j+1:=⟨k-1,by omega⟩;have gE:=qh (GT (n:=n) hk hkn);rw[Nat.add_sub_cancel]at gE;have hl:(ints (G.pl (G.one:G.PM n))).length=n:=by simp[ints,G.a6]
 obtain⟨y1,hy1⟩:∃y,w1.cell? ⟨g1,j,none⟩=some y:=⟨_,(ho1.cellAt j qo).trans (List.getElem?_eq_getElem qo)⟩;obtain⟨y2,hy2⟩:∃y,w1.cell? ⟨g1,j+1,none⟩=some y:=⟨_,(ho1.cellAt (j+1) qo).trans (List.getElem?_eq_getElem qo)⟩;have f1:=ho1.frozenAt j;have f2:=ho1.frozenAt (j+1);have dQ:=qh ((ho1.stored j (.int .i64 ((j+1:Nat):Int))).1.stored (j+1) (.int .i64 (j:Int))).1;have hB:=(hb1.setCell (p:=⟨g1,j,none⟩) hg1.1 (.int .i64 ((j+1:Nat):Int))).setCell (p:=⟨g1,j+1,none⟩) hg1.1 (.int .i64 (j:Int));have HB:=qh hB;have e1:((j+1:Nat):Int)-1=(j:Int):=qo;have b1:(0:Int)≤(j:Int):=qo;have b2:(j:Int)<(n:Int):=qo;have b3:(0:Int)≤((j+1:Nat):Int):=qo;have b4:((j+1:Nat):Int)<(n:Int):=qo;clear hl hB ho1 hb1
 go_wp2
 go_ret
 refine⟨_,rfl,?_,HB.o⟩;have h:=dQ.o;rw[show((ints (G.pl (G.one:G.PM n))).set j (.int .i64 ((j+1:Nat):Int))).set (j+1) (.int .i64 (j:Int))=ints (((G.pl (G.one:G.PM n)).set j ((j+1:Nat):Int)).set (j+1) (j:Int))by simp[ints,List.map_set],gE.o]at h;rw[G.a6];exact h
def fW (f:Nat→Nat)(k:Nat):List Int:=(G.bN f k).map fun x=>x-1
theorem ED (f:Nat→Nat)(k:Nat):fW f (k+1)=fW f k++(if 1≤k∧f k<f (k-1)then [(k:Int)-1]else []):=by
 have h:G.bN f (k+1)=G.bN f k++(if 1≤k∧f k<f (k-1)then [(k:Int)]else []):=rfl;rw[fW,h,List.map_append]
 congr 1
 split<;>rfl
theorem oR (f:Nat→Nat)(k:Nat):(fW f k).length≤k:=by
 rw[fW,List.length_map];exact G.eT f k
theorem vA {n:Nat}(p:G.PM n)(A:OA)(c:Nat)(w:World)(ha:aG w A (G.pl p))(hn:n≤1000):Calls Tryz.prog 110 #[.slice A n c] w (dA w (fW p.f n)):=by
 obtain⟨i0,hi,iz,is,ib⟩:=info_parts info64;have HO:=qh (World.ownsRow_made (e:=2) (size:=1) w #[] 0 ql qm rfl);have HB:=qh ((Below.refl w.heap.size w).alloc ql (.cells #[] 2));have HA:=qh ha;clear ha
 go_enter Tryz.func110,Tryz.ntmps110
 go_wp2_with fail
 go_loopw [3,4] (fun v x wr=>∃k:Nat,(k<n∨k=0)∧x=.int .i64 k∧Hq (wr.ownsRow w.heap.size 2 1 v (fW p.f (k+1)).length (ints (fW p.f (k+1))))∧Hq (Below w.heap.size w wr)) (fun _ x _=>n-(intOf x).toNat)
 case atStart=>exact⟨0,.inr rfl,rfl,HO,HB⟩
 case round=>
  obtain⟨k,hk,rfl,a9,HB2⟩:=hrel
  by_cases hlt:k+1<n
  ·obtain⟨ga,o,rfl,hg,hr⟩:=HA.o (by rw[G.a6];omega)
   have hc:=a7 HB2.o hg (hr (k+1) (by rw[G.a6];exact hlt));have hc0:=a7 HB2.o hg (hr k (by rw[G.a6];omega))
   simp only[G.bO p hlt]at hc
   simp only[G.bO p (show k<n by omega)]at hc0
   have aL:=qh (ED p.f (k+1));rw[Nat.add_sub_cancel]at aL;have hll:=oR p.f (k+1);obtain⟨P,hP⟩:=qx (p.f (k+1));obtain⟨Q,hQ⟩:=qx (p.f k);rw[←hP,←hQ]at aL
   simp only[←hP]at hc
   simp only[←hQ]at hc0
   have b0:(k:Int)+1<(n:Int):=qo;have b1:(0:Int)≤(k:Int)+1:=qo;have b3:(0:Int)≤(k:Int):=qo;have b4:(k:Int)<(n:Int):=qo;clear hr hP hQ
   by_cases hd:P<Q
   ·have bT:=qh (show fW p.f (k+1+1)=fW p.f (k+1)++[(k:Int)]by rw[aL.o,if_pos ⟨by omega,hd⟩,show((k+1:Nat):Int)-1=k by omega])
    have hdb:(P:Int)<(Q:Int):=qo
    go_wp2_with fail
    go_quiet (fail)
    have kL:=qh (own_drewN a9.o nq);have bQ:=qh (Below.drewN' HB2.o nq)
    go_wp2_with (at_builtin;go_must (refine cQ (wr.drewN nq) rfl (.tmp 23) (.tmp 25) _ rfl w.heap.size 2 i0 _ 1 8 Tryz.underlying74 hi iz is ib rfl qo u3 _ _ rfl kL.o _ 1 1 _ rfl rfl (by simp[Value.oneCell']) qm qo bQ.o.size ?_);intro v' w' hown' hb';have eC:=qh hown';have HB3:=qh (bQ.o.trans hb');clear hown' hb')
    go_roundw
    case rel=>exact⟨k+1,.inl qo,qg,qh (by rw[bT.o,dI,List.length_append];exact eC.o),HB3⟩
    case measure=>exact qs
   ·have bT:=qh (show fW p.f (k+1+1)=fW p.f (k+1)by rw[aL.o,if_neg (fun h=>hd h.2),List.append_nil])
    have hdb:¬(P:Int)<(Q:Int):=qo
    go_wp2_with fail
    go_quiet (fail)
    go_wp2_with fail
    go_roundw
    case rel=>exact⟨k+1,.inl qo,qg,qh (by rw[bT.o];exact own_drewN a9.o nq),qh (Below.drewN' HB2.o nq)⟩
    case measure=>exact qs
  ·have b0:¬(k:Int)+1<(n:Int):=qo
   go_wp2
   go_ret
   have e:fW p.f (k+1)=fW p.f n:=by
    rcases hk with hk|rfl
    ·rw[show k+1=n by omega]
    ·rcases(show n=0∨n=1 by omega)with rfl|rfl
     ·rfl
     ·rfl
   exact⟨_,rfl,by rw[←e];exact a9.o,HB2.o⟩
def gL (L:List Int)(k:Nat):List Int:=(L.take k).map (fun x=>x+1)++L.drop k
theorem x8 (L:List Int)(k:Nat):(gL L k).length=L.length:=by simp[gL];omega
theorem DV {L:List Int}{k:Nat}(hk:k<L.length):(gL L k)[k]?=L[k]?:=by
 simp only[gL]
 rw[List.getElem?_append_right (by simp;omega),List.getElem?_drop]
 congr 1
 simp
 omega
theorem BT {L:List Int}{k:Nat}(hk:k<L.length):(gL L k).set k (L.getD k 0+1)=gL L (k+1):=by
 simp only[gL]
 rw[List.set_append,if_neg (by simp;omega)];have e:((L.take k).map fun x=>x+1).length=k:=by simp;omega
 rw[e,Nat.sub_self,List.drop_eq_getElem_cons hk,List.set_cons_zero,List.take_succ_eq_append_getElem hk,List.map_append,List.append_assoc]
 simp[List.getD,hk]
theorem DW (f:Nat→Nat)(n:Nat):gL (fW f n) (fW f n).length=G.bN f n:=by
 simp only[gL]
 rw[List.take_length,List.drop_length,List.append_nil,fW,List.map_map]
 conv=>rhs;rw[←List.map_id (G.bN f n)]
 exact List.map_congr_left fun x _=>by simp
theorem C4 (f:Nat→Nat)(n:Nat)(x:Int)(h:x∈fW f n): -1≤x∧x≤n:=by
 obtain⟨y,hy,rfl⟩:=List.mem_map.1 h;obtain⟨k,rfl,_,h2,_⟩:=G.iH.1 hy;omega
theorem iL {n:Nat}(p:G.PM n)(A:OA)(c:Nat)(w:World)(ha:aG w A (G.pl p))(hn:n≤1000):Calls Tryz.prog 96 #[.slice A n c] w (dA w (G.bN p.f n)):=by
 go_enter Tryz.func96,Tryz.ntmps96
 go_wp2_with fail
 refine(vA p A c w ha hn).mono ?_;clear ha;rintro e w1 h1;obtain⟨A1,c1,rfl,ho1,hr1,hb1⟩:=h1.rd;have i4:=qh (DW p.f n);have cV:=qh (C4 p.f n);have hll:=oR p.f n;obtain⟨L,hL⟩:=qx (fW p.f n);rw[←hL]at i4 cV hll ho1 hr1 ⊢;have cJ:=qh ho1;have HB1:=qh hb1;clear h1 ho1 hr1 hb1 hL;obtain⟨m,hm⟩:=qx (L.length);rw[←hm]at cJ i4 hll ⊢;have HM:=qh hm;clear hm
 go_wp2_with fail
 go_loopw [9] (fun x wr=>∃k:Nat,k≤m∧x=.int .i64 k∧Hq (wr.ownsRow w.heap.size 2 1 (.slice A1 m c1) m (ints (gL L k)))∧Hq (Below w.heap.size w wr)) (fun x _=>m-(intOf x).toNat)
 case atStart=>exact⟨0,Nat.zero_le _,rfl,qh (by simp only[gL,List.take_zero,List.map_nil,List.drop_zero,List.nil_append];exact cJ.o),HB1⟩
 case round=>
  obtain⟨k,hk,rfl,a9,HB2⟩:=hrel
  by_cases hlt:k<m
  ·obtain⟨g1,rfl⟩:∃g1,A1=some ⟨g1,0,none⟩:=by
    rcases a9.o.2 with⟨_,h0⟩|⟨g1,cap,_,e,_⟩
    ·omega
    ·injection e with e _ _
     exact⟨g1,e⟩
   have hkl:k<L.length:=by rw[←HM.o];exact hlt
   have hc:wr.cell? ⟨g1,k,none⟩=some (.int .i64 (L.getD k 0)):=by
    rw[a9.o.cellAt k qo]
    simp[ints,DV hkl,List.getD,hkl]
   have aL:=qh (BT hkl);have hbd:=cV.o (L.getD k 0) (by simp[List.getD,hkl]);obtain⟨x,hx⟩:=qx (L.getD k 0);rw[←hx]at hbd aL
   simp only[←hx]at hc
   have hf:=a9.o.frozenAt k;have s1:IntKind.i64.wrap (x+1)=x+1:=IntWalk.i64_in _ qo;have HST:=qh (a9.o.stored k (.int .i64 (x+1))).1;have HB3:=qh (Below.setCell (p:=⟨g1,k,none⟩) HB2.o (a9.o.lt g1 rfl).1 (.int .i64 (x+1)));have b1:(0:Int)≤(k:Int):=qo;have b2:(k:Int)<(m:Int):=qo;clear hx
   go_wp2
   go_roundw
   case rel=>exact⟨k+1,by omega,qg,qh (by
    have h:=HST.o;rw[show(ints (gL L k)).set k (.int .i64 (x+1))=ints ((gL L k).set k (x+1))by simp[ints,List.map_set],aL.o]at h;exact h),HB3⟩
   case measure=>exact qs
  ·obtain rfl:m=k:=qo
   go_wp2
   go_ret
   have h:=a9.o;rw[i4.o]at h;refine⟨_,rfl,?_,HB2.o⟩;have e:(G.bN p.f n).length=m:=by rw[←i4.o,x8];exact HM.o.symm
   rw[e];exact h
def P5 (w:World)(n:Nat)(L:List Int)(e:Ending)(w':World):Prop:=∃A c,e=.returned (.slice A n c)∧aG w' A L∧Below w.heap.size w w'∧∀m b,Fb A m b→w.heap.size≤b
theorem bK.MS {w:World}{B g n c:Nat}{xs:List Value}(ho:w.ownsRow B 2 1 (.slice (some ⟨g,0,none⟩) n c) n xs):bK w g 0 n:=by
 have h:=bK.iM ho;rwa[Nat.mul_one]at h
theorem i8 (n:Nat)(w:World)(hn:n≤1000)(h0:1≤n):Calls Tryz.prog 75 #[.int .i64 n] w (P5 w n (G.pl (G.del:G.PM n))):=by
 go_enter Tryz.func75,Tryz.ntmps75
 go_wp2_with fail
 refine(mO n _ hn).mono ?_;rintro e w1 ⟨v1,rfl,ho1,hb1⟩;rw[G.a6]at ho1;obtain⟨g1,c1,rfl⟩:∃g1 c1,v1=.slice (some ⟨g1,0,none⟩) n c1:=by
  rcases ho1.2 with⟨_,h0⟩|⟨g1,cap,_,e,_⟩
  ·omega
  ·exact⟨g1,cap,e⟩
 have hg1:=ho1.lt g1 rfl;have hw:=bK.MS ho1;have hr:bY w1 g1 0 n (fun j=>.int .i64 ((fun(i:Nat)=>(i:Int)) j)):=fun j hj=>by
  rw[Nat.zero_add,ho1.cellAt j qo]
  simp[ints,G.pl,hj,G.one]
 have J8:=qh (rH g1 n c1 (fun(i:Nat)=>(i:Int)) w1 hw hr qo);have HB1:=qh hb1;clear hw hr ho1 hb1
 go_wp2_with fail
 refine J8.o.mono ?_;rintro e w2 ⟨rfl,ho,hw,hr⟩;have HB2:=qh (HB1.o.trans ((Fr.xP (F:=fun x=>x=g1) ho rfl).below (B:=w.heap.size) qo (fun b hb=>by rw[hb];exact hg1.1)));have HR:=qh (show aG w2 (some ⟨g1,0,none⟩) (G.pl (G.del:G.PM n))from fun _=>by
  refine⟨g1,0,rfl,Nat.lt_of_lt_of_le hg1.2 (Fr.xP (F:=fun x=>x=g1) ho rfl).size,fun j hj=>?_⟩;rw[G.a6]at hj;rw[hr j hj]
  simp only[G.bO _ hj]
  show some (Value.int .i64 ((n-1-j:Nat):Int))=some (.int .i64 ((G.rev n j:Nat):Int));rw[G.aS hj])
 clear ho hw hr J8
 go_wp2_with fail
 go_ret
 exact⟨_,_,rfl,HR.o,HB2.o,fun m b ⟨_,a,ha,hb⟩=>by injection ha with ha;rw[←hb,←ha];exact hg1.1⟩
def NH (w:World)(b:Bool)(e:Ending)(w':World):Prop:=∃i:Int,e=.returned (.int .i64 i)∧ -1≤i∧i≤2000000∧decide (0≤i)=b∧w=w'
theorem zR (A:OA)(c:Nat)(L:List Int)(x:Int)(w:World)(ha:aG w A L)(hn:L.length≤1048576):
 Calls Tryz.prog 111 #[.slice A L.length c,.int .i64 x] w (NH w (decide (x∈L))):=by
 have HA:=qh ha;clear ha
 go_enter Tryz.func111,Tryz.ntmps111
 go_wp2
 go_loop [8] (fun i=>∃k:Nat,k≤L.length∧i=.int .i64 k∧Hq (x∉L.take k)) (fun i=>L.length-(intOf i).toNat)
 case atStart=>exact⟨0,Nat.zero_le _,rfl,qh qj⟩
 case round=>
  obtain⟨k,hk,rfl,HX⟩:=hrel
  by_cases hlt:k<L.length
  ·obtain⟨ga,o,rfl,hg,hr⟩:=HA.o qo
   have hc:=hr k hlt;have HM:=qh (i6 hlt x);obtain⟨y,hy⟩:=qx (L.getD k 0)
   simp only[←hy]at hc HM
   have HY:=qh (show y∈L by rw[hy];simp[List.getD,hlt]);have b1:(0:Int)≤(k:Int):=qo;have b2:(k:Int)<(L.length:Int):=qo;clear hr hy
   by_cases hxy:x=y
   ·subst hxy
    have HD:=qh (show decide (x∈L)=true from decide_eq_true HY.o)
    go_wp2
    go_ret
    exact⟨k,rfl,by omega,by omega,by rw[HD.o];exact decide_eq_true qo,rfl⟩
   ·have hxb:(x==y)=false:=by simpa using hxy
    go_wp2
    go_round
    case rel=>exact⟨k+1,by omega,qg,qh (by rw[HM.o];rintro(h|h);exact HX.o h;exact hxy h)⟩
    case measure=>exact qs
  ·obtain rfl:L.length=k:=qo
   have HD:=qh (show decide (x∈L)=false from decide_eq_false (by have:=HX.o;rwa[List.take_length]at this))
   go_wp2
   go_ret
   exact⟨-1,rfl,by omega,by omega,by rw[HD.o];rfl,rfl⟩
theorem rX (A:OA)(c:Nat)(L:List Int)(x:Int)(w:World)(ha:aG w A L)(hn:L.length≤1048576):
 Calls Tryz.prog 98 #[.slice A L.length c,.int .i64 x] w fun e w'=>e=.returned (.bool (decide (x∈L)))∧w=w':=by
 go_enter Tryz.func98,Tryz.ntmps98
 go_wp2_with fail
 refine(zR A c L x w ha hn).mono ?_;rintro e w1 ⟨i,rfl,h1,h2,h3,rfl⟩;have H3:=qh h3;clear h3
 go_wp2_with fail
 go_ret
 exact⟨by rw[←H3.o];first|rfl|simp,rfl⟩
theorem n4 {n:Nat}(p q:G.PM n)(A B:OA)(c c':Nat)(w:World)(ha:aG w A (G.pl p))(hb:aG w B (G.pl q))(hn:n≤1000):
 Calls Tryz.prog 76 #[.slice A n c,.slice B n c'] w fun e w'=>e=.returned (.int .i64 (G.ext p q))∧Below w.heap.size w w':=by
 have HA:=qh ha;have HB:=qh hb;clear ha hb
 go_enter Tryz.func76,Tryz.ntmps76
 go_wp2_with fail
 refine(zO p A c _ HA.o hn).mono ?_;rintro e w0 h0;obtain⟨A0,c0,rfl,_,hr0,hb0⟩:=h0.rd;have M3:=qh hr0;have HB0:=qh hb0;have JV:=qh (Rd.below HB.o hb0);rw[G.a6];clear h0 hr0 hb0
 go_wp2_with fail
 refine(iL p.inv A0 c0 _ M3.o hn).mono ?_;rintro e w1 h1;obtain⟨A1,c1,rfl,_,hr1,hb1⟩:=h1.rd;have HR1:=qh (show aG w1 A1 (G.bN p.g n)from hr1);have HB1:=HB0.st hb1;have j6:=qh (Rd.below JV.o hb1);have e1:(G.bN p.inv.f n).length=(G.bN p.g n).length:=rfl;rw[e1];clear h1 hr1 hb1 e1 M3 HB0 JV
 go_wp2_with fail
 refine(iL q B c' _ j6.o hn).mono ?_;rintro e w2 h2;obtain⟨A2,c2,rfl,_,hr2,hb2⟩:=h2.rd;have HR2:=qh hr2;have HB2:=HB1.st hb2;have HR3:=qh (Rd.below HR1.o hb2);have hs1:=G.eT p.g n;have hs2:=G.eT q.f n;have i3:=qh (show G.ext p q=G.fm (G.bN p.g n) (G.bN q.f n)from rfl);clear h2 hr2 hb2 HR1 HB j6;obtain⟨E,hE⟩:=qx (G.bN p.g n);obtain⟨S,hS⟩:=qx (G.bN q.f n)
 simp only[←hE,←hS]at HR2 HR3 i3 hs1 hs2 ⊢
 clear hE hS
 go_wp2_with fail
 go_loopw [14] (fun x wr=>∃i:Nat,i≤S.length∧x=.int .i64 i∧wr=w2∧Hq (∀y∈S.take i,y∈E)) (fun x _=>S.length-(intOf x).toNat)
 case atStart=>exact⟨0,Nat.zero_le _,rfl,rfl,qh qj⟩
 case round=>
  obtain⟨i,hi,rfl,rfl,HX⟩:=hrel
  by_cases hlt:i<S.length
  ·obtain⟨gs,o,rfl,hg,hr⟩:=HR2.o qo
   have hc:=hr i hlt;have HT:=qh (show S.take (i+1)=S.take i++[S.getD i 0]by rw[List.take_succ_eq_append_getElem hlt];simp[List.getD,hlt]);have HD:=qh (show S.drop i=S.getD i 0::S.drop (i+1)by rw[List.drop_eq_getElem_cons hlt];simp[List.getD,hlt]);obtain⟨y,hy⟩:=qx (S.getD i 0)
   simp only[←hy]at hc HT HD
   have b1:(0:Int)≤(i:Int):=qo;have b2:(i:Int)<(S.length:Int):=qo;clear hr hy
   go_wp2_with fail
   refine(rX A1 c1 E y _ HR3.o qo).mono ?_;rintro e w3 ⟨rfl,rfl⟩
   by_cases hm:y∈E
   ·rw[decide_eq_true hm]
    go_wp2
    go_roundw
    case rel=>exact⟨i+1,by omega,qg,by trivial,qh (by
     rw[HT.o];intro z hz
     rcases List.mem_append.1 hz with h|h
     ·exact HX.o z h
     ·rw[List.mem_singleton.1 h]
      exact hm)⟩
    case measure=>exact qs
   ·rw[decide_eq_false hm]
    have IW:=qh (show G.ext p q=y by
     have h1:=i3.o;rw[←List.take_append_drop i S,G.oM _ _ _ HX.o,HD.o]at h1;rw[h1]
     simp only[G.fm]
     rw[if_neg hm])
    go_wp2
    go_ret
    exact⟨by rw[IW.o];rfl,HB2.o⟩
  ·obtain rfl:S.length=i:=qo
   have HX0:=qh (show G.ext p q=0 by
    have h1:=i3.o;have h2:=HX.o;rw[List.take_length]at h2;rw[h1,←List.append_nil S,G.oM _ _ _ h2]
    rfl)
   go_wp2
   go_ret
   exact⟨by rw[HX0.o];rfl,HB2.o⟩
def iU (n:Nat)(bs cs:Nat→Nat)(j:Nat):Value:=.slice (some ⟨bs j,0,none⟩) n (cs j)
structure aK {n:Nat}(B:Nat)(v:Value)(L:List (G.PM n))(bs cs:Nat→Nat)(w:World):Prop where
 own:OwnAt w B 74 v L.length ((List.range L.length).map (iU n bs cs))
 gZ:∀j p,L[j]?=some p→w.ownsRow B 2 1 (.slice (some ⟨bs j,0,none⟩) n (cs j)) n (ints (G.pl p))
 inj:∀i j,i<L.length→j<L.length→bs i=bs j→i=j
 far:∀j,j<L.length→¬v.ownBlock=some (bs j)
def yH (v:Value)(N:Nat)(bs:Nat→Nat)(x:Nat):Prop:=v.ownBlock=some x∨∃j,j<N∧bs j=x
section
variable {n:Nat}{B:Nat}{v v':Value}{L:List (G.PM n)}{bs cs:Nat→Nat}{w w':World}
theorem aK.lt (h:aK B v L bs cs w){x:Nat}(hx:yH v L.length bs x):B≤x∧x<w.heap.size:=by
 rcases hx with hx|⟨j,hj,rfl⟩
 ·exact h.own.lt x hx
 ·exact(h.gZ j _ (List.getElem?_eq_getElem hj)).lt (bs j) rfl
theorem aK.keep (h:aK B v L bs cs w)(hk:∀x,yH v L.length bs x→w'.heap[x]?=w.heap[x]?):aK B v L bs cs w':=
 ⟨h.own.blk fun b hb=>hk b (.inl hb),fun j p hp=>b9 (h.gZ j p hp) fun b hb=>by
  injection hb with hb;exact hk b (.inr ⟨j,(List.getElem?_eq_some_iff.1 hp).1,hb⟩),h.inj,h.far⟩
theorem aK.below (h:aK B v L bs cs w)(hb:Below w.heap.size w w'):aK B v L bs cs w':=h.keep fun x hx=>hb.block x (h.lt hx).2
theorem aK.drewN (h:aK B v L bs cs w)(q:Nat):aK B v L bs cs (w.drewN q):=h.keep fun _ _=>rfl
theorem aK.fr {F:Nat→Prop}(h:aK B v L bs cs w)(hf:Fr w w' F)(hF:∀x,yH v L.length bs x→¬F x):aK B v L bs cs w':=h.keep fun x hx=>hf.block x (h.lt hx).2 (hF x hx)
theorem aK.base {B':Nat}(h:aK B v L bs cs w)(hB:B'≤B):aK B' v L bs cs w:=⟨h.own.base hB,fun j p hp=>eK (h.gZ j p hp) hB,h.inj,h.far⟩
theorem aK.nil {v:Value}(ho:OwnAt w B 74 v 0 [])(bs cs:Nat→Nat):aK B v ([]:List (G.PM n)) bs cs w:=⟨ho,fun j p hp=>by simp at hp,fun i j hi=>absurd hi (Nat.not_lt_zero i),fun j hj=>absurd hj (Nat.not_lt_zero j)⟩
theorem aK.MT (B:Nat)(w:World)(bs cs:Nat→Nat):aK B (.slice none 0 0) ([]:List (G.PM n)) bs cs w:=aK.nil ⟨rfl,.inl ⟨rfl,rfl⟩⟩ bs cs
theorem aK.form (h:aK B v L bs cs w)(hn:0<L.length):∃g o cap,v=.slice (some ⟨g,o,none⟩) L.length cap∧g<w.heap.size∧B≤g:=by
 obtain⟨g,o,cap,e,_,hB,hg⟩:=h.own.form hn;exact⟨g,o,cap,e,hg,hB⟩
theorem aK.cell {g o cap:Nat}(h:aK B (.slice (some ⟨g,o,none⟩) L.length cap) L bs cs w){j:Nat}(hj:j<L.length):w.cell? ⟨g,o+j,none⟩=some (.slice (some ⟨bs j,0,none⟩) n (cs j)):=by
 rw[h.own.cellAt hj]
 simp[hj,iU]
theorem aK.frozen {g o cap:Nat}(h:aK B (.slice (some ⟨g,o,none⟩) L.length cap) L bs cs w)(j:Nat):w.frozen? ⟨g,j,none⟩=false:=h.own.frozenAt j
theorem aK.weighed (h:aK B v L bs cs w){i:Nat}(hi:i+1<L.length){p q:G.PM n}(hf:Fr w w' (fun b=>b=bs i∨b=bs (i+1)))
 (hp:w'.ownsRow B 2 1 (.slice (some ⟨bs i,0,none⟩) n (cs i)) n (ints (G.pl p))) (hq:w'.ownsRow B 2 1 (.slice (some ⟨bs (i+1),0,none⟩) n (cs (i+1))) n (ints (G.pl q))):aK B v ((L.set i p).set (i+1) q) bs cs w':=by
 have hl:((L.set i p).set (i+1) q).length=L.length:=by rw[List.length_set,List.length_set]
 refine⟨?_,fun j r hj=>?_,fun a b ha hb=>h.inj a b qo qo,fun j hj=>h.far j qo⟩
 ·rw[hl]
  refine h.own.blk fun b hb=>hf.block b (h.own.lt b hb).2 fun e=>?_
  rcases e with rfl|rfl
  ·exact h.far i qo hb
  ·exact h.far (i+1) hi hb
 ·rw[List.getElem?_set]at hj
  by_cases e1:i+1=j
  ·subst e1
   rw[if_pos rfl,if_pos (by rw[List.length_set];exact hi)]at hj;injection hj with hj;rw[←hj];exact hq
  ·rw[if_neg e1,List.getElem?_set]at hj
   by_cases e2:i=j
   ·subst e2
    rw[if_pos rfl,if_pos qo]at hj;injection hj with hj;rw[←hj];exact hp
   ·rw[if_neg e2]at hj
    have hjl:=(List.getElem?_eq_some_iff.1 hj).1;have ho:=h.gZ j r hj;refine b9 ho fun b hb=>hf.block b (ho.lt b hb).2 fun e=>?_;injection hb with hb;subst hb
    rcases e with e|e
    ·exact e2 (h.inj i j qo hjl e.symm)
    ·exact e1 (h.inj (i+1) j hi hjl e.symm)
theorem aK.snoc (h:aK B v L bs cs w){b c:Nat}{p:G.PM n}(hp:w.ownsRow B 2 1 (.slice (some ⟨b,0,none⟩) n c) n (ints (G.pl p)))(hb:¬yH v L.length bs b)
 (hown:OwnAt w' B 74 v' (L.length+1) ((List.range L.length).map (iU n bs cs)++[.slice (some ⟨b,0,none⟩) n c])) (hf:Fr w w' (fun x=>v.ownBlock=some x)) (hat:v'.ownBlock=v.ownBlock∨∃k,v'.ownBlock=some k∧w.heap.size≤k):
 aK B v' (L++[p]) (fun j=>if j=L.length then b else bs j) (fun j=>if j=L.length then c else cs j) w':=by
 have hll:(L++[p]).length=L.length+1:=by simp
 have hbz:=hp.lt b rfl;have oJ:∀x,x<w.heap.size→¬v.ownBlock=some x→¬v'.ownBlock=some x:=fun x h1 h2 h3=>by
  rcases hat with e|⟨k,e,hk⟩
  ·exact h2 (e.symm.trans h3)
  ·rw[e]at h3
   injection h3 with h3;omega
 refine⟨?_,fun j r hj=>?_,fun i j hi hj e=>?_,fun j hj=>?_⟩
 ·rw[hll,List.range_succ,List.map_append]
  have e:(List.range L.length).map (iU n (fun j=>if j=L.length then b else bs j) (fun j=>if j=L.length then c else cs j))=(List.range L.length).map (iU n bs cs):=List.map_congr_left fun j hj=>by
   have:=List.mem_range.1 hj
   simp only[iU,if_neg (show j≠L.length by omega)]
  rw[e]
  simpa [iU]using hown
 ·by_cases e:j=L.length
  ·subst e
   simp only[if_pos]
   rw[List.getElem?_append_right ql,Nat.sub_self]at hj;injection hj with hj;rw[←hj];exact b9 hp fun x hx=>hf.block x (hp.lt x hx).2 fun e=>by
    injection hx with hx;subst hx;exact hb (.inl e)
  ·simp only[if_neg e]
   have hjl:j<L.length:=by have:=(List.getElem?_eq_some_iff.1 hj).1;omega
   rw[List.getElem?_append_left hjl]at hj;have ho:=h.gZ j r hj;exact b9 ho fun x hx=>hf.block x (ho.lt x hx).2 fun e=>by
    injection hx with hx;subst hx;exact h.far j hjl e
 ·have hi2:i<L.length+1:=qo
  have hj2:j<L.length+1:=qo
  by_cases e1:i=L.length
  ·by_cases e2:j=L.length
   ·omega
   ·simp only[if_pos e1,if_neg e2]at e
    exact absurd (.inr ⟨j,by omega,e.symm⟩) hb
  ·by_cases e2:j=L.length
   ·simp only[if_neg e1,if_pos e2]at e
    exact absurd (.inr ⟨i,by omega,e⟩) hb
   ·simp only[if_neg e1,if_neg e2]at e
    exact h.inj i j qo qo e
 ·by_cases e:j=L.length
  ·simp only[if_pos e]
   exact oJ b hbz.2 fun h2=>hb (.inl h2)
  ·simp only[if_neg e]
   have hjl:j<L.length:=qo;exact oJ _ (h.lt (.inr ⟨j,hjl,rfl⟩)).2 (h.far j hjl)
theorem aK.put {g o cap:Nat}(h:aK B (.slice (some ⟨g,o,none⟩) L.length cap) L bs cs w){i:Nat}(hi:i<L.length){b c:Nat}{p:G.PM n}(hp:w.ownsRow B 2 1 (.slice (some ⟨b,0,none⟩) n c) n (ints (G.pl p)))(hb:¬yH (.slice (some ⟨g,o,none⟩) L.length cap) L.length bs b):
 aK B (.slice (some ⟨g,o,none⟩) L.length cap) (L.set i p) (fun j=>if j=i then b else bs j) (fun j=>if j=i then c else cs j) (w.setCell ⟨g,o+i,none⟩ (.slice (some ⟨b,0,none⟩) n c)):=by
 have hk:∀x,x≠g→(w.setCell ⟨g,o+i,none⟩ (.slice (some ⟨b,0,none⟩) n c)).heap[x]?=w.heap[x]?:=fun x hx=>Below.heap_setCell w _ _ x hx;have hbg:b≠g:=fun e=>hb (.inl (by rw[e];rfl));refine⟨?_,fun j r hj=>?_,fun a e ha he hae=>?_,fun j hj=>?_⟩
 ·rw[List.length_set]
  have h1:=h.own.stored i (.slice (some ⟨b,0,none⟩) n c);have e:(List.range L.length).map (iU n (fun j=>if j=i then b else bs j) (fun j=>if j=i then c else cs j))=((List.range L.length).map (iU n bs cs)).set i (.slice (some ⟨b,0,none⟩) n c):=by
   apply List.ext_getElem?
   intro j;rw[List.getElem?_set]
   by_cases hj:j<L.length
   ·rw[List.getElem?_map,List.getElem?_range hj,Option.map_some]
    by_cases e:i=j
    ·subst e
     rw[if_pos rfl,if_pos (by simp;omega)]
     simp[iU]
    ·rw[if_neg e,List.getElem?_map,List.getElem?_range hj,Option.map_some]
     simp only[iU,if_neg (fun e'=>e e'.symm:¬j=i)]
   ·rw[if_neg qo,List.getElem?_eq_none (by simp;omega),List.getElem?_eq_none (by simp;omega)]
  rw[e];exact h1
 ·rw[List.getElem?_set]at hj
  by_cases e:i=j
  ·subst e
   rw[if_pos rfl,if_pos hi]at hj;injection hj with hj
   simp only[if_pos]
   rw[←hj];exact b9 hp fun x hx=>hk x fun e=>by
    injection hx with hx;exact hbg (hx.trans e)
  ·rw[if_neg e]at hj
   simp only[if_neg (fun e'=>e e'.symm:¬j=i)]
   have hjl:=(List.getElem?_eq_some_iff.1 hj).1;exact b9 (h.gZ j r hj) fun x hx=>hk x fun e=>by
    injection hx with hx;have e2:g=bs j:=(hx.trans e).symm;exact h.far j hjl (congrArg some e2)
 ·rw[List.length_set]at ha he
  by_cases e1:a=i
  ·by_cases e2:e=i
   ·omega
   ·simp only[if_pos e1,if_neg e2]at hae
    exact absurd (.inr ⟨e,he,hae.symm⟩) hb
  ·by_cases e2:e=i
   ·simp only[if_neg e1,if_pos e2]at hae
    exact absurd (.inr ⟨a,ha,hae⟩) hb
   ·simp only[if_neg e1,if_neg e2]at hae
    exact h.inj a e ha he hae
 ·rw[List.length_set]at hj
  by_cases e:j=i
  ·simp only[if_pos e]
   exact fun e=>hb (.inl e)
  ·simp only[if_neg e]
   exact h.far j hj
theorem aK.tail {g o m cap:Nat}{p:G.PM n}(h:aK B (.slice (some ⟨g,o,none⟩) (m+1) cap) (p::L) bs cs w)(hm:L.length=m)(hc:¬cap=1):aK B (.slice (some ⟨g,o+1,none⟩) m (cap-1)) L (fun j=>bs (j+1)) (fun j=>cs (j+1)) w:=by
 subst hm;refine⟨?_,fun j r hj=>h.gZ (j+1) r hj,fun a b ha hb e=>?_,fun j hj=>h.far (j+1) (by simp;omega)⟩
 ·have h1:=h.own
  rw[List.length_cons,List.range_succ_eq_map,List.map_cons,List.map_map]at h1;exact OwnAt.tail h1 hc
 ·have:=h.inj (a+1) (b+1) (by simp;omega) (by simp;omega) e
  omega
theorem aK.zD {g o:Nat}{p:G.PM n}(h:aK B (.slice (some ⟨g,o,none⟩) 1 1) [p] bs cs w):aK B (.slice (some ⟨g,o,none⟩) 0 0) ([]:List (G.PM n)) bs cs w:=by
 have h1:=h.own;exact aK.nil (OwnAt.zD h1) bs cs
theorem aK.front {g o m cap:Nat}{p:G.PM n}(h:aK B (.slice (some ⟨g,o,none⟩) (m+1) cap) (L++[p]) bs cs w)(hm:L.length=m):aK B (.slice (some ⟨g,o,none⟩) m cap) L bs cs w:=by
 subst hm;have hl:(L++[p]).length=L.length+1:=by simp
 refine⟨?_,fun j r hj=>h.gZ j r ?_,fun a b ha hb=>h.inj a b qo qo,fun j hj=>h.far j qo⟩
 ·have h1:=h.own
  rw[hl]at h1;have h2:=h1.front (k:=L.length) qo;rw[←List.map_take,List.take_range,Nat.min_eq_left qo]at h2;exact h2
 ·rw[List.getElem?_append_left (List.getElem?_eq_some_iff.1 hj).1]
  exact hj
end
def NC {n:Nat}(p q:G.PM n)(B bp cp bq cq:Nat)(w:World)(e:Ending)(w':World):Prop:=∃(p' q':G.PM n) (any:Bool),e=.returned (.bool any)∧G.ext p' q'=0∧(any=false→p'=p∧q'=q)∧(any=true→G.mu [p',q']<G.mu [p,q])∧G.Steps [p,q] [p',q']∧Fr w w' (fun b=>b=bp∨b=bq)∧
 w'.ownsRow B 2 1 (.slice (some ⟨bp,0,none⟩) n cp) n (ints (G.pl p'))∧w'.ownsRow B 2 1 (.slice (some ⟨bq,0,none⟩) n cq) n (ints (G.pl q'))
theorem jF {B:Nat}{w:World}{g n c:Nat}{xs:List Value}(ho:w.ownsRow B 2 1 (.slice (some ⟨g,0,none⟩) n c) n xs){p:Addr}(hp:p.block≠g)(u:Value):(w.setCell p u).ownsRow B 2 1 (.slice (some ⟨g,0,none⟩) n c) n xs:=b9 ho fun b hb=>Below.heap_setCell w p u b fun e=>by
 injection hb with hb;exact hp (by rw[←e];exact hb.symm)
theorem AR {n:Nat}(p q:G.PM n)(B bp cp bq cq:Nat)(w:World)(hne:bp≠bq)(hp:w.ownsRow B 2 1 (.slice (some ⟨bp,0,none⟩) n cp) n (ints (G.pl p)))(hq:w.ownsRow B 2 1 (.slice (some ⟨bq,0,none⟩) n cq) n (ints (G.pl q)))(hn:n≤1000):
 Calls Tryz.prog 103 #[.slice (some ⟨bp,0,none⟩) n cp,.slice (some ⟨bq,0,none⟩) n cq] w (NC p q B bp cp bq cq w):=by
 have HP:=qh hp;have HQ:=qh hq;clear hp hq
 go_enter Tryz.func103,Tryz.ntmps103
 go_wp2_with fail
 go_loopg [5] (G.mu [p,q]+1) (fun gh v wr=>∃(p1 q1:G.PM n) (any:Bool),v=.bool any∧gh=G.mu [p1,q1]+1∧Hq (any=false→p1=p∧q1=q)∧Hq (any=true→G.mu [p1,q1]<G.mu [p,q])∧Hq (G.Steps [p,q] [p1,q1])∧Hq (Fr w wr (fun b=>b=bp∨b=bq))∧Hq (wr.ownsRow B 2 1 (.slice (some ⟨bp,0,none⟩) n cp) n (ints (G.pl p1)))∧Hq (wr.ownsRow B 2 1 (.slice (some ⟨bq,0,none⟩) n cq) n (ints (G.pl q1))))
 case atStart=>exact⟨p,q,false,rfl,rfl,qh (fun _=>⟨rfl,rfl⟩),qh (fun h=>by cases h),qh (.refl _),qh (Fr.refl _ _),HP,HQ⟩
 case round=>
  clear HP HQ;obtain⟨p1,q1,any,rfl,hgh,HF,HT,HS,gF,HP,HQ⟩:=hrel;have MC:=qh (n4 p1 q1 (some ⟨bp,0,none⟩) (some ⟨bq,0,none⟩) cp cq wr (by have h:=bI HP.o;exact h) (by have h:=bI HQ.o;exact h) hn)
  go_wp2_with fail
  refine MC.o.mono ?_;rintro e w4 ⟨rfl,hb4⟩;have mF:=qh (own_below HP.o hb4);have vU:=qh (own_below HQ.o hb4);have fO:=qh (gF.o.bV (hb4.mono gF.o.size));clear hb4 MC HP HQ gF
  by_cases hx:G.ext p1 q1=0
  ·rw[hx]
   go_wp2_with fail
   go_ret
   exact⟨p1,q1,any,rfl,hx,HF.o,HT.o,HS.o,fO.o,mF.o,vU.o⟩
  obtain⟨m,hm,hcan⟩:=G.yB hx;rw[hm];have hm1:=hcan.1;have hm2:=hcan.2.1;have hx1:¬(m:Int)=0:=qo;have hx2:((m:Int)==0)=false:=by rw[beq_eq_false_iff_ne];omega
  have AA:=qh (show G.Step [p1,q1] [p1.aM m,q1.aU m]from .here hcan);have hmu:=G.mu_step AA.o;have HT2:=qh (show G.mu [p1.aM m,q1.aU m]<G.mu [p,q]from by
   rcases G.t8 HS.o with h|h
   ·rw[h]at hmu
    exact hmu
   ·omega)
  have HS2:=qh (HS.o.trans (.one AA.o));obtain⟨j,rfl⟩:∃j,m=j+1:=⟨m-1,by omega⟩;clear hx hm hcan HF HT HS AA
  go_wp2_with fail
  go_loopw [17] (fun x wr=>∃i:Nat,i≤n∧x=.int .i64 i∧Hq (wr.ownsRow B 2 1 (.slice (some ⟨bp,0,none⟩) n cp) n (ints (bD p1 (j+1) i)))∧Hq (wr.ownsRow B 2 1 (.slice (some ⟨bq,0,none⟩) n cq) n (ints (G.pl q1)))∧Hq (Fr w wr (fun b=>b=bp∨b=bq))) (fun x _=>n-(intOf x).toNat)
  case atStart=>exact⟨0,Nat.zero_le _,rfl,qh (by rw[qS];exact mF.o),vU,fO⟩
  case round=>
   clear mF vU fO;obtain⟨i,hi,rfl,a9,qY,bU⟩:=hrel
   by_cases hlt:i<n
   ·have hl:(ints (bD p1 (j+1) i)).length=n:=by simp[ints,bD]
    have hc:wr.cell? ⟨bp,i,none⟩=some (.int .i64 (p1.f i:Nat)):=by
     rw[a9.o.cellAt i qo]
     simp[ints,bD,hlt]
    have hpl:=p1.lt hlt;have aL:=qh (qU p1 (j+1) hlt);have mC:=qh (fun h=>qT p1 (j+1) (i:=i) h);have HV:=qh (show(p1.aM (j+1)).f i=G.aE n (j+1) (p1.f i)from rfl);have yM:=qh (G.fP (n:=n) (k:=j+1) hm1 hm2);obtain⟨P,hP⟩:=qx (p1.f i);rw[←hP]at hpl HV mC hc;have hf:=a9.o.frozenAt i;have e1:((j+1:Nat):Int)-1=(j:Int):=qo;have b1:(0:Int)≤(i:Int):=qo;have b2:(i:Int)<(n:Int):=qo;clear hP hl
    by_cases h1:P=j
    ·have gN:=qh (show(bD p1 (j+1) i).set i ((j+1:Nat):Int)=bD p1 (j+1) (i+1)by
      rw[←aL.o,HV.o,h1];have:=yM.o.1;rw[Nat.add_sub_cancel]at this;rw[this])
     have HST:=qh (a9.o.stored i (.int .i64 ((j+1:Nat):Int))).1;have CR:=qh (jF qY.o (p:=⟨bp,i,none⟩) hne (.int .i64 ((j+1:Nat):Int)));have fD:=qh (bU.o.set (p:=⟨bp,i,none⟩) (.inl rfl) (.int .i64 ((j+1:Nat):Int)));have h1b:((P:Int)==(j:Int))=true:=by simp[h1]
     have h1c:(P:Int)=(j:Int):=qo;clear aL mC HV yM
     go_wp2
     go_roundw
     case rel=>exact⟨i+1,by omega,qg,qh (by
      have h:=HST.o;rw[show(ints (bD p1 (j+1) i)).set i (.int .i64 ((j+1:Nat):Int))=ints ((bD p1 (j+1) i).set i ((j+1:Nat):Int))by simp[ints,List.map_set],gN.o]at h;exact h),CR,fD⟩
     case measure=>exact qs
    have h1b:((P:Int)==(j:Int))=false:=by rw[beq_eq_false_iff_ne];omega
    have h1c:¬(P:Int)=(j:Int):=qo
    by_cases h2:P=j+1
    ·have gN:=qh (show(bD p1 (j+1) i).set i (j:Int)=bD p1 (j+1) (i+1)by
      rw[←aL.o,HV.o,h2,yM.o.2.1,Nat.add_sub_cancel])
     have HST:=qh (a9.o.stored i (.int .i64 (j:Int))).1;have CR:=qh (jF qY.o (p:=⟨bp,i,none⟩) hne (.int .i64 (j:Int)));have fD:=qh (bU.o.set (p:=⟨bp,i,none⟩) (.inl rfl) (.int .i64 (j:Int)));have IE:((P:Int)==((j+1:Nat):Int))=true:=by simp[h2]
     have ID:(P:Int)=((j+1:Nat):Int):=qo;clear aL mC HV yM
     go_wp2
     go_roundw
     case rel=>exact⟨i+1,by omega,qg,qh (by
      have h:=HST.o;rw[show(ints (bD p1 (j+1) i)).set i (.int .i64 (j:Int))=ints ((bD p1 (j+1) i).set i (j:Int))by simp[ints,List.map_set],gN.o]at h;exact h),CR,fD⟩
     case measure=>exact qs
    have IE:((P:Int)==((j+1:Nat):Int))=false:=by rw[beq_eq_false_iff_ne];omega
    have ID:¬(P:Int)=((j+1:Nat):Int):=qo;have NL:=qh (mC.o (by rw[HV.o];exact yM.o.2.2 P qo h2));clear aL mC HV yM
    go_wp2
    go_roundw
    case rel=>exact⟨i+1,by omega,qg,qh (by rw[←NL.o];exact a9.o),qY,bU⟩
    case measure=>exact qs
   ·obtain rfl:n=i:=qo
    have hl:(ints (G.pl q1)).length=n:=by simp[ints,G.a6]
    have k1:wr.cell? ⟨bq,j+1,none⟩=some (.int .i64 (q1.f (j+1):Nat)):=by
     rw[qY.o.cellAt (j+1) qo]
     simp[ints,G.pl,hm2]
    have k2:wr.cell? ⟨bq,j,none⟩=some (.int .i64 (q1.f j:Nat)):=by
     rw[qY.o.cellAt j qo]
     simp[ints,G.pl,show j<n by omega]
    have gE:=qh (sT q1 hm1 hm2);rw[Nat.add_sub_cancel]at gE;obtain⟨P,hP⟩:=qx (q1.f (j+1));obtain⟨Q,hQ⟩:=qx (q1.f j);rw[←hP,←hQ]at gE;rw[←hP]at k1;rw[←hQ]at k2;have f1:=qY.o.frozenAt j;have f2:=qY.o.frozenAt (j+1);have dQ:=qh ((qY.o.stored j (.int .i64 P)).1.stored (j+1) (.int .i64 Q)).1;have lG:=qh (jF (jF a9.o (p:=⟨bq,j,none⟩) (Ne.symm hne) (.int .i64 P)) (p:=⟨bq,j+1,none⟩) (Ne.symm hne) (.int .i64 Q));have fD:=qh ((bU.o.set (p:=⟨bq,j,none⟩) (.inr rfl) (.int .i64 P)).set (p:=⟨bq,j+1,none⟩) (.inr rfl) (.int .i64 Q));have e1:((j+1:Nat):Int)-1=(j:Int):=qo;have b1:(0:Int)≤(j:Int):=qo;have b2:(j:Int)<(n:Int):=qo;have b3:(0:Int)≤((j+1:Nat):Int):=qo;have b4:((j+1:Nat):Int)<(n:Int):=qo;clear hP hQ hl
    go_wp2
    go_region
    go_wp2
    go_roundg (G.mu [p1.aM (j+1),q1.aU (j+1)]+1)
    case rel=>exact⟨p1.aM (j+1),q1.aU (j+1),true,rfl,rfl,qh (fun h=>by cases h),qh (fun _=>HT2.o),HS2,qh (fD.o.bV (qz)),qh (own_drewN (by
     have h:=lG.o;rw[vK]at h;exact h) 1),qh (own_drewN (by
     have h:=dQ.o;rw[show((ints (G.pl q1)).set j (.int .i64 P)).set (j+1) (.int .i64 Q)=ints (((G.pl q1).set j P).set (j+1) Q)by simp[ints,List.map_set],gE.o]at h;exact h) 1)⟩
    case measure=>omega
theorem fV (A B:OA)(c c':Nat)(L M:List Int)(w:World)(ha:aG w A L)(hb:aG w B M)(hn:L.length≤1048576)(hm:M.length≤1048576):
 Calls Tryz.prog 73 #[.slice A L.length c,.slice B M.length c'] w fun e w'=>e=.returned (.bool (decide (L=M)))∧∃q,w'=w.drewN q:=by
 have HA:=qh ha;have HB:=qh hb;clear ha hb
 by_cases hl:L.length=M.length
 case neg=>
  have HD:=qh (show decide (L=M)=false from decide_eq_false fun e=>hl (by rw[e]));have hlb:((L.length:Int)==(M.length:Int))=false:=by rw[beq_eq_false_iff_ne];omega
  have hlc:¬(L.length:Int)=(M.length:Int):=qo
  go_enter Tryz.func73,Tryz.ntmps73
  go_wp2
  go_ret
  exact⟨by rw[HD.o];rfl,0,rfl⟩
 obtain⟨n,hnl⟩:=qx (L.length);have hnm:M.length=n:=qo;have fN:=qh hnl;have dL:=qh hnm;have e1:L.length=n:=hnl.symm;rw[←hnl];rw[hnm];rw[←hnl]at hn;clear hnl hnm hl hm
 go_enter Tryz.func73,Tryz.ntmps73
 go_wp2_with fail
 go_loopw [13] (fun i wr=>∃k q:Nat,k≤n∧i=.int .i64 k∧wr=w.drewN q∧Hq (L.take k=M.take k)) (fun i _=>n-(intOf i).toNat)
 case atStart=>exact⟨0,0,Nat.zero_le _,rfl,rfl,qh qj⟩
 case round=>
  obtain⟨k,q,hk,rfl,rfl,HX⟩:=hrel
  by_cases hlt:k<n
  ·obtain⟨ga,o,rfl,hg,hr⟩:=HA.o qo
   obtain⟨gb,o',rfl,hg',hr'⟩:=HB.o (by have:=dL.o;omega);have hc:=hr k qo;have hc':=hr' k (by have:=dL.o;omega);have HT1:=qh (show L.take (k+1)=L.take k++[L.getD k 0]by rw[List.take_succ_eq_append_getElem qo];simp[List.getD,show k<L.length by omega]);have HT2:=qh (show M.take (k+1)=M.take k++[M.getD k 0]by rw[List.take_succ_eq_append_getElem (by have:=dL.o;omega)];simp[List.getD,show k<M.length by have:=dL.o;omega]);obtain⟨x,hx⟩:=qx (L.getD k 0);obtain⟨y,hy⟩:=qx (M.getD k 0)
   simp only[←hx]at hc
   rw[←hx]at HT1
   simp only[←hy]at hc'
   rw[←hy]at HT2;have CJ:=qh hx;have qV:=qh hy;have b1:(0:Int)≤(k:Int):=qo;have b2:(k:Int)<(n:Int):=qo;clear hr hr' hx hy
   by_cases hxy:x=y
   ·subst hxy
    go_wp2_with fail
    go_quiet (fail)
    go_wp2_with fail
    go_roundw
    case rel=>exact⟨k+1,q+nq,by omega,qg,rfl,qh (by rw[HT1.o,HT2.o,HX.o])⟩
    case measure=>exact qs
   ·have HD:=qh (show decide (L=M)=false from decide_eq_false fun e=>hxy (by rw[CJ.o,qV.o,e]))
    have hxb:(x==y)=false:=by simpa using hxy
    go_wp2_with fail
    go_quiet (fail)
    go_wp2_with fail
    go_ret
    exact⟨by rw[HD.o];rfl,_,World.drewN_drewN _ _ _⟩
  ·obtain rfl:n=k:=qo
   have HD:=qh (show decide (L=M)=true from decide_eq_true (by
    have h:=HX.o;rwa[List.take_of_length_le qo,List.take_of_length_le (by have:=dL.o;omega)]at h))
   go_wp2
   go_ret
   exact⟨by rw[HD.o];rfl,q,rfl⟩
theorem zX (p:Addr)(c:Nat)(L:List Int)(w:World)(hr:aG w (some p) L)(hn:L.length≤1048576):Calls Tryz.prog 102 #[.slice (some p) L.length c] w (dA w L):=by
 obtain⟨i0,hi,iz,is,ib⟩:=info_parts info64;have hb0:Below w.heap.size w (w.alloc (.cells #[] 2)):=qb;have HR:=qh (Rd.below hr hb0);have HO:=qh (World.ownsRow_made (e:=2) (size:=1) w #[] 0 ql qm rfl);have HB:=qh hb0;clear hr hb0;obtain⟨n,hN⟩:=qx (L.length);rw[←hN]at hn HR ⊢;have HL:=qh hN;clear hN;have hq:∀w,(binOp .eql 74 (.slice (some p) n c) (.slice none 0 0)).run Tryz.prog w=.ok (.bool false) w:=fun w=>Lib.run_eql_slice_nil w _ _ (some p) n c 0 0 Tryz.underlying74
 go_enter Tryz.func102,Tryz.ntmps102
 go_wp2_with (at_builtin;go_must (refine gO (w.alloc (.cells #[] 2)) rfl (.tmp 5) (.tmp 6) _ rfl w.heap.size 2 i0 _ 1 8 Tryz.underlying74 hi iz is ib rfl qo _ 0 [] rfl HO.o (some p) n c (fun j=>.int .i64 (L.getD j 0)) rfl (by rw[Nat.mul_one];exact HR.o) (fun j=>rfl) qm qo qj ?_);intro v' w' hown' hfr;have HOWN':=qh hown';have gF:=qh hfr;clear hown' hfr)
 go_ret
 have ho:=HOWN'.o;rw[Nat.zero_add,List.nil_append,Nat.mul_one,kZ L n HL.o.symm]at ho;exact⟨_,rfl,by rw[←HL.o];exact ho,HB.o.trans (gF.o.own HO.o qj)⟩
theorem EA {n:Nat}(p:G.PM n)(A:OA)(c:Nat)(w:World)(ha:aG w A (G.pl p))(hn:n≤1000):Calls Tryz.prog 101 #[.slice A n c] w (dA w (G.pl p.flip)):=by
 obtain⟨cs,hcs,hcv,hmk⟩:=kA n qo;have HO:=qh (gI w cs n qo hcs hcv);have HB:=qh ((Below.refl w.heap.size w).alloc ql (.cells cs 2));have HA:=qh ha;clear hcv ha
 go_enter Tryz.func101,Tryz.ntmps101
 go_wp2_with fail
 clear hmk
 go_loopw [12] (fun x wr=>∃k:Nat,k≤n∧x=.int .i64 k∧Hq (wr.ownsRow w.heap.size 2 1 (.slice (some ⟨w.heap.size,0,none⟩) n n) n (ints (bH p k)))∧Hq (Below w.heap.size w wr)) (fun x _=>n-(intOf x).toNat)
 case atStart=>exact⟨0,Nat.zero_le _,rfl,qh (by rw[oN];exact HO.o),HB⟩
 case round=>
  obtain⟨k,hk,rfl,a9,HB2⟩:=hrel
  by_cases hlt:k<n
  ·obtain⟨ga,o,rfl,hg,hr⟩:=HA.o (by rw[G.a6];omega)
   have hm:n-1-k<n:=qo;have hc:=a7 HB2.o hg (hr (n-1-k) (by rw[G.a6];exact hm))
   simp only[G.bO p hm]at hc
   have hp:=p.lt hm;have aL:=qh (oO p hlt);have vZ:=qh (show(p.flip.f k:Int)=(n:Int)-1-(p.f (n-1-k):Nat)by
    show((G.rev n (p.f (G.rev n k)):Nat):Int)=_;rw[G.aS hlt,G.aS hp];omega)
   obtain⟨P,hP⟩:=qx (p.f (n-1-k));obtain⟨m,hmm⟩:=qx (n-1-k);rw[←hP]at hp vZ
   simp only[←hP]at hc
   rw[←hmm]at hc hm;have gN:=qh (show(bH p k).set k ((n:Int)-1-P)=bH p (k+1)by rw[←vZ.o];exact aL.o);clear vZ aL;have hl:(ints (bH p k)).length=n:=by simp[ints,bH]
   have hcell:wr.cell? ⟨w.heap.size,k,none⟩=(ints (bH p k))[k]?:=a9.o.cellAt k qo;obtain⟨y,hy⟩:∃y,wr.cell? ⟨w.heap.size,k,none⟩=some y:=⟨_,hcell.trans (List.getElem?_eq_getElem qo)⟩;have hf:=a9.o.frozenAt k;have HST:=qh (a9.o.stored k (.int .i64 ((n:Int)-1-P))).1;have HB3:=qh (Below.setCell (p:=⟨w.heap.size,k,none⟩) HB2.o ql (.int .i64 ((n:Int)-1-P)));have e1:(n:Int)-1-(k:Int)=(m:Int):=qo;have b1:(0:Int)≤(k:Int):=qo;have b2:(k:Int)<(n:Int):=qo;have b3:(0:Int)≤(m:Int):=qo;have b4:(m:Int)<(n:Int):=qo;clear hr hP hcell hl hmm
   go_wp2
   go_roundw
   case rel=>exact⟨k+1,by omega,qg,qh (by
    have h:=HST.o;rw[show(ints (bH p k)).set k (.int .i64 ((n:Int)-1-P))=ints ((bH p k).set k ((n:Int)-1-P))by simp[ints,List.map_set],gN.o]at h;exact h),HB3⟩
   case measure=>exact qs
  ·obtain rfl:n=k:=qo
   go_wp2
   go_ret
   exact⟨_,rfl,by rw[G.a6,←qM];exact a9.o,HB2.o⟩
theorem jE {B n:Nat}{w:World}{v:Value}{xs:List Value}(h0:1≤n)(h:w.ownsRow B 2 1 v n xs):∃g c,v=.slice (some ⟨g,0,none⟩) n c∧B≤g∧g<w.heap.size:=by
 rcases h.2 with⟨_,h1⟩|⟨g,cap,_,e,hB,hc,_⟩
 ·omega
 ·exact⟨g,cap,e,hB,(Array.getElem?_eq_some_iff.1 hc).1⟩
def LI {n:Nat}(g:Nat)(P:Int)(L:List (G.PM n))(B:Nat)(w:World)(e:Ending)(w':World):Prop:=e=.returned (.tuple #[])∧Fr w w' (fun x=>x=g∨B≤x)∧∃v bs cs,aA w' g 72 #[.int .i64 n,.int .i64 P,v]∧aK B v L bs cs w'
def P7 {n:Nat}(g:Nat)(P:Int)(L:List (G.PM n))(B:Nat)(v0:Value)(w:World)(e:Ending)(w':World):Prop:=e=.returned (.tuple #[])∧Fr w w' (fun x=>v0.ownBlock=some x)∧∃v bs cs,aA w' g 72 #[.int .i64 n,.int .i64 P,v]∧aK B v L bs cs w'
def iT {n:Nat}(L:List (G.PM n))(i:Nat):List (G.PM n):=(L.take i).map G.PM.flip++L.drop i
theorem zS {n:Nat}(L:List (G.PM n))(i:Nat):(iT L i).length=L.length:=by simp[iT];omega
theorem GC {n:Nat}{L:List (G.PM n)}{i:Nat}(hi:i<L.length):(iT L i)[i]?=L[i]?:=by
 simp only[iT]
 rw[List.getElem?_append_right (by simp;omega),List.getElem?_drop]
 congr 1
 simp
 omega
theorem EB {n:Nat}{L:List (G.PM n)}{i:Nat}{p:G.PM n}(hp:L[i]?=some p):(iT L i).set i p.flip=iT L (i+1):=by
 have hi:i<L.length:=(List.getElem?_eq_some_iff.1 hp).1;rw[List.getElem?_eq_getElem hi]at hp;injection hp with hp
 simp only[iT]
 rw[List.set_append,if_neg (by simp;omega)];have e:((L.take i).map G.PM.flip).length=i:=by simp;omega
 rw[e,Nat.sub_self,List.drop_eq_getElem_cons hi,List.set_cons_zero,List.take_succ_eq_append_getElem hi,List.map_append,List.append_assoc,hp]
 rfl
theorem xA {n:Nat}(g:Nat)(P:Int)(v:Value)(L:List (G.PM n))(bs cs:Nat→Nat)(B:Nat)(w:World)(h:aK B v L bs cs w)(hb:aA w g 72 #[.int .i64 n,.int .i64 P,v])(hgB:g<B)(hB:B≤w.heap.size)(hn:n≤1000)(hn1:1≤n)(hl:L.length≤1000000):
 Calls Tryz.prog 81 #[.pointer (some ⟨g,0,none⟩)] w (P7 g P (L.map G.PM.flip) B v w):=by
 obtain⟨A0,c0,rfl⟩:=h.own.sl;have HF:=qh h;have eS:=qh hb;have m2:w.cell? ⟨g,2,none⟩=some (.slice A0 L.length c0):=hb.cell 2;have fN:=qh (zS L);have aL:=qh (fun i p hp=>EB (L:=L) (i:=i) (p:=p) hp);have MJ:=qh (fun i hi=>GC (L:=L) (i:=i) hi);have i4:=qh (show iT L L.length=L.map G.PM.flip by simp[iT]);have HZ:=qh (show iT L 0=L by simp[iT]);obtain⟨N,hN⟩:=qx (L.length)
 simp only[←hN]at HF eS m2 fN i4 MJ hl ⊢
 have dK:=qh hN;clear h hb hN
 go_enter Tryz.func81,Tryz.ntmps81
 go_wp2_with fail
 clear m2
 go_loopw [9] (fun x wr=>∃(k:Nat) (eB cs1:Nat→Nat),k≤N∧x=.int .i64 k∧Hq (aK B (.slice A0 N c0) (iT L k) eB cs1 wr)∧Hq (aA wr g 72 #[.int .i64 n,.int .i64 P,.slice A0 N c0])∧Hq (Fr w wr (fun x=>(Value.slice A0 N c0).ownBlock=some x))) (fun x _=>N-(intOf x).toNat)
 case atStart=>exact⟨0,bs,cs,Nat.zero_le _,rfl,qh (by rw[HZ.o];exact HF.o),eS,qh (Fr.refl _ _)⟩
 case round=>
  obtain⟨k,eB,cs1,hk,rfl,dF,HB1,gF⟩:=hrel
  by_cases hlt:k<N
  ·have oZ:=qh (fN.o k)
   obtain⟨g0,o0,cap,he,hg0,hBg0⟩:=dF.o.form (by have:=oZ.o;omega);injection he with e1 e2 e3;clear e2;subst e1 e3;obtain⟨p,hp⟩:∃p,L[k]?=some p:=⟨_,List.getElem?_eq_getElem (by have:=dK.o;omega)⟩;have hpk:(iT L k)[k]?=some p:=(MJ.o k qo).trans hp;have gN:=qh (aL.o k p hp);have bU:=qh (show aK B (.slice (some ⟨g0,o0,none⟩) (iT L k).length c0) (iT L k) eB cs1 wr by rw[oZ.o];exact dF.o);have kc:=bU.o.cell (j:=k) (by rw[oZ.o];exact hlt);have L5:=bU.o.frozen (o0+k);have I5:=dF.o.gZ k p hpk;have PW:=qh (EA p (some ⟨eB k,0,none⟩) (cs1 k) wr.drew (Rd.drewN (bI I5) 1) hn);have m2:wr.cell? ⟨g,2,none⟩=some (.slice (some ⟨g0,o0,none⟩) N c0):=HB1.o.cell 2;have hgz:=HB1.o.lt;have hne1:g≠g0:=qo;have hne2:g0≠g:=qo;have b1:(0:Int)≤(k:Int):=qo;have b2:(k:Int)<(N:Int):=qo;clear I5 hp hpk
   go_wp2_with fail
   go_region_held3 (fun w'=>w'.cell? ⟨g,2,none⟩=some (.slice (some ⟨g0,o0,none⟩) N c0)) (go_keep) ((go_at_call 101;refine PW.o.mono ?_;rintro e w4 h4;obtain⟨A4,c4,rfl,jH,_,lY⟩:=h4.rd;rw[G.a6]at jH ⊢;obtain⟨g4,c5,C0,hg4,eA⟩:=jE hn1 jH;injection C0 with tK BZ tJ;clear BZ;subst tK tJ;have hb4:Below wr.heap.size wr w4:=(Below.refl wr.heap.size wr).drew.trans lY;have kL:=qh jH;have PU:=qh hg4;have fO:=qh (bU.o.below hb4);have bQ:=qh (HB1.o.below hb4 hgz);have AD:=qh (gF.o.bV (hb4.mono gF.o.size));have m2:=a7 hb4 hgz m2;have kc:=a7 hb4 hg0 kc;have L5:=(World.frozen?_of_block (a:=⟨g0,o0+k,none⟩) (hb4.block _ hg0)).trans L5;clear h4 jH hb4 lY hg4))
   rename_i hHeld
   clear hHeld m2
   rename World=>w4
   go_wp2_with fail
   go_roundw
   case rel=>exact⟨k+1,_,_,by omega,qg,qh (by
    have h1:=fO.o.put (i:=k) (by rw[oZ.o];exact hlt) (eK kL.o (by have:=gF.o.size;simp;omega)) (fun hx=>by
     have:=(bU.o.lt hx).2;have h5:=PU.o
     simp at h5
     omega)
    rw[gN.o,oZ.o]at h1;exact h1),qh (bQ.o.far (by simp;omega) _),qh (AD.o.set (p:=⟨g0,o0+k,none⟩) rfl _)⟩
   case measure=>exact qs
  ·obtain rfl:N=k:=qo
   go_wp2_with fail
   go_end0
   exact⟨rfl,gF.o,_,eB,cs1,HB1.o,by rw[←i4.o];exact dF.o⟩
theorem aK.eF {n:Nat}{B:Nat}{v:Value}{L:List (G.PM n)}{bs cs:Nat→Nat}{w:World}(h:aK B v L bs cs w){g:Nat}(i:Nat)(hg:g<B)(u:Value):aK B v L bs cs (w.setCell ⟨g,i,none⟩ u):=h.keep fun x hx=>Below.heap_setCell w _ _ x (by have:=(h.lt hx).1;simp;omega)
theorem eE {w:World}{A:Option Addr}{L:List Int}(h:aG w A L){p:Addr}(hp:∀b,Fb A L.length b→b≠p.block)(u:Value):aG (w.setCell p u) A L:=(aB _ _ _).1 _ _ h fun b hb=>Below.heap_setCell w p u b (hp b hb)
theorem DF {n:Nat}(g:Nat)(P:Int)(v:Value)(L:List (G.PM n))(bs cs:Nat→Nat)(B:Nat)(w:World)(h:aK B v L bs cs w)(hb:aA w g 72 #[.int .i64 n,.int .i64 P,v])(hgB:g<B)(hB:B≤w.heap.size)(hn:n≤1000)(hn2:2≤n)(hl:L.length≤100000)(hs:G.Still L)(hP: -1000000≤P∧P≤1000000):
 Calls Tryz.prog 104 #[.pointer (some ⟨g,0,none⟩)] w (LI g (P+G.cnt L) (G.strip L) B w):=by
 have HF:=qh h;have eS:=qh hb;have HS:=qh hs;have m0:w.cell? ⟨g,0,none⟩=some (.int .i64 n):=hb.cell 0;have hgz:=hb.lt;have LQ:=qh (fun W=>i8 n W hn qo);have MH:=qh (fun W=>mO n W hn);clear h hb hs
 go_enter Tryz.func104,Tryz.ntmps104
 go_wp2_with fail
 go_region_held3 (fun w'=>w'.cell? ⟨g,0,none⟩=some (.int .i64 n)) (go_keep)
  (
   first
   |(go_at_call 75;refine(LQ.o _).mono ?_;rintro e w4 ⟨A4,c4,rfl,hr4,hb4,hap⟩;have lY:Below w.heap.size w w4:=(Below.refl w.heap.size w).drew.trans hb4;have fO:=qh (HF.o.below lY);have bQ:=qh (eS.o.below lY hgz);have HR4:=qh hr4;have HAT:=qh (show∀b,Fb A4 (G.pl (G.del:G.PM n)).length b→b≠g from fun b hb e=>by have h1:=hap _ b hb;simp at h1;omega);clear hap;have dU:=qh lY;have m0:=a7 lY hgz m0;clear hb4 lY hr4)
   |(go_at_call 74;refine(MH.o _).mono ?_;rintro e w5 h5;obtain⟨A5,c5,rfl,y6,gW,hb5⟩:=h5.rd;have D8:=qh (show∀b,Fb A5 (G.pl (G.one:G.PM n)).length b→b≠g from fun b hb e=>by have h1:=(fA y6 hb).1;have h2:=dU.o.size;omega);rw[G.a6];clear y6;have mI:=qh (fO.o.below hb5);have eA:=bQ.o.lt;have bP:=qh (bQ.o.below hb5 eA);have LS:=qh (Rd.below HR4.o hb5);have MI:=qh gW;have CL:=dU.st hb5;have m0:=a7 hb5 eA m0;clear h5 gW hb5 fO bQ HR4 dU eA))
 rename_i hHeld
 clear hHeld m0 HF eS LQ MH
 rename World=>w5
 go_wp2_with fail
 go_loopg [19] L.length (fun gh _ wr=>∃(M:List (G.PM n)) (P1:Int) (v1:Value) (eB cs1:Nat→Nat),gh=M.length∧M.length≤L.length∧Hq (G.Still M)∧Hq (G.strip M=G.strip L)∧Hq (P1+G.cnt M=P+G.cnt L)∧(-1000000≤P1∧P1+M.length≤1000000+L.length)∧Hq (aK B v1 M eB cs1 wr)∧Hq (aA wr g 72 #[.int .i64 n,.int .i64 P1,v1])∧Hq (Fr w wr (fun x=>x=g∨B≤x))∧Hq (aG wr A4 (G.pl (G.del:G.PM n)))∧Hq (aG wr A5 (G.pl (G.one:G.PM n))))
 case atStart=>exact⟨L,P,v,bs,cs,rfl,Nat.le_refl _,HS,qh rfl,qh rfl,by omega,mI,bP,qh (Fr.of_below CL.o _),LS,MI⟩
 case round=>
  clear HS mI bP CL LS MI;obtain⟨M,P1,v1,eB,cs1,hgh,tM,dQ,jW,AG,hP1,dF,HB1,fH,HT1,HI1⟩:=hrel
  rcases M with _|⟨p,M⟩
  ·obtain⟨A1,c1,rfl⟩:=dF.o.own.sl
   have O2:=qh (show P1=P+G.cnt L by have h1:=AG.o;have h2:(G.cnt ([]:List (G.PM n)))=0:=rfl;rw[h2]at h1;omega);have EQ:=qh (show G.strip L=[]from jW.o.symm.trans rfl);have m2:wr.cell? ⟨g,2,none⟩=some (.slice A1 0 c1):=HB1.o.cell 2
   go_wp2_with fail
   go_loopg [57] 0 (fun gh _ w2=>gh=0∧w2=wr)
   case atStart=>exact⟨rfl,rfl⟩
   case round=>
    obtain⟨_,rfl⟩:=hrel;have e5:decide ((0:Nat)<0)=false:=rfl
    go_wp2_with fail
    go_quiet (fail)
    go_wp2_with fail
    go_end0
    have cK:=qh (dF.o.drewN nq);refine⟨rfl,Fr.bV fH.o (Below.drewN' (Below.refl _ _) nq),.slice A1 0 c1,eB,cs1,?_,?_⟩
    ·rw[←O2.o]
     exact HB1.o
    ·rw[EQ.o]
     exact cK.o
  ·obtain⟨gv,ov,cap,rfl,hgv,L9⟩:=dF.o.form qj
   have bU:=qh (show aK B (.slice (some ⟨gv,ov,none⟩) (M.length+1) cap) (p::M) eB cs1 wr from dF.o);have HB2:=qh (show aA wr g 72 #[.int .i64 n,.int .i64 P1,.slice (some ⟨gv,ov,none⟩) (M.length+1) cap]from HB1.o);have kc:wr.cell? ⟨gv,ov,none⟩=some (.slice (some ⟨eB 0,0,none⟩) n (cs1 0)):=dF.o.cell (j:=0) qj;have hr0:=qh (bI (dF.o.gZ 0 p rfl));have m0:wr.cell? ⟨g,0,none⟩=some (.int .i64 n):=HB2.o.cell 0;have m1:wr.cell? ⟨g,1,none⟩=some (.int .i64 P1):=HB2.o.cell 1;have m2:wr.cell? ⟨g,2,none⟩=some (.slice (some ⟨gv,ov,none⟩) (M.length+1) cap):=HB2.o.cell 2;have f1:=HB2.o.frozen 1;have f2:=HB2.o.frozen 2;have I2:=HB2.o.lt;have hM2:M.length+1≤100000:=by simp at tM;omega
   obtain⟨m,hm⟩:=qx (M.length);have HM:=qh hm;have IC:m+1≤L.length:=by simp at tM;omega
   have hP2:P1+((m:Int)+1)≤1000000+L.length:=by have h1:=hP1.2;simp at h1;omega
   have E3:gk=m+1:=by simp at hgh;omega
   rw[←hm]at bU HB2 m2 hM2;clear hm tM dF HB1 hgh;have iS:=fV (some ⟨eB 0,0,none⟩) A4 (cs1 0) c4 (G.pl p) (G.pl (G.del:G.PM n)) wr hr0.out HT1.o (by rw[G.a6];omega) (by rw[G.a6];omega);rw[G.a6,G.a6]at iS;have b1:(0:Int)<(m:Int)+1:=qo;have b2:(1:Int)<(n:Int):=qo;have b3:(0:Nat)<m+1:=qo
   by_cases hp:p=G.del
   ·subst hp
    rw[decide_eq_true rfl]at iS;have jN:=qh iS;clear iS;have hpw:IntKind.i64.wrap (P1+1)=P1+1:=IntWalk.i64_in _ qo;obtain⟨hcd,hcn⟩:=G.EF hn2 M;have AB:=qh (show G.strip M=G.strip L by rw[←hcd];exact jW.o);have wB:=qh (show P1+1+G.cnt M=P+G.cnt L by have h1:=AG.o;rw[hcn]at h1;omega);have qW:=qh dQ.o.tail;clear hcd hcn
    by_cases hc1:cap=1
    ·subst hc1
     have hm0:m=0:=by
      have h1:=bU.o.own.2
      rcases h1 with⟨h1,_⟩|⟨_,_,_,_,h1,_,_,h2,_⟩
      ·cases h1
      ·injection h1 with _ h3 h4
       simp at h2
       have:=HM.o;omega
     subst hm0;have OQ:M=[]:=List.eq_nil_of_length_eq_zero HM.o.symm;subst OQ
     go_wp2_with (go_at_call 73;refine jN.o.mono ?_;rintro e w6 ⟨rfl,q,rfl⟩)
     go_roundg 0
     case rel=>exact⟨[],P1+1,_,eB,cs1,rfl,Nat.zero_le _,qW,AB,wB,by simp;omega,qh ((((bU.o.zD).drewN q).eF 1 hgB _).eF 2 hgB _),qh (((HB2.o.drewN q).cM 1 _).cM 2 _),qh (((fH.o.bV (Below.drewN' (Below.refl _ _) q)).set (.inl rfl) _).set (.inl rfl) _),qh (eE (eE (Rd.drewN HT1.o q) (fun b hb=>HAT.o b hb) _) (fun b hb=>HAT.o b hb) _),qh (eE (eE (Rd.drewN HI1.o q) (fun b hb=>D8.o b hb) _) (fun b hb=>D8.o b hb) _)⟩
     case measure=>omega
    ·go_wp2_with (go_at_call 73;refine jN.o.mono ?_;rintro e w6 ⟨rfl,q,rfl⟩)
     go_roundg m
     case rel=>exact⟨M,P1+1,_,_,_,HM.o,by have:=HM.o;omega,qW,AB,wB,by have:=HM.o;omega,qh ((((bU.o.tail HM.o.symm hc1).drewN q).eF 1 hgB _).eF 2 hgB _),qh (((HB2.o.drewN q).cM 1 _).cM 2 _),qh (((fH.o.bV (Below.drewN' (Below.refl _ _) q)).set (.inl rfl) _).set (.inl rfl) _),qh (eE (eE (Rd.drewN HT1.o q) (fun b hb=>HAT.o b hb) _) (fun b hb=>HAT.o b hb) _),qh (eE (eE (Rd.drewN HI1.o q) (fun b hb=>D8.o b hb) _) (fun b hb=>D8.o b hb) _)⟩
     case measure=>omega
   ·have BY:¬(G.pl p=G.pl (G.del:G.PM n)):=fun e=>hp (G.f8 e)
    rw[decide_eq_false BY]at iS;have jN:=qh iS;clear iS BY;obtain⟨hcz,hnd⟩:=G.x9 dQ.o hp;have wB:=qh (show P1=P+G.cnt L by have h1:=AG.o;rw[hcz]at h1;omega);have vV:=qh hnd;clear hcz hnd hp;obtain⟨M0,hM0⟩:=qx (p::M);have oY:=qh (show M0.length=m+1 by rw[hM0,List.length_cons,←HM.o]);rw[←hM0]at bU dQ jW vV;clear hM0 HM AG hP1
    go_wp2_with (go_at_call 73;refine jN.o.mono ?_;rintro e w6 ⟨rfl,q,rfl⟩)
    have fD:=qh (bU.o.drewN q);have HB3:=qh (HB2.o.drewN q);have pX:=qh (fH.o.bV (Below.drewN' (Below.refl _ _) q));have HI3:=qh (Rd.drewN HI1.o q);obtain⟨w7,hw7⟩:=qx (wr.drewN q);rw[←hw7]at fD HB3 pX HI3 ⊢;clear hw7 m0 m1 m2 f1 f2 kc hr0 bU HB2 fH HI1 HT1 jN
    rename World=>w7
    go_loopg [57] (m+1) (fun gh _ wr=>∃(M:List (G.PM n)) (v1:Value) (eB cs1:Nat→Nat),gh=M.length∧M.length≤L.length∧Hq (G.Still M)∧Hq (G.strip M=G.strip L)∧Hq (∀q∈M,q≠G.del)∧Hq (aK B v1 M eB cs1 wr)∧Hq (aA wr g 72 #[.int .i64 n,.int .i64 P1,v1])∧Hq (Fr w wr (fun x=>x=g∨B≤x))∧Hq (aG wr A5 (G.pl (G.one:G.PM n))))
    case atStart=>exact⟨M0,_,eB,cs1,oY.o.symm,by have:=oY.o;omega,dQ,jW,vV,fD,HB3,pX,HI3⟩
    case round=>
     clear dQ jW vV fD HB3 pX HI3 oY;obtain⟨M,v1,eB,cs1,hgh,tM,dQ,jW,vV,dF,HB1,fH,HI1⟩:=hrel
     rcases List.eq_nil_or_concat M with rfl|⟨M,p,rfl⟩
     ·obtain⟨A1,c1,rfl⟩:=dF.o.own.sl
      have EQ:=qh (show G.strip L=[]from jW.o.symm.trans rfl);have m2:wr.cell? ⟨g,2,none⟩=some (.slice A1 0 c1):=HB1.o.cell 2;have e5:decide ((0:Nat)<0)=false:=rfl
      go_wp2_with fail
      go_quiet (fail)
      go_wp2_with fail
      go_end0
      refine⟨rfl,Fr.bV fH.o (Below.drewN' (Below.refl _ _) nq),.slice A1 0 c1,eB,cs1,?_,?_⟩
      ·rw[←wB.o]
       exact HB1.o
      ·rw[EQ.o]
       exact dF.o.drewN nq
     ·rw[List.concat_eq_append]at dQ jW vV dF hgh tM
      obtain⟨gv,ov,cap,rfl,hgv,L9⟩:=dF.o.form qj;have E3:gk=M.length+1:=by simp at hgh;omega
      have IC:M.length+1≤L.length:=by simp at tM;omega
      have bU:=qh (show aK B (.slice (some ⟨gv,ov,none⟩) (M.length+1) cap) (M++[p]) eB cs1 wr by have h1:=dF.o;rw[List.length_append,List.length_singleton]at h1;exact h1);have HB2:=qh (show aA wr g 72 #[.int .i64 n,.int .i64 P1,.slice (some ⟨gv,ov,none⟩) (M.length+1) cap]by have h1:=HB1.o;rw[List.length_append,List.length_singleton]at h1;exact h1);have kc:wr.cell? ⟨gv,ov+M.length,none⟩=some (.slice (some ⟨eB M.length,0,none⟩) n (cs1 M.length)):=dF.o.cell (j:=M.length) qj;have hr0:=qh (bI (dF.o.gZ M.length p qj));have hc1:M.length+1≤cap:=by
       rcases bU.o.own.2 with⟨h1,_⟩|⟨_,_,_,_,h1,_,_,h2,_⟩
       ·cases h1
       ·injection h1 with _ _ h4
        simp at h2
        omega
      have hc2:cap≤maxLen:=by
       rcases bU.o.own.2 with⟨h1,_⟩|⟨_,_,_,_,h1,_,_,_,h2,_⟩
       ·cases h1
       ·injection h1 with _ _ h4
        omega
      have m2:wr.cell? ⟨g,2,none⟩=some (.slice (some ⟨gv,ov,none⟩) (M.length+1) cap):=HB2.o.cell 2;have f2:=HB2.o.frozen 2;clear dF HB1 hgh tM;obtain⟨m,hm⟩:=qx (M.length);have HM:=qh hm;rw[←hm]at bU HB2 kc hr0 hc1 m2 E3 IC;clear hm;have iS:=fun q=>fV (some ⟨eB m,0,none⟩) A5 (cs1 m) c5 (G.pl p) (G.pl (G.one:G.PM n)) (wr.drewN q) (Rd.drewN hr0.out q) (Rd.drewN HI1.o q) (by rw[G.a6];omega) (by rw[G.a6];omega)
      simp only[G.a6]at iS
      have b1:(0:Int)<(m:Int)+1:=qo;have b3:decide ((0:Nat)<m+1)=true:=decide_eq_true qo;have b4:decide ((0:Int)<(m:Int)+1)=true:=decide_eq_true qo;have b5:(0:Int)≤(m:Int):=qo;have b6:(m:Int)<(m:Int)+1:=qo
      by_cases hp:p=G.one
      ·subst hp
       simp only[decide_true]at iS
       have jN:=qh iS;clear iS;have AB:=qh (show G.strip M=G.strip L by rw[←G.last_one M];exact jW.o);have qW:=qh dQ.o.front;have NW:=qh (fun q hq=>vV.o q (List.mem_append_left _ hq))
       go_wp2_with fail
       go_quiet ((go_at_call 73;exact Calls.quiet_of (jN.o _)))
       obtain⟨w8,hw8⟩:=qx (wr.drewN nq);have fD:=qh (bU.o.drewN nq);have HB3:=qh (HB2.o.drewN nq);have pX:=qh (fH.o.bV (Below.drewN' (Below.refl _ _) nq));have HI3:=qh (Rd.drewN HI1.o nq);rw[←hw8]at fD HB3 pX HI3 ⊢;clear hw8 m2 f2 kc hr0 bU HB2 fH HI1 jN;have m2:w8.cell? ⟨g,2,none⟩=some (.slice (some ⟨gv,ov,none⟩) (m+1) cap):=HB3.o.cell 2;have f2:=HB3.o.frozen 2
       go_wp2_with fail
       go_region
       go_wp2_with fail
       go_roundg m
       case rel=>exact⟨M,_,eB,cs1,HM.o,by have:=HM.o;omega,qW,AB,NW,qh (((fD.o.front HM.o.symm).eF 2 hgB _).drewN 1),qh (((HB3.o.cM 2 _)).drewN 1),qh ((pX.o.set (.inl rfl) _).bV (Below.drewN' (Below.refl _ _) 1)),qh (Rd.drewN (eE HI3.o (fun b hb=>D8.o b hb) _) 1)⟩
       case measure=>omega
      ·have BY:¬(G.pl p=G.pl (G.one:G.PM n)):=fun e=>hp (G.f8 e)
       simp only[decide_eq_false BY]at iS
       have jN:=qh iS;have NX:=qh (G.DR dQ.o vV.o hp);clear iS BY hp
       go_wp2_with fail
       go_quiet ((go_at_call 73;exact Calls.quiet_of (jN.o _)))
       go_wp2_with fail
       go_end0
       refine⟨rfl,Fr.bV fH.o (Below.drewN' (Below.refl _ _) nq),.slice (some ⟨gv,ov,none⟩) (m+1) cap,eB,cs1,?_,?_⟩
       ·rw[←wB.o]
        exact HB2.o
       ·rw[←jW.o,NX.o]
        exact bU.o.drewN nq
theorem q8 {n:Nat}(g:Nat)(P:Int)(v:Value)(L:List (G.PM n))(bs cs:Nat→Nat)(B:Nat)(p:G.PM n)(a:Addr)(c:Nat)(w:World)(h:aK B v L bs cs w)(hb:aA w g 72 #[.int .i64 n,.int .i64 P,v])(hgB:g<B)(hB:B≤w.heap.size)(ha:aG w (some a) (G.pl p))(hn:n≤1000)(hn2:2≤n)(hl:L.length≤10000)(hP: -100000≤P∧P≤100000):
 Calls Tryz.prog 83 #[.pointer (some ⟨g,0,none⟩),.slice (some a) n c] w (LI g (G.nor P (L++[p])).1 (G.nor P (L++[p])).2 B w):=by
 obtain⟨i0,hi,iz,is,ib⟩:=info_parts oD;obtain⟨A0,c0,rfl⟩:=h.own.sl;have HF:=qh h;have eS:=qh hb;have m2:w.cell? ⟨g,2,none⟩=some (.slice A0 L.length c0):=hb.cell 2;have hgz:=hb.lt;have tL:=zX a c (G.pl p) w.drew (Rd.drewN ha 1) (by rw[G.a6];omega);rw[G.a6]at tL;have FH:=qh tL;clear h hb tL ha
 go_enter Tryz.func83,Tryz.ntmps83
 go_wp2_with fail
 refine aW (S:=fun w'=>w'.cell? ⟨g,2,none⟩=some (.slice A0 L.length c0)) _ qj qk qk m2 (fun hHeld=>?_)
 simp only[List.dropLast,List.getLast_cons_cons,List.getLast_singleton,List.length_cons,List.length_nil]
 refine qt 0 hHeld ?_;refine qt 1 hHeld ?_;refine qt 2 hHeld ?_;refine qt 3 hHeld ?_;refine qt 4 hHeld ?_;refine qt 5 hHeld ?_
 simp only[List.getElem_toArray,List.getElem_cons_succ,List.getElem_cons_zero,Act.put,List.setIfInBounds_toArray,List.set_cons_zero,List.set_cons_succ]
 refine wpAnyH_ready (rs:=[6]) qk qj ?_;refine AllReadyH.cons rfl (fun K hK=>?_) AllReadyH.nil
 simp only[List.getElem_toArray,List.getElem_cons_succ,List.getElem_cons_zero]
 go_simp
 refine FH.o.mono ?_;rintro e w3 h3;obtain⟨A3,c3,rfl,ho3,_,hb3⟩:=h3.rd;rw[G.a6]at ho3 ⊢;obtain⟨g3,c4,I9,hg3,hz3⟩:=jE qo ho3;injection I9 with C0 tK tJ;clear tK;subst C0 tJ;have hb4:Below w.heap.size w w3:=(Below.refl w.heap.size w).drew.trans hb3;have eC:=qh ho3;have MK:=qh (show w.heap.size≤g3 from hg3);have fD:=qh (HF.o.below hb4);have HB3:=qh (eS.o.below hb4 hgz);have HW3:=qh hb4;have m3:w3.cell? ⟨g,2,none⟩=some (.slice A0 L.length c0):=HB3.o.cell 2;have OT:B≤w3.heap.size:=by have:=hb4.size;omega
 refine hK.out _ _ m3 (fun iR=>?_);clear hK K hHeld m2 h3 ho3 hb3 hb4 hg3;refine wpAnyH_ready (rs:=[7]) qk qj ?_;refine AllReadyH.cons rfl (fun K hK=>?_) AllReadyH.nil
 simp only[List.getElem_toArray,List.getElem_cons_succ,List.getElem_cons_zero]
 go_simp
 refine hK.out _ _ (by go_keep) (fun bW=>?_);clear hK K iR;refine wpAnyH_ready (rs:=[8]) qk qj ?_;refine AllReadyH.cons rfl (fun K hK=>?_) AllReadyH.nil
 simp only[List.getElem_toArray,List.getElem_cons_succ,List.getElem_cons_zero]
 refine wQ w3 (by rfl) (.tmp 10) (.tmp 13) _ (by rfl) B 74 i0 _ 24 Tryz.underlying65 hi iz is ib rfl (.slice A0 L.length c0) L.length _ (by rfl) fD.o.own _ 1 1 [.slice (some ⟨g3,0,none⟩) n c3] (by rfl) rfl (by simp[Value.oneCell']) qm qo OT ?_;intro v5 w5 hown5 cX lZ;have NR:=qh hown5;obtain⟨A5,c5,rfl⟩:=hown5.sl;have hgv:¬(Value.slice A0 L.length c0).ownBlock=some g:=fun e=>by have:=(fD.o.own.lt g e).1;omega
 have lH:=qh (show¬yH (.slice A0 L.length c0) L.length bs g3 from fun hx=>by
  have h1:=(HF.o.lt hx).2;have h2:=MK.o;omega)
 have mI:=qh (fD.o.snoc (eK eC.o (by simp;omega)) lH.o hown5 cX (by
  rcases lZ with h1|h1
  ·exact .inl h1
  ·exact .inr ⟨_,h1,by omega⟩))
 have bP:=qh (HB3.o.fr cX hgv);have JP:=qh ((Fr.of_below HW3.o (fun x=>x=g∨B≤x)).trans (cX.mono (fun b hb=>.inr (fD.o.own.lt b hb).1)));have m5:w5.cell? ⟨g,2,none⟩=some (.slice A0 L.length c0):=bP.o.cell 2;have f5:=bP.o.frozen 2;refine hK.out _ _ m5 (fun aN=>?_);clear hK K bW m3 hown5 cX lZ NR lH fD HB3 eC MK FH;refine qt 9 aN ?_;refine qt 10 aN ?_
 simp only[List.getElem_toArray,List.getElem_cons_succ,List.getElem_cons_zero,Act.put,List.setIfInBounds_toArray,List.set_cons_zero,List.set_cons_succ]
 refine wpAnyH_done qk ?_ _;refine b8.of ?_
 go_simp
 clear aN m5 f5;have cL:=qh (bP.o.cM 2 (.slice A5 (L.length+1) c5));have yU:=qh (mI.o.eF 2 hgB (.slice A5 (L.length+1) c5));have EV:=qh (JP.o.set (p:=⟨g,2,none⟩) (.inl rfl) (.slice A5 (L.length+1) c5));obtain⟨w6,gA⟩:=qx (w5.setCell ⟨g,2,none⟩ (.slice A5 (L.length+1) c5));rw[←gA]at cL yU EV ⊢;have cL:=qh (show aA w6 g 72 #[.int .i64 n,.int .i64 P,.slice A5 (L.length+1) c5]from cL.o);obtain⟨fX,hbs⟩:∃b,b=(fun j=>if j=L.length then g3 else bs j):=⟨_,rfl⟩;obtain⟨kG,hcs⟩:∃b,b=(fun j=>if j=L.length then c3 else cs j):=⟨_,rfl⟩;rw[←hbs,←hcs]at yU;obtain⟨M0,hM0⟩:=qx (L++[p]);have nG:=qh (show M0.length=L.length+1 by rw[hM0];simp);have NU:=qh (show G.nor P (L++[p])=(P+(G.cnt (G.nf M0):Nat),G.strip (G.nf M0))by rw[hM0];rfl);rw[←hM0]at yU;clear gA hbs hcs hM0 mI bP JP HF eS HW3;obtain⟨N,hN⟩:=qx (L.length+1)
 simp only[←hN]at yU cL nG ⊢
 have hN1:1≤N:=qo;have F9:N≤10001:=qo;clear hN hl
 go_wp2_with fail
 go_loopg [4,5] (G.mu M0+1) (fun gh b _ wr=>∃(M:List (G.PM n)) (ch:Bool),b=.bool ch∧gh=(if ch then G.mu M+1 else 0)∧Hq (ch=false→G.Still M)∧Hq (G.Steps M0 M)∧Hq (aK B (.slice A5 N c5) M fX kG wr)∧Hq (aA wr g 72 #[.int .i64 n,.int .i64 P,.slice A5 N c5])∧Hq (Fr w wr (fun x=>x=g∨B≤x)))
 case atStart=>exact⟨M0,true,rfl,rfl,qh (fun h=>by cases h),qh (.refl _),yU,cL,EV⟩
 case round=>
  clear yU cL EV;obtain⟨M1,ch,rfl,hgh,HST,dQ,dF,HB1,fH⟩:=hrel;have nF:=qh (dQ.o.length.trans nG.o)
  cases ch with
  |false=>
   have lH:=qh (G.kX dQ.o (HST.o rfl));have FE:=qh (show G.nor P (L++[p])=(P+(G.cnt M1:Nat),G.strip M1)from by rw[NU.o,lH.o]);have PG:=qh (DF g P (.slice A5 N c5) M1 fX kG B wr dF.o HB1.o hgB (by have:=fH.o.size;omega) hn hn2 (by have:=nF.o;omega) (HST.o rfl) qo)
   go_wp2_with fail
   refine PG.o.mono ?_;rintro e w7 ⟨rfl,y8,v7,IM,IG,aY,tI⟩;have PY:=qh (fH.o.trans y8);have fF:=qh aY;have pY:=qh tI;clear y8 aY tI
   go_wp2_with fail
   go_end0
   refine⟨rfl,PY.o,v7,IM,IG,?_,?_⟩
   ·rw[FE.o]
    exact fF.o
   ·rw[FE.o]
    exact pY.o
  |true=>
   have m2:wr.cell? ⟨g,2,none⟩=some (.slice A5 N c5):=HB1.o.cell 2;have E3:gk=G.mu M1+1:=hgh;clear hgh HST
   go_wp2_with fail
   clear m2
   go_loopg [4,5] (N-1) (fun q b i wr=>∃(k:Nat) (M2:List (G.PM n)) (ch:Bool),k+1≤N∧q=k∧i=.int .i64 ((k:Int)-1)∧b=.bool ch∧Hq (G.Steps M1 M2)∧Hq ((ch=false∧M2=M1∧G.hG M1 k)∨(ch=true∧G.mu M2<G.mu M1))∧Hq (aK B (.slice A5 N c5) M2 fX kG wr)∧Hq (aA wr g 72 #[.int .i64 n,.int .i64 P,.slice A5 N c5])∧Hq (Fr w wr (fun x=>x=g∨B≤x)))
   case atStart=>exact⟨N-1,M1,false,by omega,rfl,congrArg (Value.int .i64) qo,rfl,qh (.refl _),qh (.inl ⟨rfl,rfl,G.rG M1 (by have:=nF.o;omega)⟩),dF,HB1,fH⟩
   case round=>
    clear dF HB1 fH;obtain⟨k,M2,ch,hk,hq,rfl,rfl,HS2,kQ,bU,HB2,AE⟩:=hrel;have bT:=qh (HS2.o.length.trans nF.o)
    by_cases h0:0<k
    ·obtain⟨j,rfl⟩:∃j,k=j+1:=⟨k-1,by omega⟩
     have e1:((j+1:Nat):Int)-1=(j:Int):=qo;rw[e1];obtain⟨p1,hp1⟩:∃p,M2[j]?=some p:=⟨_,List.getElem?_eq_getElem (by have:=bT.o;omega)⟩;obtain⟨q1,hq1⟩:∃p,M2[j+1]?=some p:=⟨_,List.getElem?_eq_getElem (by have:=bT.o;omega)⟩;obtain⟨gv,ov,cap,he,hgv,L9⟩:=bU.o.form (by have:=bT.o;omega);injection he with e2 e3 e4;clear e3;subst e2 e4;have y9:aK B (.slice (some ⟨gv,ov,none⟩) M2.length c5) M2 fX kG wr:=by rw[bT.o];exact bU.o
     have kj:=y9.cell (j:=j) (by have:=bT.o;omega);have GX:=y9.cell (j:=j+1) (by have:=bT.o;omega);have m2:wr.cell? ⟨g,2,none⟩=some (.slice (some ⟨gv,ov,none⟩) N c5):=HB2.o.cell 2;have hbj:=bU.o.lt (.inr ⟨j,by have:=bT.o;omega,rfl⟩);have NA:=bU.o.lt (.inr ⟨j+1,by have:=bT.o;omega,rfl⟩);have hvj:gv≠fX j:=fun e=>bU.o.far j (by have:=bT.o;omega) (congrArg some e);have hvj1:gv≠fX (j+1):=fun e=>bU.o.far (j+1) (by have:=bT.o;omega) (congrArg some e);have I2:=HB2.o.lt;have hbb:fX j≠fX (j+1):=fun e=>by
      have:=bU.o.inj j (j+1) (by have:=bT.o;omega) (by have:=bT.o;omega) e;omega
     have HW:=qh (AR p1 q1 B (fX j) (kG j) (fX (j+1)) (kG (j+1)) wr.drew hbb (own_drewN (bU.o.gZ j p1 hp1) 1) (own_drewN (bU.o.gZ (j+1) q1 hq1) 1) hn);have fY:=qh hp1;have CS:=qh hq1;have b1:(0:Int)≤(j:Int):=qo;have b2:(j:Int)<(N:Int):=qo;have b3:(0:Int)≤(j:Int)+1:=qo;have b4:(j:Int)+1<(N:Int):=qo;clear y9 hp1 hq1 hbb
     go_wp2_with fail
     have s1:IntKind.i64.wrap ((j:Int)+1)=(j:Int)+1:=IntWalk.i64_in _ qo
     go_region_held3 (fun w'=>w'.cell? ⟨g,2,none⟩=some (.slice (some ⟨gv,ov,none⟩) N c5)∧w'.cell? ⟨gv,ov+j,none⟩=some (.slice (some ⟨fX j,0,none⟩) n (kG j))∧w'.cell? ⟨gv,ov+(j+1),none⟩=some (.slice (some ⟨fX (j+1),0,none⟩) n (kG (j+1)))) (go_keep) ((go_at_call 103;refine HW.o.mono ?_;rintro e w4 ⟨p',q',any,rfl,hx,hany,hmu,hst,I4,hop,hoq⟩;have hfr:Fr wr w4 (fun b=>b=fX j∨b=fX (j+1)):=(Fr.of_below ((Below.refl _ wr).drew) _).trans I4;have m2:w4.cell? ⟨g,2,none⟩=some (.slice (some ⟨gv,ov,none⟩) N c5):=(hfr.cells I2 qo 2).trans m2;have kj:w4.cell? ⟨gv,ov+j,none⟩=some (.slice (some ⟨fX j,0,none⟩) n (kG j)):=(hfr.cells hgv qo _).trans kj;have GX:w4.cell? ⟨gv,ov+(j+1),none⟩=some (.slice (some ⟨fX (j+1),0,none⟩) n (kG (j+1))):=(hfr.cells hgv qo _).trans GX;have fO:=qh (bU.o.weighed (i:=j) (by have:=bT.o;omega) hfr hop hoq);have bQ:=qh (HB2.o.fr hfr qo);have AD:=qh (AE.o.trans (hfr.mono (F':=fun x=>x=g∨B≤x) (fun b hb=>by rcases hb with rfl|rfl;exact .inr hbj.1;exact .inr NA.1)));have HX:=qh hx;have JZ:=qh hany;have MB:=qh hmu;have HST:=qh (G.AX fY.o CS.o hst);clear hx hany hmu hst I4 hop hoq hfr))
     rename_i hHeld
     clear hHeld m2 kj GX s1 bU HB2 AE HW
     rename World=>w4
     rename Bool=>any
     cases any with
     |false=>
      obtain⟨h5,h6⟩:=JZ.o rfl;subst h5 h6;have hset:(M2.set j p').set (j+1) q'=M2:=by
       have h7:=fY.o;have h8:=CS.o
       apply List.ext_getElem?
       intro i;rw[List.getElem?_set,List.length_set,List.getElem?_set];have hlj:j+1<M2.length:=(List.getElem?_eq_some_iff.1 h8).1
       by_cases c1:j+1=i
       ·rw[if_pos c1,if_pos hlj,←c1,h8]
       ·rw[if_neg c1]
        by_cases c2:j=i
        ·rw[if_pos c2,if_pos qo,←c2,h7]
        ·rw[if_neg c2]
      have mI:=qh (show aK B (.slice (some ⟨gv,ov,none⟩) N c5) M2 fX kG w4 from by have h7:=fO.o;rw[hset]at h7;exact h7);clear hset fO JZ MB HST
      go_wp2_with fail
      go_roundg j
      case rel=>exact⟨j,M2,ch,by omega,rfl,qg,rfl,HS2,qh (by
       rcases kQ.o with⟨h1,h2,h3⟩|h
       ·exact .inl ⟨h1,h2,by subst h2;exact G.pE h3 fY.o CS.o HX.o⟩
       ·exact .inr h),mI,bQ,AD⟩
      case measure=>omega
     |true=>
      have PR:=qh (show G.mu ((M2.set j p').set (j+1) q')<G.mu M1 from by
       have h1:=MB.o rfl
       rcases G.t8 HST.o with h|h
       ·exfalso
        have hlj:j+1<M2.length:=(List.getElem?_eq_some_iff.1 CS.o).1;have h2:((M2.set j p').set (j+1) q')[j]?=some p':=by rw[List.getElem?_set_ne qo,List.getElem?_set_self qo]
        have h3:((M2.set j p').set (j+1) q')[j+1]?=some q':=by rw[List.getElem?_set_self (by rw[List.length_set];omega)]
        rw[h,fY.o]at h2;rw[h,CS.o]at h3;injection h2 with h2;injection h3 with h3;rw[h2,h3]at h1;exact Nat.lt_irrefl _ h1
       ·rcases kQ.o with⟨_,h2,_⟩|⟨_,h2⟩
        ·rw[←h2]
         exact h
        ·exact Nat.lt_trans h h2)
      go_wp2_with fail
      go_roundg j
      case rel=>exact⟨j,_,true,by omega,rfl,qg,rfl,qh (HS2.o.trans HST.o),qh (.inr ⟨rfl,PR.o⟩),fO,bQ,AD⟩
      case measure=>omega
    ·obtain rfl:k=0:=qo
     have b1:¬(0:Int)≤((0:Nat):Int)-1:=qo
     go_wp2_with fail
     cases ch with
     |false=>
      go_roundg 0
      case rel=>exact⟨M2,false,rfl,rfl,qh (fun _=>by
       rcases kQ.o with⟨_,h2,h3⟩|⟨h1,_⟩
       ·subst h2
        exact G.rE h3
       ·cases h1),qh (dQ.o.trans HS2.o),bU,HB2,AE⟩
      case measure=>omega
     |true=>
      have hmu:G.mu M2<G.mu M1:=by
       rcases kQ.o with⟨h1,_⟩|⟨_,h1⟩
       ·cases h1
       ·exact h1
      go_roundg (G.mu M2+1)
      case rel=>exact⟨M2,true,rfl,rfl,qh (fun h=>by cases h),qh (dQ.o.trans HS2.o),bU,HB2,AE⟩
      case measure=>omega
theorem AY (x:Int)(w:World)(h: -100000≤x∧x≤100000):Calls Tryz.prog 80 #[.int .i64 x] w fun e w'=>e=.returned (.int .i64 x.natAbs)∧w=w':=by
 have s1:IntKind.i64.wrap (-x)= -x:=IntWalk.i64_in _ qo
 by_cases h0:0≤x
 ·have e1:(x.natAbs:Int)=x:=qo
  rw[e1];have b1:(-x:Int)≤x:=qo
  go_enter Tryz.func80,Tryz.ntmps80
  go_wp2
  all_goals go_ret
  all_goals first|exact⟨rfl,rfl⟩|(exact⟨by congr 2;omega,rfl⟩)|(exact⟨congrArg (fun y=>Ending.returned (.int .i64 y)) (Int.max_eq_left qo),rfl⟩)
 ·have e1:(x.natAbs:Int)= -x:=qo
  rw[e1];have b1:¬(-x:Int)≤x:=qo
  go_enter Tryz.func80,Tryz.ntmps80
  go_wp2
  all_goals go_ret
  all_goals first|exact⟨rfl,rfl⟩|(exact⟨by congr 2;omega,rfl⟩)|(exact⟨congrArg (fun y=>Ending.returned (.int .i64 y)) (Int.max_eq_right qo),rfl⟩)
theorem xR {n:Nat}(P:Int)(L:List (G.PM n)):(G.nor P L).1+(G.nor P L).2.length≤P+L.length∧P≤(G.nor P L).1∧(G.nor P L).2.length≤L.length:=by
 have h1:G.cnt (G.nf L)+(G.strip (G.nf L)).length≤(G.nf L).length:=by
  generalize G.nf L=M;unfold G.cnt G.strip
  induction M with
  |nil=>simp
  |cons p M ih=>
   rw[List.filter_cons,List.filter_cons]
   split
   ·rename_i h1
    split
    ·rename_i h2
     simp at h1 h2
     exact absurd h1.2 h2.2
    ·simp only[List.length_cons]
     omega
   ·split
    ·simp only[List.length_cons]
     omega
    ·simp only[List.length_cons]
     omega
 rw[G.qD]at h1;show P+(G.cnt (G.nf L):Nat)+((G.strip (G.nf L)).length:Nat)≤P+L.length∧P≤P+(G.cnt (G.nf L):Nat)∧(G.strip (G.nf L)).length≤L.length;omega
theorem yE {n:Nat}(P:Int)(F:List (G.PM n)){x:Int}(h:0<x):G.act n (P,F) x=G.nor P (F++[G.sig n x.natAbs]):=if_pos h
theorem yG {n:Nat}(P:Int)(F:List (G.PM n)){x:Int}(h:¬0<x):G.act n (P,F) x=G.nor (P-1) (F.map G.PM.flip++[G.neg n x.natAbs]):=if_neg h
theorem vL {n:Nat}(W:List Int):∀(s:Int×List (G.PM n)) (m:Int),-m≤s.1→s.1+s.2.length≤m→ -(m+W.length)≤(G.acts n s W).1∧(G.acts n s W).1+(G.acts n s W).2.length≤m+W.length:=by
 induction W with
 |nil=>intro s m h1 h2;simp[G.acts];omega
 |cons x W ih=>
  rintro⟨P,F⟩ m h1 h2;have h3: -(m+1)≤(G.act n (P,F) x).1∧(G.act n (P,F) x).1+(G.act n (P,F) x).2.length≤m+1:=by
   simp only at h1 h2
   by_cases hx:0<x
   ·rw[yE P F hx]
    have:=xR P (F++[G.sig n x.natAbs])
    simp only[List.length_append,List.length_singleton]at this
    omega
   ·rw[yG P F hx]
    have:=xR (P-1) (F.map G.PM.flip++[G.neg n x.natAbs])
    simp only[List.length_append,List.length_singleton,List.length_map]at this
    omega
  have:=ih (G.act n (P,F) x) (m+1) h3.1 h3.2;show-(m+((x::W).length:Nat))≤(G.acts n (G.act n (P,F) x) W).1∧(G.acts n (G.act n (P,F) x) W).1+(G.acts n (G.act n (P,F) x) W).2.length≤m+((x::W).length:Nat)
  simp only[List.length_cons]
  omega
theorem CE {n:Nat}{W:List Int}{k:Nat}(hk:k<W.length)(s:Int×List (G.PM n)):G.acts n s (W.take (k+1))=G.act n (G.acts n s (W.take k)) (W.getD k 0):=by
 rw[List.take_succ_eq_append_getElem hk,G.nX]
 simp[G.acts,List.getD,hk]
def NE {n:Nat}(w:World)(s:Int×List (G.PM n))(e:Ending)(w':World):Prop:=∃v bs cs,e=.returned (.agg #[.int .i64 n,.int .i64 s.1,v])∧aK w.heap.size v s.2 bs cs w'∧Below w.heap.size w w'
theorem iN {n:Nat}(W:List Int)(A:OA)(c:Nat)(w:World)(ha:aG w A W)(h2:2≤n∨W=[])(hn:n≤1000)(hw:G.Word n W)(hl:W.length≤4500):
 Calls Tryz.prog 44 #[.int .i64 n,.slice A W.length c] w (NE w (G.acts n (0,[]) W)):=by
 have HA:=qh ha;have eW:=qh hw;have HB:=qh (((Below.refl w.heap.size w).alloc ql (.cells #[.int .i64 0,.int .i64 0,.slice none 0 0] 72)).alloc qj (.cells #[.int .i64 n,.int .i64 0,.slice none 0 0] 72));have H0:=qh ((aA.at_ (g':=w.heap.size) w 72 #[.int .i64 0,.int .i64 0,.slice none 0 0] rfl).alloc (.cells #[.int .i64 n,.int .i64 0,.slice none 0 0] 72));have H1:=qh (aA.at_ (g':=w.heap.size+1) (w.alloc (.cells #[.int .i64 0,.int .i64 0,.slice none 0 0] 72)) 72 #[.int .i64 n,.int .i64 0,.slice none 0 0] qj);clear ha hw
 go_enter Tryz.func44,Tryz.ntmps44
 go_wp2_with fail
 go_loopw [13] (fun x wr=>∃(k:Nat) (P:Int) (F:List (G.PM n)) (v:Value) (bs cs:Nat→Nat),k≤W.length∧x=.int .i64 k∧Hq (G.acts n (0,[]) (W.take k)=(P,F))∧Hq (aK (w.heap.size+2) v F bs cs wr)∧Hq (aA wr (w.heap.size+1) 72 #[.int .i64 n,.int .i64 P,v])∧Hq (aA wr w.heap.size 72 #[.int .i64 0,.int .i64 0,.slice none 0 0])∧Hq (Below w.heap.size w wr)) (fun x _=>W.length-(intOf x).toNat)
 case atStart=>exact⟨0,0,[],_,fun _=>0,fun _=>0,Nat.zero_le _,rfl,qh rfl,qh (aK.MT _ _ _ _),H1,H0,HB⟩
 case round=>
  clear H0 H1 HB;obtain⟨k,P,F,v,bs,cs,hk,rfl,HX,HF,HB1,HB0,eY⟩:=hrel
  by_cases hlt:k<W.length
  ·have hn2:2≤n:=by
    rcases h2 with h|h
    ·exact h
    ·rw[h]at hlt
     simp at hlt
   obtain⟨ga,o,rfl,hg,hr⟩:=HA.o qo;have hc:=a7 eY.o hg (hr k hlt);have aL:=qh (CE hlt ((0,[]):Int×List (G.PM n)));have hxw:=eW.o (W.getD k 0) (by simp[List.getD,hlt]);have hbd:=vL (W.take k) ((0,[]):Int×List (G.PM n)) 0 qj qj;rw[HX.o,List.length_take,Nat.min_eq_left hk]at hbd
   simp only at hbd
   obtain⟨x,hx⟩:=qx (W.getD k 0);rw[←hx,HX.o]at aL;rw[←hx]at hxw
   simp only[←hx]at hc
   obtain⟨m,hm⟩:=qx (x.natAbs);have hm1:1≤m:=qo;have hm2:m<n:=qo;have J2:=qh (AY x wr qo);rw[←hm]at J2;have MD:=qh (fun w'=>kB n m w' hn hm1 hm2);have b1:(0:Int)≤(k:Int):=qo;have b2:(k:Int)<(W.length:Int):=qo;clear hr hx
   by_cases hp:0<x
   ·have hxn:¬x<0:=qo
    have bT:=qh (show G.acts n (0,[]) (W.take (k+1))=G.nor P (F++[G.sig n m])by rw[aL.o,yE P F hp,hm]);clear aL hm
    go_wp2_with fail
    refine J2.o.mono ?_;rintro e w3 ⟨rfl,rfl⟩
    go_wp2_with fail
    refine(MD.o _).mono ?_;rintro e w4 h4;obtain⟨A4,c4,rfl,jH,hr4,hb4⟩:=h4.rd;rw[G.a6]at jH ⊢;obtain⟨g4,c5,C0,hg4,eA⟩:=jE qo jH;injection C0 with tK tJ BZ;clear tJ;subst tK BZ;have hz1:=HB1.o.lt;have hz0:=HB0.o.lt;have fO:=qh (HF.o.below hb4);have nY:=qh (HB1.o.below hb4 hz1);have AL:=qh (HB0.o.below hb4 hz0);have wC:=eY.st hb4;have gC:=qh (q8 (w.heap.size+1) P v F bs cs (w.heap.size+2) (G.sig n m) ⟨g4,0,none⟩ c4 w4 fO.o nY.o qo (by have:=nY.o.lt;omega) hr4 hn hn2 qo qo);clear h4 jH hr4 hb4
    go_wp2_with fail
    refine gC.o.mono ?_;rintro e w7 ⟨rfl,y8,v7,IM,IG,aY,tI⟩;have wE:=qh aY;have pY:=qh tI;have wG:=qh (AL.o.fr y8 qo);have AI:=qh (wC.o.trans (y8.below (B:=w.heap.size) wC.o.size (fun b hb=>by omega)));clear y8 aY tI gC
    go_wp2_with fail
    go_roundw
    case rel=>exact⟨k+1,_,_,v7,IM,IG,by omega,qg,bT,pY,wE,wG,AI⟩
    case measure=>exact qs
   ·have hxn:x<0:=qo
    have bT:=qh (show G.acts n (0,[]) (W.take (k+1))=G.nor (P-1) (F.map G.PM.flip++[G.neg n m])by rw[aL.o,yG P F hp,hm]);have NV:=qh (show(G.del:G.PM n).mul (G.sig n m)=G.neg n m from rfl);clear aL hm
    go_wp2_with fail
    refine J2.o.mono ?_;rintro e w3 ⟨rfl,rfl⟩
    go_wp2_with fail
    refine(MD.o _).mono ?_;rintro e w4 h4;obtain⟨A4,c4,rfl,jH,hr4,hb4⟩:=h4.rd;rw[G.a6];have hz1:=HB1.o.lt;have hz0:=HB0.o.lt;have fO:=qh (HF.o.below hb4);have nY:=qh (HB1.o.below hb4 hz1);have AL:=qh (HB0.o.below hb4 hz0);have wC:=eY.st hb4;have HR4:=qh hr4;have JY:=qh (show∀b,Fb A4 (G.pl (G.sig n m)).length b→wr.heap.size≤b from fun b hb=>(fA jH hb).1);have m1:w4.cell? ⟨w.heap.size+1,1,none⟩=some (.int .i64 P):=nY.o.cell 1;have f1:=nY.o.frozen 1;have s1:IntKind.i64.wrap (P-1)=P-1:=IntWalk.i64_in _ qo;clear h4 jH hr4 hb4;have mI:=qh (fO.o.eF 1 (g:=w.heap.size+1) qo (.int .i64 (P-1)));have AK:=qh (show aA (w4.setCell ⟨w.heap.size+1,1,none⟩ (.int .i64 (P-1))) (w.heap.size+1) 72 #[.int .i64 n,.int .i64 (P-1),v]from nY.o.cM 1 (.int .i64 (P-1)));have F0:=qh (AL.o.far (p:=⟨w.heap.size+1,1,none⟩) qj (.int .i64 (P-1)));have AJ:=qh (wC.o.setCell (p:=⟨w.heap.size+1,1,none⟩) qj (.int .i64 (P-1)));have jM:=qh (eE (p:=⟨w.heap.size+1,1,none⟩) HR4.o (fun b hb e=>by have h1:=JY.o b hb;simp at e;omega) (.int .i64 (P-1)))
    go_wp2_with fail
    obtain⟨w5,KV⟩:=qx (w4.setCell ⟨w.heap.size+1,1,none⟩ (.int .i64 (P-1)));rw[←KV]at mI AK F0 AJ jM ⊢;clear KV m1 f1 s1 fO nY AL wC HR4;refine(xA (w.heap.size+1) (P-1) v F bs cs (w.heap.size+2) w5 mI.o AK.o qo (by have:=AK.o.lt;omega) hn qo qo).mono ?_;rintro e w6 ⟨rfl,F8,v6,fX,kG,hb6,I7⟩;have EY:=qh hb6;have JQ:=qh I7;have hv0:∀b,v.ownBlock=some b→w.heap.size+2≤b∧b<wr.heap.size:=fun b hb=>HF.o.own.lt b hb;have EZ:=qh (F0.o.fr F8 (fun e=>by have:=(hv0 _ e).1;omega));have JU:=qh (AJ.o.trans (F8.below (B:=w.heap.size) AJ.o.size (fun b hb=>by have:=(hv0 _ hb).1;omega)));have LZ:=qh ((aB _ _ _).fr jM.o F8 (fun b hb e=>by
     have h1:=JY.o b hb;have h2:=(hv0 _ e).2;omega))
    clear F8 hb6 I7 hv0 mI AK F0 AJ jM
    go_wp2_with fail
    refine(i8 n _ hn qo).mono ?_;rintro e w7 ⟨A7,c7,rfl,eP,aY,_⟩;have MY:=EY.o.lt;have MZ:=EZ.o.lt;have pY:=qh (JQ.o.below aY);have wE:=qh (EY.o.below aY MY);have wG:=qh (EZ.o.below aY MZ);have AI:=JU.st aY;have gD:=qh (Rd.below LZ.o aY);have LR:=qh eP;clear eP aY JQ EY EZ JU LZ
    go_wp2_with fail
    refine(xI G.del (G.sig n m) A7 A4 c7 c4 w7 LR.o gD.o hn).mono ?_;rintro e w8 h8;obtain⟨A8,c8,rfl,qK,H8,cH⟩:=h8.rd;rw[NV.o]at qK H8 ⊢;rw[G.a6]at qK ⊢;obtain⟨g8,c9,OP,hg8,BW⟩:=jE qo qK;injection OP with tK tJ BZ;clear tJ;subst tK BZ;have MW:=wE.o.lt;have MX:=wG.o.lt;have O0:=qh (pY.o.below cH);have JW:=qh (wE.o.below cH MW);have O6:=qh (wG.o.below cH MX);have JT:=AI.st cH;have gC:=qh (q8 (w.heap.size+1) (P-1) v6 (F.map G.PM.flip) fX kG (w.heap.size+2) (G.neg n m) ⟨g8,0,none⟩ c8 w8 O0.o JW.o qo (by have:=JW.o.lt;omega) H8 hn hn2 (by rw[List.length_map];omega) qo);clear h8 qK H8 cH pY wE wG AI gD LR
    go_wp2_with fail
    refine gC.o.mono ?_;rintro e w9 ⟨rfl,I8,v9,P2,OY,gB,I6⟩;have O4:=qh gB;have NZ:=qh I6;have O5:=qh (O6.o.fr I8 qo);have O3:=qh (JT.o.trans (I8.below (B:=w.heap.size) JT.o.size (fun b hb=>by omega)));clear I8 gB I6 gC
    go_wp2_with fail
    go_roundw
    case rel=>exact⟨k+1,_,_,v9,P2,OY,by omega,qg,bT,NZ,O4,O5,O3⟩
    case measure=>exact qs
  ·obtain rfl:W.length=k:=qo
   rw[List.take_length]at HX;obtain⟨A1,c1,rfl⟩:=HF.o.own.sl;have m0:wr.cell? ⟨w.heap.size+1,0,none⟩=some (.int .i64 n):=HB1.o.cell 0;have m1:wr.cell? ⟨w.heap.size+1,1,none⟩=some (.int .i64 P):=HB1.o.cell 1;have m2:wr.cell? ⟨w.heap.size+1,2,none⟩=some (.slice A1 F.length c1):=HB1.o.cell 2;have n0:wr.cell? ⟨w.heap.size,0,none⟩=some (.int .i64 0):=HB0.o.cell 0;have n1:wr.cell? ⟨w.heap.size,1,none⟩=some (.int .i64 0):=HB0.o.cell 1;have n2:wr.cell? ⟨w.heap.size,2,none⟩=some (.slice none 0 0):=HB0.o.cell 2;have g0:=HB0.o.frozen 0;have g1:=HB0.o.frozen 1;have g2:=HB0.o.frozen 2
   go_wp2_with fail
   have mL:=((HB0.o.cM 0 (.int .i64 n)).cM 1 (.int .i64 P)).cM 2 (.slice A1 F.length c1);have FG:=qh (((HF.o.eF 0 (g:=w.heap.size) qo (.int .i64 n)).eF 1 (g:=w.heap.size) qo (.int .i64 P)).eF 2 (g:=w.heap.size) qo (.slice A1 F.length c1));have dN:=qh (((eY.o.setCell (p:=⟨w.heap.size,0,none⟩) qj (.int .i64 n)).setCell (p:=⟨w.heap.size,1,none⟩) qj (.int .i64 P)).setCell (p:=⟨w.heap.size,2,none⟩) qj (.slice A1 F.length c1));obtain⟨w9,dJ⟩:∃w9,w9=(((wr.setCell ⟨w.heap.size,0,none⟩ (.int .i64 n)).setCell ⟨w.heap.size,1,none⟩ (.int .i64 P)).setCell ⟨w.heap.size,2,none⟩ (.slice A1 F.length c1)):=⟨_,rfl⟩;rw[←dJ]at mL FG dN ⊢;have k0:w9.cell? ⟨w.heap.size,0,none⟩=some (.int .i64 n):=mL.cell 0;have k1:w9.cell? ⟨w.heap.size,1,none⟩=some (.int .i64 P):=mL.cell 1;have k2:w9.cell? ⟨w.heap.size,2,none⟩=some (.slice A1 F.length c1):=mL.cell 2;clear dJ mL m0 m1 m2 n0 n1 n2 g0 g1 g2
   (try simp only[Exit.inBlock,Exit.then])
   refine bodyPost_ret (by simp[results,Tryz.results44,go_sem,k0,k1,k2];try rfl) rfl ?_;rw[HX.o];exact⟨_,bs,cs,rfl,FG.o.base qo,dN.o⟩
end Go.Proofs.YtmnbgjnipbpiaaaGreat
namespace Go.Proofs.YtmnbgjnipbpiaaaGreat
open Go.RowKit
theorem l9 (A B:OA)(c c':Nat)(L M:List Int)(w:World)(ha:aG w A L)(hb:aG w B M)(hn:L.length≤1048576)(hm:M.length≤1048576):
 Calls Tryz.prog 85 #[.slice A L.length c,.slice B M.length c'] w fun e w'=>e=.returned (.bool (decide (L=M)))∧∃q,w'=w.drewN q:=by
 have HE:=qh (fV A B c c' L M w ha hb hn hm);clear ha hb
 go_enter Tryz.func85,Tryz.ntmps85
 go_wp2_with fail
 refine HE.o.mono ?_;rintro e w1 ⟨rfl,q,rfl⟩
 go_wp2_with fail
 go_ret
 exact⟨rfl,q,rfl⟩
open Classical in
theorem zV {n:Nat}(v u:Value)(F E:List (G.PM n))(bs cs bs' cs':Nat→Nat)(B B':Nat)(w:World)(ha:aK B v F bs cs w)(hb:aK B' u E bs' cs' w)(hn:n≤1000)(hl:F.length≤1000000)(hl':E.length≤1000000):
 Calls Tryz.prog 84 #[v,u,.func (.func 85) #[] #[]] w fun e w'=>e=.returned (.bool (decide (F=E)))∧∃q,w'=w.drewN q:=by
 obtain⟨A,c,rfl⟩:=ha.own.sl;obtain⟨A',c',rfl⟩:=hb.own.sl;have HA:=qh ha;have HB:=qh hb;clear ha hb
 by_cases hle:F.length=E.length
 case neg=>
  have HD:=qh (show decide (F=E)=false from decide_eq_false fun e=>hle (by rw[e]));have hlb:((F.length:Int)==(E.length:Int))=false:=by rw[beq_eq_false_iff_ne];omega
  have hlc:¬(F.length:Int)=(E.length:Int):=qo
  go_enter Tryz.func84,Tryz.ntmps84
  go_wp2_with fail
  go_ret
  exact⟨by rw[HD.o];rfl,0,rfl⟩
 obtain⟨N,hN⟩:=qx (F.length);have F9:E.length=N:=qo;have lH:=qh hN;have eD:=qh F9
 simp only[←hN,F9]at HA HB hl ⊢
 clear hN F9 hle hl'
 go_enter Tryz.func84,Tryz.ntmps84
 go_wp2_with fail
 go_loopw [17] (fun x wr=>∃k q:Nat,k≤N∧x=.int .i64 k∧wr=w.drewN q∧Hq (F.take k=E.take k)) (fun x _=>N-(intOf x).toNat)
 case atStart=>exact⟨0,0,Nat.zero_le _,rfl,rfl,qh qj⟩
 case round=>
  obtain⟨k,q,hk,rfl,rfl,HX⟩:=hrel
  by_cases hlt:k<N
  ·obtain⟨gf,o,cp,he,hgf,_⟩:=HA.o.form (by have:=lH.o;omega)
   injection he with e1 e2 e3;clear e2;subst e1 e3;obtain⟨ge,o',cp',he',hge,_⟩:=HB.o.form (by have:=eD.o;omega);injection he' with e1 e2 e3;clear e2;subst e1 e3;obtain⟨p,hp⟩:∃p,F[k]?=some p:=⟨_,List.getElem?_eq_getElem (by have:=lH.o;omega)⟩;obtain⟨r,hr⟩:∃p,E[k]?=some p:=⟨_,List.getElem?_eq_getElem (by have:=eD.o;omega)⟩;have y9:aK B (.slice (some ⟨gf,o,none⟩) F.length c) F bs cs w:=by rw[←lH.o];exact HA.o
   have L8:aK B' (.slice (some ⟨ge,o',none⟩) E.length c') E bs' cs' w:=by rw[eD.o];exact HB.o
   have kf:=y9.cell (j:=k) (by have:=lH.o;omega);have ke:=L8.cell (j:=k) (by have:=eD.o;omega);have hsl:=l9 (some ⟨bs k,0,none⟩) (some ⟨bs' k,0,none⟩) (cs k) (cs' k) (G.pl p) (G.pl r) (w.drewN q) (Rd.drewN (bI (HA.o.gZ k p hp)) q) (Rd.drewN (bI (HB.o.gZ k r hr)) q) (by rw[G.a6];omega) (by rw[G.a6];omega);rw[G.a6,G.a6]at hsl;have HSL:=qh hsl;have HT1:=qh (show F.take (k+1)=F.take k++[p]by rw[List.take_add_one,hp];rfl);have HT2:=qh (show E.take (k+1)=E.take k++[r]by rw[List.take_add_one,hr];rfl);have PO:=qh hp;have j3:=qh hr;have b1:(0:Int)≤(k:Int):=qo;have b2:(k:Int)<(N:Int):=qo;clear y9 L8 hsl hp hr
   go_wp2_with fail
   refine HSL.o.mono ?_;rintro e w4 ⟨rfl,q4,rfl⟩
   by_cases hpr:p=r
   ·have h1:decide (G.pl p=G.pl r)=true:=decide_eq_true (by rw[hpr])
    rw[h1]
    go_wp2_with fail
    go_roundw
    case rel=>exact⟨k+1,q+q4,by omega,qg,rfl,qh (by rw[HT1.o,HT2.o,HX.o,hpr])⟩
    case measure=>exact qs
   ·have h1:decide (G.pl p=G.pl r)=false:=decide_eq_false fun e=>hpr (G.f8 e)
    rw[h1];have HD:=qh (show decide (F=E)=false from decide_eq_false fun e=>by
     have h2:=PO.o;rw[e,j3.o]at h2;injection h2 with h2;exact hpr h2.symm)
    go_wp2_with fail
    go_ret
    exact⟨by rw[HD.o];rfl,q+q4,rfl⟩
  ·obtain rfl:N=k:=qo
   have HD:=qh (show decide (F=E)=true from decide_eq_true (by
    have h:=HX.o;rwa[List.take_of_length_le (by rw[←lH.o];omega),List.take_of_length_le (by rw[eD.o];omega)]at h))
   go_wp2_with fail
   go_ret
   exact⟨by rw[HD.o];rfl,q,rfl⟩
open Classical in
theorem pF {n:Nat}(P P':Int)(v u:Value)(F E:List (G.PM n))(bs cs bs' cs':Nat→Nat)(B B':Nat)(w:World)(ha:aK B v F bs cs w)(hb:aK B' u E bs' cs' w)(hn:n≤1000)(hl:F.length≤1000000)(hl':E.length≤1000000):
 Calls Tryz.prog 46 #[.agg #[.int .i64 n,.int .i64 P,v],.agg #[.int .i64 n,.int .i64 P',u]] w fun e w'=>e=.returned (.bool (decide ((P,F)=(P',E))))∧Below w.heap.size w w':=by
 have HW:=qh (((Below.refl w.heap.size w).alloc ql (.cells #[.int .i64 n,.int .i64 P,v] 72)).alloc qj (.cells #[.int .i64 n,.int .i64 P',u] 72));have HE:=qh (zV v u F E bs cs bs' cs' B B' _ (ha.below HW.o) (hb.below HW.o) hn hl hl');obtain⟨A,c,rfl⟩:=ha.own.sl;obtain⟨A',c',rfl⟩:=hb.own.sl;clear ha hb
 by_cases hp:P=P'
 ·have HD:=qh (show decide ((P,F)=(P',E))=decide (F=E)from decide_eq_decide.2 ⟨fun h=>by injection h,fun h=>by rw[h,hp]⟩)
  subst hp;have hp2:(P==P)=true:=by simp
  go_enter Tryz.func46,Tryz.ntmps46
  go_wp2_with fail
  refine HE.o.mono ?_;rintro e w4 ⟨rfl,q4,rfl⟩
  go_wp2_with fail
  go_ret
  exact⟨by rw[HD.o];rfl,Below.drewN' HW.o q4⟩
 ·have HD:=qh (show decide ((P,F)=(P',E))=false from decide_eq_false fun h=>by injection h with h _;exact hp h)
  have hp2:(P==P')=false:=by simp[hp]
  go_enter Tryz.func46,Tryz.ntmps46
  go_wp2_with fail
  go_ret
  exact⟨by rw[HD.o];rfl,HW.o⟩
theorem l4 {n:Nat}{W:List Int}(hl:W.length≤4500):(G.acts n ((0,[]):Int×List (G.PM n)) W).2.length≤1000000:=by
 have:=vL W ((0,[]):Int×List (G.PM n)) 0 qj qj;omega
theorem kF {n:Nat}(V W:List Int)(A B:OA)(c c':Nat)(w:World)(ha:aG w A V)(hb:aG w B W)(hn:n≤1000)(hv:G.Word n V)(hw:G.Word n W)(hlv:V.length≤4500)(I1:W.length≤4500):
 Calls Tryz.prog 100 #[.int .i64 n,.slice A V.length c,.slice B W.length c'] w fun e w'=>e=.returned (.bool (gP n V W))∧Below w.heap.size w w':=by
 have HB:=qh hb;have yN:=qh (show gP n V W=gP n V W from rfl);have H1:=qh (iN V A c w ha (iK hv) hn hv hlv);have bT:=qh (fun w' h=>iN W B c' w' h (iK hw) hn hw I1);have hl1:=l4 (n:=n) hlv;have hl2:=l4 (n:=n) I1;unfold gP at yN;obtain⟨s,hs⟩:=qx (G.acts n ((0,[]):Int×List (G.PM n)) V);obtain⟨u,hu⟩:=qx (G.acts n ((0,[]):Int×List (G.PM n)) W);have HD:=qh (show gP n V W=@decide (s=u) (Classical.propDecidable _)from by unfold gP;rw[hs,hu];exact decide_eq_decide.2 Iff.rfl);rw[←hs]at H1 hl1;rw[←hu]at bT hl2;obtain⟨P,F⟩:=s;obtain⟨P',E⟩:=u;clear hs hu ha hb yN
 go_enter Tryz.func100,Tryz.ntmps100
 go_wp2_with fail
 refine H1.o.mono ?_;rintro e w1 ⟨v1,eB,cs1,rfl,hf1,hb1⟩;have dF:=qh hf1;have HB1:=qh hb1;clear hf1 hb1
 go_wp2_with fail
 refine(bT.o _ (Rd.below HB.o HB1.o)).mono ?_;rintro e w2 ⟨v2,P3,cs2,rfl,hf2,hb2⟩;have bU:=qh hf2;have O1:=qh (dF.o.below hb2);have HB2:=HB1.st hb2;clear hf2 hb2
 go_wp2_with fail
 refine(pF P P' v1 v2 F E eB cs1 P3 cs2 _ _ w2 O1.o bU.o hn hl1 hl2).mono ?_;rintro e w3 ⟨rfl,hb3⟩;have HB3:=HB2.st hb3;clear hb3
 go_wp2_with fail
 go_ret
 exact⟨by rw[HD.o];show Ending.returned (.bool _)=_;exact congrArg (fun b=>Ending.returned (.bool b)) (decide_eq_decide.2 Iff.rfl),HB3.o⟩
end Go.Proofs.YtmnbgjnipbpiaaaGreat
namespace Go.Proofs.YtmnbgjnipbpiaaaGreat
open Go.RowKit
theorem G5 (m:Nat)(hm:m≤1000000):∃cs:Array Value,cs.size=m∧∀w:World,(Instr.makeSlice 74 (.int .i64 0) (.int .i64 (m:Int))).run Tryz.prog w=.ok (.slice (some ⟨w.heap.size,0,none⟩) 0 m) (w.alloc (.cells cs 2)):=by
 obtain⟨i0,hi,iz,is,ib⟩:=info_parts info64;refine⟨madeCells (Value.int .i64 0).cells m,size_madeCells _ _,fun w=>?_⟩;have h:=run_makeSlice (P:=Tryz.prog) w 74 2 i0 (.int .i64 0) Tryz.underlying74 hi iz .i64 .i64 0 m qo qo (by rw[is];simp;omega) (by rw[ib];omega) qo;rw[is]at h
 simpa using h
theorem n3 (L:List Int)(A:OA)(c:Nat)(w:World)(ha:aG w A L)(hn:L.length≤100000)(hs:l5 L):Calls Tryz.prog 99 #[.slice A L.length c] w (dA w (G.red L)):=by
 obtain⟨i0,hi,iz,is,ib⟩:=info_parts info64;obtain⟨cs,hcs,hmk⟩:=G5 L.length qo;have HO:=qh (World.ownsRow_made (e:=2) (size:=1) w cs L.length ql qm qo);have HB:=qh ((Below.refl w.heap.size w).alloc ql (.cells cs 2));have HA:=qh ha;have HS:=qh hs;have aL:=qh (show∀k,k<L.length→G.red (L.take (k+1))=G.cC (G.red (L.take k)) (L.getD k 0)from fun k hk=>by
  show List.foldl G.cC [] (L.take (k+1))=G.cC (List.foldl G.cC [] (L.take k)) _;rw[List.take_succ_eq_append_getElem hk,List.foldl_append]
  simp only[List.foldl_cons,List.foldl_nil,List.getD,List.getElem?_eq_getElem hk,Option.getD_some])
 have JM:=qh (show∀k,(G.red (L.take k)).length≤k from fun k=>by
  have:=G.fQ (L.take k);rw[List.length_take]at this;omega)
 have vS:=qh (show∀k,l5 (G.red (L.take k))from fun k x hx=>hs x (List.mem_of_mem_take (G.pH hx)));clear ha hs
 go_enter Tryz.func99,Tryz.ntmps99
 go_wp2_with fail
 clear hmk
 go_loopw [3,11] (fun v x wr=>∃k:Nat,k≤L.length∧x=.int .i64 k∧Hq (wr.ownsRow w.heap.size 2 1 v (G.red (L.take k)).length (ints (G.red (L.take k))))∧Hq (Below w.heap.size w wr)) (fun _ x _=>L.length-(intOf x).toNat)
 case atStart=>exact⟨0,Nat.zero_le _,rfl,HO,HB⟩
 case round=>
  obtain⟨k,hk,rfl,a9,HB2⟩:=hrel
  by_cases hlt:k<L.length
  ·obtain⟨ga,o,rfl,hg,hr⟩:=HA.o qo
   have hc:=a7 HB2.o hg (hr k hlt);have hz:=HS.o.get k;have HX:=qh (aL.o k hlt);have hle:=JM.o k;have CN:=qh (vS.o k);obtain⟨y,hy⟩:=qx (L.getD k 0);obtain⟨R,hR⟩:=qx (G.red (L.take k))
   simp only[←hy,←hR]at hc hz HX a9 hle CN
   have b1:(0:Int)≤(k:Int):=qo;have b2:(k:Int)<(L.length:Int):=qo;clear hr hy hR
   by_cases h0:R.length=0
   ·obtain rfl:R=[]:=List.length_eq_zero_iff.1 h0
    have dE:=qh (show G.red (L.take (k+1))=[y]by rw[HX.o];rfl);obtain⟨A3,c3,rfl,_⟩:=aD a9.o;rw[List.length_nil]at a9 ⊢
    go_wp2_with (at_builtin;go_must (refine cQ wr rfl (.tmp 34) (.tmp 36) _ rfl w.heap.size 2 i0 _ 1 8 Tryz.underlying74 hi iz is ib rfl qo (.slice A3 0 c3) _ _ rfl a9.o _ 1 1 _ rfl rfl (by simp[Value.oneCell']) qm qo HB2.o.size ?_);intro v' w' hown' hb';have eC:=qh hown';have HB3:=qh (HB2.o.trans hb');clear hown' hb')
    go_roundw
    case rel=>exact⟨k+1,by omega,qg,qh (by rw[dE.o];exact eC.o),HB3⟩
    case measure=>exact qs
   obtain⟨g1,c1,rfl⟩:∃g1 c1,u3=.slice (some ⟨g1,0,none⟩) R.length c1:=by
    rcases a9.o.2 with⟨_,h⟩|⟨g1,cap,_,e,_⟩
    ·omega
    ·exact⟨g1,cap,e⟩
   obtain⟨r,hr⟩:∃r,R.length=r+1:=⟨R.length-1,by omega⟩;have hl:=a9.o.cellAt r qo;have hlz:=CN.o.get r;rw[show(ints R)[r]?=some (.int .i64 (R.getD r 0))by simp[ints,List.getD,show r<R.length by omega]]at hl;have kM:=qh (show R.getLast?.getD 0=R.getD r 0 by rw[List.getLast?_eq_getElem?,hr];rfl);obtain⟨z,hzz⟩:=qx (R.getD r 0);rw[←hzz]at hl hlz kM;have eD:=qh (show R≠[]from fun e=>h0 (by rw[e];rfl));have CP:=qh hr;have b3:(0:Int)≤(r:Int):=qo;have b4:(r:Int)<((r+1:Nat):Int):=qo;have e1:((r+1:Nat):Int)-1=(r:Int):=qo;have e2:(0:Int)<((r+1:Nat):Int):=qo;have hcap:r≤c1:=by
    rcases a9.o.2 with⟨h,_⟩|⟨_,_,_,e,_,_,h,_⟩
    ·cases h
    ·injection e with _ _ e
     omega
   have hd0:decide ((0:Int)<((r+1:Nat):Int))=true:=decide_eq_true e2;rw[hr]at a9 hle ⊢;clear hzz hr h0
   by_cases hzy:z= -y
   ·have dE:=qh (show G.red (L.take (k+1))=R.dropLast by
     rw[HX.o];unfold G.cC;rw[if_pos ⟨eD.o,kM.o.trans hzy⟩])
    have JD:=qh (sV a9.o (Nat.le_succ r));have hzb:(z== -y)=true:=by simp[hzy]
    go_wp2_with fail
    go_roundw
    case rel=>exact⟨k+1,by omega,qg,qh (by
     rw[dE.o,List.length_dropLast,←lA,CP.o,Nat.add_sub_cancel];exact JD.o),HB2⟩
    case measure=>exact qs
   ·have dE:=qh (show G.red (L.take (k+1))=R++[y]by
     rw[HX.o];unfold G.cC;rw[if_neg fun h=>hzy (kM.o.symm.trans h.2)])
    have hzb:(z== -y)=false:=by simpa using hzy
    go_wp2_with (at_builtin;go_must (refine cQ wr rfl (.tmp 34) (.tmp 36) _ rfl w.heap.size 2 i0 _ 1 8 Tryz.underlying74 hi iz is ib rfl qo (.slice (some ⟨g1,0,none⟩) (r+1) c1) _ _ rfl a9.o _ 1 1 _ rfl rfl (by simp[Value.oneCell']) qm qo HB2.o.size ?_);intro v' w' hown' hb';have eC:=qh hown';have HB3:=qh (HB2.o.trans hb');clear hown' hb')
    go_roundw
    case rel=>exact⟨k+1,by omega,qg,qh (by rw[dE.o,dI,List.length_append,CP.o];exact eC.o),HB3⟩
    case measure=>exact qs
  ·obtain rfl:L.length=k:=qo
   go_wp2
   go_ret
   refine⟨_,rfl,?_,HB2.o⟩;have h:=a9.o;rwa[List.take_length]at h
end Go.Proofs.YtmnbgjnipbpiaaaGreat
