/- Walks and plain lemmas. -/
import Derived.Test.YtimlpmbabbbcaaaGreatP24
import Derived.Test.YtimlpmbabbbcaaaGreatRows
import Derived.Lib.SmallJoins
set_option linter.unusedVariables false
set_option linter.unusedSimpArgs false
set_option maxHeartbeats 4000000
set_option maxRecDepth 20000
namespace Go.Proofs.YtimlpmbabbbcaaaGreat
open Go.RowKit
def kI (n:Nat)(F:Nat→Nat)(k:Nat):List Int:=(List.range n).map fun j=>if j<k then(F j:Int)else 0
theorem PN (n:Nat)(F:Nat→Nat):kI n F 0=List.replicate n 0:=by
 apply List.ext_getElem?
 intro j
 by_cases hj:j<n
 ·simp[kI,hj]
 ·simp[kI,hj]
theorem PO (n:Nat)(F:Nat→Nat){k:Nat}(hk:k<n):(kI n F k).set k (F k:Int)=kI n F (k+1):=by
 apply List.ext_getElem?
 intro j;rw[List.getElem?_set]
 by_cases hjk:k=j
 ·subst hjk
  rw[if_pos rfl,if_pos (by simp[kI];omega)]
  simp[kI,hk]
 ·rw[if_neg hjk]
  by_cases hj:j<n
  ·simp only[kI,List.getElem?_map,List.getElem?_range hj,Option.map_some]
   by_cases h:j<k
   ·rw[if_pos h,if_pos qo]
   ·rw[if_neg h,if_neg qo]
  ·simp[kI,hj]
theorem T5 {n:Nat}(p:G.PM n):kI n p.f n=G.pl p:=by
 refine List.map_congr_left fun j hj=>?_;rw[if_pos (List.mem_range.1 hj)]
theorem RM (n:Nat)(w:World)(hn:n≤1000):Calls Tryz.prog 160 #[.int .i64 n] w (mC w (G.pl (G.one:G.PM n))):=by
 obtain⟨cs,hcs,hcv,hmk⟩:=xV n qo;have HO:=qh (wI w cs n qo hcs hcv);have HB:=qh ((Below.refl w.heap.size w).alloc ql (.cells cs 2));clear hcv
 go_enter Tryz.func160,Tryz.ntmps160
 go_wp2_with fail
 clear hmk
 go_loopw [9] (fun x wr=>∃k:Nat,k≤n∧x=.int .i64 k∧Hq (wr.ownsRow w.heap.size 2 1 (.slice (some ⟨w.heap.size,0,none⟩) n n) n (ints (kI n (fun j=>j) k)))∧Hq (Below w.heap.size w wr)) (fun x _=>n-(intOf x).toNat)
 case atStart=>exact⟨0,Nat.zero_le _,rfl,qh (by rw[PN];exact HO.o),HB⟩
 case round=>
  obtain⟨k,hk,rfl,aI,HB2⟩:=hrel
  by_cases hlt:k<n
  ·have cB:=qh (PO n (fun j=>j) hlt)
   have hl:(ints (kI n (fun j=>j) k)).length=n:=by simp[ints,kI]
   obtain⟨y,hy⟩:∃y,wr.cell? ⟨w.heap.size,k,none⟩=some y:=⟨_,(aI.o.cellAt k qo).trans (List.getElem?_eq_getElem qo)⟩;have hf:=aI.o.frozenAt k;have HST:=qh (aI.o.stored k (.int .i64 k)).1;have HB3:=qh (Below.setCell (p:=⟨w.heap.size,k,none⟩) HB2.o ql (.int .i64 k));have b1:(0:Int)≤(k:Int):=qo;have b2:(k:Int)<(n:Int):=qo;clear hl
   go_wp2
   go_roundw
   case rel=>exact⟨k+1,by omega,qg,qh (by
    have h:=HST.o;rw[show(ints (kI n (fun j=>j) k)).set k (.int .i64 k)=ints ((kI n (fun j=>j) k).set k (k:Int))by simp[ints,List.map_set],cB.o]at h;exact h),HB3⟩
   case measure=>exact qs
  ·obtain rfl:n=k:=qo
   go_wp2
   go_ret
   exact⟨_,rfl,by rw[G.aB,←T5];exact aI.o,HB2.o⟩
theorem kg {n:Nat}(p q:G.PM n)(A B:OA)(c c':Nat)(w:World)(ha:dN w A (G.pl p))(hb:dN w B (G.pl q))(hn:n≤1000):Calls Tryz.prog 206 #[.slice A n c,.slice B n c'] w (mC w (G.pl (p.mul q))):=by
 obtain⟨cs,hcs,hcv,hmk⟩:=xV n qo;have HO:=qh (wI w cs n qo hcs hcv);have HB:=qh ((Below.refl w.heap.size w).alloc ql (.cells cs 2));have HA:=qh ha;have fK:=qh hb;clear hcv ha hb
 go_enter Tryz.func206,Tryz.ntmps206
 go_wp2_with fail
 clear hmk
 go_loopw [13] (fun x wr=>∃k:Nat,k≤n∧x=.int .i64 k∧Hq (wr.ownsRow w.heap.size 2 1 (.slice (some ⟨w.heap.size,0,none⟩) n n) n (ints (kI n (p.mul q).f k)))∧Hq (Below w.heap.size w wr)) (fun x _=>n-(intOf x).toNat)
 case atStart=>exact⟨0,Nat.zero_le _,rfl,qh (by rw[PN];exact HO.o),HB⟩
 case round=>
  obtain⟨k,hk,rfl,aI,HB2⟩:=hrel
  by_cases hlt:k<n
  ·obtain⟨ga,o,rfl,hg,hr⟩:=HA.o (by rw[G.aB];omega)
   obtain⟨gb,o',rfl,hg',hr'⟩:=fK.o (by rw[G.aB];omega);have hp:=p.lt hlt;have hc:=aD HB2.o hg (hr k (by rw[G.aB];exact hlt));have hd:=aD HB2.o hg' (hr' (p.f k) (by rw[G.aB];exact hp))
   simp only[G.kJ p hlt]at hc
   simp only[G.kJ q hp]at hd
   have cB:=qh (show(kI n (p.mul q).f k).set k (q.f (p.f k):Int)=kI n (p.mul q).f (k+1)from PO n (p.mul q).f hlt);obtain⟨P,hP⟩:=qx (p.f k);rw[←hP]at hp cB
   simp only[←hP]at hc hd
   obtain⟨Q,hQ⟩:=qx (q.f P);rw[←hQ]at cB
   simp only[←hQ]at hd
   have hl:(ints (kI n (p.mul q).f k)).length=n:=by simp[ints,kI]
   obtain⟨y,hy⟩:∃y,wr.cell? ⟨w.heap.size,k,none⟩=some y:=⟨_,(aI.o.cellAt k qo).trans (List.getElem?_eq_getElem qo)⟩;have hf:=aI.o.frozenAt k;have HST:=qh (aI.o.stored k (.int .i64 Q)).1;have HB3:=qh (Below.setCell (p:=⟨w.heap.size,k,none⟩) HB2.o ql (.int .i64 Q));have b1:(0:Int)≤(k:Int):=qo;have b2:(k:Int)<(n:Int):=qo;have b3:(0:Int)≤(P:Int):=qo;have b4:(P:Int)<(n:Int):=qo;clear hr hr' hP hQ hl
   go_wp2
   go_roundw
   case rel=>exact⟨k+1,by omega,qg,qh (by
    have h:=HST.o;rw[show(ints (kI n (p.mul q).f k)).set k (.int .i64 Q)=ints ((kI n (p.mul q).f k).set k (Q:Int))by simp[ints,List.map_set],cB.o]at h;exact h),HB3⟩
   case measure=>exact qs
  ·obtain rfl:n=k:=qo
   go_wp2
   go_ret
   exact⟨_,rfl,by rw[G.aB,←T5];exact aI.o,HB2.o⟩
theorem Dm {n:Nat}(p:G.PM n)(A:OA)(c:Nat)(w:World)(ha:dN w A (G.pl p))(hn:n≤1000):Calls Tryz.prog 235 #[.slice A n c] w (mC w (G.pl p.inv)):=by
 obtain⟨cs,hcs,hcv,hmk⟩:=xV n qo;have HO:=qh (wI w cs n qo hcs hcv);have HB:=qh ((Below.refl w.heap.size w).alloc ql (.cells cs 2));have HA:=qh ha;clear hcv ha
 go_enter Tryz.func235,Tryz.ntmps235
 go_wp2_with fail
 clear hmk
 go_loopw [11] (fun x wr=>∃k:Nat,k≤n∧x=.int .i64 k∧Hq (wr.ownsRow w.heap.size 2 1 (.slice (some ⟨w.heap.size,0,none⟩) n n) n (ints (mV p k)))∧Hq (Below w.heap.size w wr)) (fun x _=>n-(intOf x).toNat)
 case atStart=>exact⟨0,Nat.zero_le _,rfl,qh (by rw[SU];exact HO.o),HB⟩
 case round=>
  obtain⟨k,hk,rfl,aI,HB2⟩:=hrel
  by_cases hlt:k<n
  ·obtain⟨ga,o,rfl,hg,hr⟩:=HA.o (by rw[G.aB];omega)
   have hc:=aD HB2.o hg (hr k (by rw[G.aB];exact hlt))
   simp only[G.kJ p hlt]at hc
   have hp:=p.lt hlt;have cB:=qh (SV p hlt);obtain⟨P,hP⟩:=qx (p.f k);rw[←hP]at hp cB
   simp only[←hP]at hc
   have hl:(ints (mV p k)).length=n:=by simp[ints,mV]
   obtain⟨y,hy⟩:∃y,wr.cell? ⟨w.heap.size,P,none⟩=some y:=⟨_,(aI.o.cellAt P qo).trans (List.getElem?_eq_getElem qo)⟩;have hf:=aI.o.frozenAt P;have HST:=qh (aI.o.stored P (.int .i64 k)).1;have HB3:=qh (Below.setCell (p:=⟨w.heap.size,P,none⟩) HB2.o ql (.int .i64 k));have b1:(0:Int)≤(k:Int):=qo;have b2:(k:Int)<(n:Int):=qo;have b3:(0:Int)≤(P:Int):=qo;have b4:(P:Int)<(n:Int):=qo;clear hr hP hl
   go_wp2
   go_roundw
   case rel=>exact⟨k+1,by omega,qg,qh (by
    have h:=HST.o;rw[show(ints (mV p k)).set P (.int .i64 k)=ints ((mV p k).set P k)by simp[ints,List.map_set],cB.o]at h;exact h),HB3⟩
   case measure=>exact qs
  ·obtain rfl:n=k:=qo
   go_wp2
   go_ret
   exact⟨_,rfl,by rw[G.aB,←WS];exact aI.o,HB2.o⟩
theorem aaq {n k:Nat}(hk:1≤k)(hn:k<n):((G.pl (G.one:G.PM n)).set (k-1) (k:Int)).set k ((k-1:Nat):Int)=G.pl (G.sig n k):=(VP (G.one:G.PM n) hk hn).trans rfl
theorem EI (n k:Nat)(w:World)(hn:n≤1000)(hk:1≤k)(hkn:k<n):Calls Tryz.prog 203 #[.int .i64 n,.int .i64 k] w (mC w (G.pl (G.sig n k))):=by
 go_enter Tryz.func203,Tryz.ntmps203
 go_wp2_with fail
 refine(RM n _ hn).mono ?_;rintro e w1 ⟨v1,rfl,ho1,hb1⟩;rw[G.aB]at ho1;obtain⟨g1,c1,rfl⟩:∃g1 c1,v1=.slice (some ⟨g1,0,none⟩) n c1:=by
  rcases ho1.2 with⟨_,h0⟩|⟨g1,cap,_,e,_⟩
  ·omega
  ·exact⟨g1,cap,e⟩
 have hg1:=ho1.lt g1 rfl;obtain⟨j,rfl⟩:∃j,k=j+1:=⟨k-1,by omega⟩;have DL:=qh (aaq (n:=n) hk hkn);rw[Nat.add_sub_cancel]at DL;have hl:(ints (G.pl (G.one:G.PM n))).length=n:=by simp[ints,G.aB]
 obtain⟨y1,hy1⟩:∃y,w1.cell? ⟨g1,j,none⟩=some y:=⟨_,(ho1.cellAt j qo).trans (List.getElem?_eq_getElem qo)⟩;obtain⟨y2,hy2⟩:∃y,w1.cell? ⟨g1,j+1,none⟩=some y:=⟨_,(ho1.cellAt (j+1) qo).trans (List.getElem?_eq_getElem qo)⟩;have f1:=ho1.frozenAt j;have f2:=ho1.frozenAt (j+1);have jR:=qh ((ho1.stored j (.int .i64 ((j+1:Nat):Int))).1.stored (j+1) (.int .i64 (j:Int))).1;have hB:=(hb1.setCell (p:=⟨g1,j,none⟩) hg1.1 (.int .i64 ((j+1:Nat):Int))).setCell (p:=⟨g1,j+1,none⟩) hg1.1 (.int .i64 (j:Int));have HB:=qh hB;have e1:((j+1:Nat):Int)-1=(j:Int):=qo;have b1:(0:Int)≤(j:Int):=qo;have b2:(j:Int)<(n:Int):=qo;have b3:(0:Int)≤((j+1:Nat):Int):=qo;have b4:((j+1:Nat):Int)<(n:Int):=qo;clear hl hB ho1 hb1
 go_wp2
 go_ret
 refine⟨_,rfl,?_,HB.o⟩;have h:=jR.o;rw[show((ints (G.pl (G.one:G.PM n))).set j (.int .i64 ((j+1:Nat):Int))).set (j+1) (.int .i64 (j:Int))=ints (((G.pl (G.one:G.PM n)).set j ((j+1:Nat):Int)).set (j+1) (j:Int))by simp[ints,List.map_set],DL.o]at h;rw[G.aB];exact h
def vC (f:Nat→Nat)(k:Nat):List Int:=(G.iA f k).map fun x=>x-1
theorem Rx (f:Nat→Nat)(k:Nat):vC f (k+1)=vC f k++(if 1≤k∧f k<f (k-1)then [(k:Int)-1]else []):=by
 have h:G.iA f (k+1)=G.iA f k++(if 1≤k∧f k<f (k-1)then [(k:Int)]else []):=rfl;rw[vC,h,List.map_append]
 congr 1
 split<;>rfl
theorem PQ (f:Nat→Nat)(k:Nat):(vC f k).length≤k:=by
 rw[vC,List.length_map];exact G.qO f k
theorem Y5 {n:Nat}(p:G.PM n)(A:OA)(c:Nat)(w:World)(ha:dN w A (G.pl p))(hn:n≤1000):Calls Tryz.prog 237 #[.slice A n c] w (mC w (vC p.f n)):=by
 obtain⟨i0,hi,iz,is,ib⟩:=info_parts info64;have HO:=qh (World.ownsRow_made (e:=2) (size:=1) w #[] 0 ql qm rfl);have HB:=qh ((Below.refl w.heap.size w).alloc ql (.cells #[] 2));have HA:=qh ha;clear ha
 go_enter Tryz.func237,Tryz.ntmps237
 go_wp2_with fail
 go_loopw [3,4] (fun v x wr=>∃k:Nat,(k<n∨k=0)∧x=.int .i64 k∧Hq (wr.ownsRow w.heap.size 2 1 v (vC p.f (k+1)).length (ints (vC p.f (k+1))))∧Hq (Below w.heap.size w wr)) (fun _ x _=>n-(intOf x).toNat)
 case atStart=>exact⟨0,.inr rfl,rfl,HO,HB⟩
 case round=>
  obtain⟨k,hk,rfl,aI,HB2⟩:=hrel
  by_cases hlt:k+1<n
  ·obtain⟨ga,o,rfl,hg,hr⟩:=HA.o (by rw[G.aB];omega)
   have hc:=aD HB2.o hg (hr (k+1) (by rw[G.aB];exact hlt));have hc0:=aD HB2.o hg (hr k (by rw[G.aB];omega))
   simp only[G.kJ p hlt]at hc
   simp only[G.kJ p (show k<n by omega)]at hc0
   have cB:=qh (Rx p.f (k+1));rw[Nat.add_sub_cancel]at cB;have hll:=PQ p.f (k+1);obtain⟨P,hP⟩:=qx (p.f (k+1));obtain⟨Q,hQ⟩:=qx (p.f k);rw[←hP,←hQ]at cB
   simp only[←hP]at hc
   simp only[←hQ]at hc0
   have b0:(k:Int)+1<(n:Int):=qo;have b1:(0:Int)≤(k:Int)+1:=qo;have b3:(0:Int)≤(k:Int):=qo;have b4:(k:Int)<(n:Int):=qo;clear hr hP hQ
   by_cases hd:P<Q
   ·have cT:=qh (show vC p.f (k+1+1)=vC p.f (k+1)++[(k:Int)]by rw[cB.o,if_pos ⟨by omega,hd⟩,show((k+1:Nat):Int)-1=k by omega])
    have hdb:(P:Int)<(Q:Int):=qo
    go_wp2_with fail
    go_quiet (fail)
    have bS:=qh (own_drewN aI.o nq);have aW:=qh (Below.drewN' HB2.o nq)
    go_wp2_with (at_builtin;go_must (refine bW (wr.drewN nq) rfl (.tmp 23) (.tmp 25) _ rfl w.heap.size 2 i0 _ 1 8 Tryz.underlying61 hi iz is ib rfl qo u3 _ _ rfl bS.o _ 1 1 _ rfl rfl (by simp[Value.oneCell']) qm qo aW.o.size ?_);intro v' w' hown' hb';have cI:=qh hown';have HB3:=qh (aW.o.trans hb');clear hown' hb')
    go_roundw
    case rel=>exact⟨k+1,.inl qo,qg,qh (by rw[cT.o,aL,List.length_append];exact cI.o),HB3⟩
    case measure=>exact qs
   ·have cT:=qh (show vC p.f (k+1+1)=vC p.f (k+1)by rw[cB.o,if_neg (fun h=>hd h.2),List.append_nil])
    have hdb:¬(P:Int)<(Q:Int):=qo
    go_wp2_with fail
    go_quiet (fail)
    go_wp2_with fail
    go_roundw
    case rel=>exact⟨k+1,.inl qo,qg,qh (by rw[cT.o];exact own_drewN aI.o nq),qh (Below.drewN' HB2.o nq)⟩
    case measure=>exact qs
  ·have b0:¬(k:Int)+1<(n:Int):=qo
   go_wp2
   go_ret
   have e:vC p.f (k+1)=vC p.f n:=by
    rcases hk with hk|rfl
    ·rw[show k+1=n by omega]
    ·rcases(show n=0∨n=1 by omega)with rfl|rfl
     ·rfl
     ·rfl
   exact⟨_,rfl,by rw[←e];exact aI.o,HB2.o⟩
def wK (L:List Int)(k:Nat):List Int:=(L.take k).map (fun x=>x+1)++L.drop k
theorem jk (L:List Int)(k:Nat):(wK L k).length=L.length:=by simp[wK];omega
theorem Qj {L:List Int}{k:Nat}(hk:k<L.length):(wK L k)[k]?=L[k]?:=by
 simp only[wK]
 rw[List.getElem?_append_right (by simp;omega),List.getElem?_drop]
 congr 1
 simp
 omega
theorem Jh {L:List Int}{k:Nat}(hk:k<L.length):(wK L k).set k (L.getD k 0+1)=wK L (k+1):=by
 simp only[wK]
 rw[List.set_append,if_neg (by simp;omega)];have e:((L.take k).map fun x=>x+1).length=k:=by simp;omega
 rw[e,Nat.sub_self,List.drop_eq_getElem_cons hk,List.set_cons_zero,List.take_succ_eq_append_getElem hk,List.map_append,List.append_assoc]
 simp[List.getD,hk]
theorem Qk (f:Nat→Nat)(n:Nat):wK (vC f n) (vC f n).length=G.iA f n:=by
 simp only[wK]
 rw[List.take_length,List.drop_length,List.append_nil,vC,List.map_map]
 conv=>rhs;rw[←List.map_id (G.iA f n)]
 exact List.map_congr_left fun x _=>by simp
theorem Lf (f:Nat→Nat)(n:Nat)(x:Int)(h:x∈vC f n): -1≤x∧x≤n:=by
 obtain⟨y,hy,rfl⟩:=List.mem_map.1 h;obtain⟨k,rfl,_,h2,_⟩:=G.AH.1 hy;omega
theorem AW {n:Nat}(p:G.PM n)(A:OA)(c:Nat)(w:World)(ha:dN w A (G.pl p))(hn:n≤1000):Calls Tryz.prog 234 #[.slice A n c] w (mC w (G.iA p.f n)):=by
 go_enter Tryz.func234,Tryz.ntmps234
 go_wp2_with fail
 refine(Y5 p A c w ha hn).mono ?_;clear ha;rintro e w1 h1;obtain⟨A1,c1,rfl,ho1,hr1,hb1⟩:=h1.rd;have KM:=qh (Qk p.f n);have yR:=qh (Lf p.f n);have hll:=PQ p.f n;obtain⟨L,hL⟩:=qx (vC p.f n);rw[←hL]at KM yR hll ho1 hr1 ⊢;have aT:=qh ho1;have HB1:=qh hb1;clear h1 ho1 hr1 hb1 hL;obtain⟨m,hm⟩:=qx (L.length);rw[←hm]at aT KM hll ⊢;have HM:=qh hm;clear hm
 go_wp2_with fail
 go_loopw [9] (fun x wr=>∃k:Nat,k≤m∧x=.int .i64 k∧Hq (wr.ownsRow w.heap.size 2 1 (.slice A1 m c1) m (ints (wK L k)))∧Hq (Below w.heap.size w wr)) (fun x _=>m-(intOf x).toNat)
 case atStart=>exact⟨0,Nat.zero_le _,rfl,qh (by simp only[wK,List.take_zero,List.map_nil,List.drop_zero,List.nil_append];exact aT.o),HB1⟩
 case round=>
  obtain⟨k,hk,rfl,aI,HB2⟩:=hrel
  by_cases hlt:k<m
  ·obtain⟨g1,rfl⟩:∃g1,A1=some ⟨g1,0,none⟩:=by
    rcases aI.o.2 with⟨_,h0⟩|⟨g1,cap,_,e,_⟩
    ·omega
    ·injection e with e _ _
     exact⟨g1,e⟩
   have hkl:k<L.length:=by rw[←HM.o];exact hlt
   have hc:wr.cell? ⟨g1,k,none⟩=some (.int .i64 (L.getD k 0)):=by
    rw[aI.o.cellAt k qo]
    simp[ints,Qj hkl,List.getD,hkl]
   have cB:=qh (Jh hkl);have hbd:=yR.o (L.getD k 0) (by simp[List.getD,hkl]);obtain⟨x,hx⟩:=qx (L.getD k 0);rw[←hx]at hbd cB
   simp only[←hx]at hc
   have hf:=aI.o.frozenAt k;have s1:IntKind.i64.wrap (x+1)=x+1:=IntWalk.i64_in _ qo;have HST:=qh (aI.o.stored k (.int .i64 (x+1))).1;have HB3:=qh (Below.setCell (p:=⟨g1,k,none⟩) HB2.o (aI.o.lt g1 rfl).1 (.int .i64 (x+1)));have b1:(0:Int)≤(k:Int):=qo;have b2:(k:Int)<(m:Int):=qo;clear hx
   go_wp2
   go_roundw
   case rel=>exact⟨k+1,by omega,qg,qh (by
    have h:=HST.o;rw[show(ints (wK L k)).set k (.int .i64 (x+1))=ints ((wK L k).set k (x+1))by simp[ints,List.map_set],cB.o]at h;exact h),HB3⟩
   case measure=>exact qs
  ·obtain rfl:m=k:=qo
   go_wp2
   go_ret
   have h:=aI.o;rw[KM.o]at h;refine⟨_,rfl,?_,HB2.o⟩;have e:(G.iA p.f n).length=m:=by rw[←KM.o,jk];exact HM.o.symm
   rw[e];exact h
def RdN (w:World)(n:Nat)(L:List Int)(e:Ending)(w':World):Prop:=∃A c,e=.returned (.slice A n c)∧dN w' A L∧Below w.heap.size w w'∧∀m b,Fb A m b→w.heap.size≤b
theorem eB.afg {w:World}{B g n c:Nat}{xs:List Value}(ho:w.ownsRow B 2 1 (.slice (some ⟨g,0,none⟩) n c) n xs):eB w g 0 n:=by
 have h:=eB.lQ ho;rwa[Nat.mul_one]at h
theorem I1 (n:Nat)(w:World)(hn:n≤1000)(h0:1≤n):Calls Tryz.prog 207 #[.int .i64 n] w (RdN w n (G.pl (G.del:G.PM n))):=by
 go_enter Tryz.func207,Tryz.ntmps207
 go_wp2_with fail
 refine(RM n _ hn).mono ?_;rintro e w1 ⟨v1,rfl,ho1,hb1⟩;rw[G.aB]at ho1;obtain⟨g1,c1,rfl⟩:∃g1 c1,v1=.slice (some ⟨g1,0,none⟩) n c1:=by
  rcases ho1.2 with⟨_,h0⟩|⟨g1,cap,_,e,_⟩
  ·omega
  ·exact⟨g1,cap,e⟩
 have hg1:=ho1.lt g1 rfl;have hw:=eB.afg ho1;have hr:d7 w1 g1 0 n (fun j=>.int .i64 ((fun(i:Nat)=>(i:Int)) j)):=fun j hj=>by
  rw[Nat.zero_add,ho1.cellAt j qo]
  simp[ints,G.pl,hj,G.one]
 have acp:=qh (GS g1 n c1 (fun(i:Nat)=>(i:Int)) w1 hw hr qo);have HB1:=qh hb1;clear hw hr ho1 hb1
 go_wp2_with fail
 refine acp.o.mono ?_;rintro e w2 ⟨rfl,ho,hw,hr⟩;have HB2:=qh (HB1.o.trans ((Fr.KY (F:=fun x=>x=g1) ho rfl).below (B:=w.heap.size) qo (fun b hb=>by rw[hb];exact hg1.1)));have HR:=qh (show dN w2 (some ⟨g1,0,none⟩) (G.pl (G.del:G.PM n))from fun _=>by
  refine⟨g1,0,rfl,Nat.lt_of_lt_of_le hg1.2 (Fr.KY (F:=fun x=>x=g1) ho rfl).size,fun j hj=>?_⟩;rw[G.aB]at hj;rw[hr j hj]
  simp only[G.kJ _ hj]
  show some (Value.int .i64 ((n-1-j:Nat):Int))=some (.int .i64 ((G.rev n j:Nat):Int));rw[G.eQ hj])
 clear ho hw hr acp
 go_wp2_with fail
 go_ret
 exact⟨_,_,rfl,HR.o,HB2.o,fun m b ⟨_,a,ha,hb⟩=>by injection ha with ha;rw[←hb,←ha];exact hg1.1⟩
def agc (w:World)(b:Bool)(e:Ending)(w':World):Prop:=∃i:Int,e=.returned (.int .i64 i)∧ -1≤i∧i≤2000000∧decide (0≤i)=b∧w=w'
theorem Dp (A:OA)(c:Nat)(L:List Int)(x:Int)(w:World)(ha:dN w A L)(hn:L.length≤1048576):
 Calls Tryz.prog 238 #[.slice A L.length c,.int .i64 x] w (agc w (decide (x∈L))):=by
 have HA:=qh ha;clear ha
 go_enter Tryz.func238,Tryz.ntmps238
 go_wp2
 go_loop [8] (fun i=>∃k:Nat,k≤L.length∧i=.int .i64 k∧Hq (x∉L.take k)) (fun i=>L.length-(intOf i).toNat)
 case atStart=>exact⟨0,Nat.zero_le _,rfl,qh qj⟩
 case round=>
  obtain⟨k,hk,rfl,HX⟩:=hrel
  by_cases hlt:k<L.length
  ·obtain⟨ga,o,rfl,hg,hr⟩:=HA.o qo
   have hc:=hr k hlt;have HM:=qh (GU hlt x);obtain⟨y,hy⟩:=qx (L.getD k 0)
   simp only[←hy]at hc HM
   have HY:=qh (show y∈L by rw[hy];simp[List.getD,hlt]);have b1:(0:Int)≤(k:Int):=qo;have b2:(k:Int)<(L.length:Int):=qo;clear hr hy
   by_cases hxy:x=y
   ·subst hxy
    have HD:=qh (show decide (x∈L)=true from decide_eq_true HY.o)
    go_wp2
    go_ret
    exact⟨k,rfl,by omega,by omega,by rw[HD.o];exact decide_eq_true qo,rfl⟩
   ·have hxb:(x==y)=false:=by simpa using hxy
    go_wp2
    go_round
    case rel=>exact⟨k+1,by omega,qg,qh (by rw[HM.o];rintro(h|h);exact HX.o h;exact hxy h)⟩
    case measure=>exact qs
  ·obtain rfl:L.length=k:=qo
   have HD:=qh (show decide (x∈L)=false from decide_eq_false (by have:=HX.o;rwa[List.take_length]at this))
   go_wp2
   go_ret
   exact⟨-1,rfl,by omega,by omega,by rw[HD.o];rfl,rfl⟩
theorem UU (A:OA)(c:Nat)(L:List Int)(x:Int)(w:World)(ha:dN w A L)(hn:L.length≤1048576):
 Calls Tryz.prog 236 #[.slice A L.length c,.int .i64 x] w fun e w'=>e=.returned (.bool (decide (x∈L)))∧w=w':=by
 go_enter Tryz.func236,Tryz.ntmps236
 go_wp2_with fail
 refine(Dp A c L x w ha hn).mono ?_;rintro e w1 ⟨i,rfl,h1,h2,h3,rfl⟩;have H3:=qh h3;clear h3
 go_wp2_with fail
 go_ret
 exact⟨by rw[←H3.o];first|rfl|simp,rfl⟩
theorem gy {n:Nat}(p q:G.PM n)(A B:OA)(c c':Nat)(w:World)(ha:dN w A (G.pl p))(hb:dN w B (G.pl q))(hn:n≤1000):
 Calls Tryz.prog 232 #[.slice A n c,.slice B n c'] w fun e w'=>e=.returned (.int .i64 (G.ext p q))∧Below w.heap.size w w':=by
 have HA:=qh ha;have HB:=qh hb;clear ha hb
 go_enter Tryz.func232,Tryz.ntmps232
 go_wp2_with fail
 refine(Dm p A c _ HA.o hn).mono ?_;rintro e w0 h0;obtain⟨A0,c0,rfl,_,hr0,hb0⟩:=h0.rd;have Nn:=qh hr0;have HB0:=qh hb0;have adi:=qh (Rd.below HB.o hb0);rw[G.aB];clear h0 hr0 hb0
 go_wp2_with fail
 refine(AW p.inv A0 c0 _ Nn.o hn).mono ?_;rintro e w1 h1;obtain⟨A1,c1,rfl,_,hr1,hb1⟩:=h1.rd;have HR1:=qh (show dN w1 A1 (G.iA p.g n)from hr1);have HB1:=HB0.st hb1;have fK:=qh (Rd.below adi.o hb1);have e1:(G.iA p.inv.f n).length=(G.iA p.g n).length:=rfl;rw[e1];clear h1 hr1 hb1 e1 Nn HB0 adi
 go_wp2_with fail
 refine(AW q B c' _ fK.o hn).mono ?_;rintro e w2 h2;obtain⟨A2,c2,rfl,_,hr2,hb2⟩:=h2.rd;have HR2:=qh hr2;have HB2:=HB1.st hb2;have HR3:=qh (Rd.below HR1.o hb2);have hs1:=G.qO p.g n;have hs2:=G.qO q.f n;have CM:=qh (show G.ext p q=G.fm (G.iA p.g n) (G.iA q.f n)from rfl);clear h2 hr2 hb2 HR1 HB fK;obtain⟨E,hE⟩:=qx (G.iA p.g n);obtain⟨S,hS⟩:=qx (G.iA q.f n)
 simp only[←hE,←hS]at HR2 HR3 CM hs1 hs2 ⊢
 clear hE hS
 go_wp2_with fail
 go_loopw [14] (fun x wr=>∃i:Nat,i≤S.length∧x=.int .i64 i∧wr=w2∧Hq (∀y∈S.take i,y∈E)) (fun x _=>S.length-(intOf x).toNat)
 case atStart=>exact⟨0,Nat.zero_le _,rfl,rfl,qh qj⟩
 case round=>
  obtain⟨i,hi,rfl,rfl,HX⟩:=hrel
  by_cases hlt:i<S.length
  ·obtain⟨gs,o,rfl,hg,hr⟩:=HR2.o qo
   have hc:=hr i hlt;have HT:=qh (show S.take (i+1)=S.take i++[S.getD i 0]by rw[List.take_succ_eq_append_getElem hlt];simp[List.getD,hlt]);have HD:=qh (show S.drop i=S.getD i 0::S.drop (i+1)by rw[List.drop_eq_getElem_cons hlt];simp[List.getD,hlt]);obtain⟨y,hy⟩:=qx (S.getD i 0)
   simp only[←hy]at hc HT HD
   have b1:(0:Int)≤(i:Int):=qo;have b2:(i:Int)<(S.length:Int):=qo;clear hr hy
   go_wp2_with fail
   refine(UU A1 c1 E y _ HR3.o qo).mono ?_;rintro e w3 ⟨rfl,rfl⟩
   by_cases hm:y∈E
   ·rw[decide_eq_true hm]
    go_wp2
    go_roundw
    case rel=>exact⟨i+1,by omega,qg,by trivial,qh (by
     rw[HT.o];intro z hz
     rcases List.mem_append.1 hz with h|h
     ·exact HX.o z h
     ·rw[List.mem_singleton.1 h]
      exact hm)⟩
    case measure=>exact qs
   ·rw[decide_eq_false hm]
    have HXY:=qh (show G.ext p q=y by
     have h1:=CM.o;rw[←List.take_append_drop i S,G.PJ _ _ _ HX.o,HD.o]at h1;rw[h1]
     simp only[G.fm]
     rw[if_neg hm])
    go_wp2
    go_ret
    exact⟨by rw[HXY.o];rfl,HB2.o⟩
  ·obtain rfl:S.length=i:=qo
   have HX0:=qh (show G.ext p q=0 by
    have h1:=CM.o;have h2:=HX.o;rw[List.take_length]at h2;rw[h1,←List.append_nil S,G.PJ _ _ _ h2]
    rfl)
   go_wp2
   go_ret
   exact⟨by rw[HX0.o];rfl,HB2.o⟩
def OwnAt (w:World)(B:Nat)(e:TypeId)(v:Value)(n:Nat)(xs:List Value):Prop:=
 xs.length=n∧((v=.slice none 0 0∧n=0)∨∃g o cap cur,v=.slice (some ⟨g,o,none⟩) n cap∧B≤g∧w.heap[g]?=some (.cells cur e (0,0))∧n≤cap∧cap≤maxLen∧o+cap≤cur.size∧(cur.toList.drop o).take n=xs)
section
variable {B:Nat}{e:TypeId}{v:Value}{n:Nat}{xs:List Value}{w w':World}
theorem OwnAt.of (h:w.ownsRow B e 1 v n xs):OwnAt w B e v n xs:=by
 refine⟨by have:=h.1;omega,?_⟩
 rcases h.2 with hn|⟨g,cap,cur,hv,hB,hg,h1,h2,h3,h4⟩
 ·exact .inl hn
 ·exact .inr ⟨g,0,cap,cur,hv,hB,hg,h1,h2,by omega,by simpa using h4⟩
theorem OwnAt.lt (h:OwnAt w B e v n xs):∀b,v.ownBlock=some b→B≤b∧b<w.heap.size:=fun b hb=>by
 rcases h.2 with⟨rfl,_⟩|⟨g,o,cap,cur,rfl,hB,hg,_⟩
 ·cases hb
 ·injection hb with hb
  subst hb;exact⟨hB,(Array.getElem?_eq_some_iff.1 hg).1⟩
theorem OwnAt.blk (h:OwnAt w B e v n xs)(hk:∀b,v.ownBlock=some b→w'.heap[b]?=w.heap[b]?):OwnAt w' B e v n xs:=by
 refine⟨h.1,?_⟩
 rcases h.2 with hn|⟨g,o,cap,cur,rfl,hB,hg,rest⟩
 ·exact .inl hn
 ·exact .inr ⟨g,o,cap,cur,rfl,hB,(hk g rfl).trans hg,rest⟩
theorem OwnAt.base {B':Nat}(h:OwnAt w B e v n xs)(hB:B'≤B):OwnAt w B' e v n xs:=by
 refine⟨h.1,?_⟩
 rcases h.2 with hn|⟨g,o,cap,cur,rfl,hb,rest⟩
 ·exact .inl hn
 ·exact .inr ⟨g,o,cap,cur,rfl,Nat.le_trans hB hb,rest⟩
theorem OwnAt.form (h:OwnAt w B e v n xs)(hn:0<n):∃g o cap,v=.slice (some ⟨g,o,none⟩) n cap∧(n≤cap∧cap≤maxLen)∧B≤g∧g<w.heap.size:=by
 rcases h.2 with⟨_,h0⟩|⟨g,o,cap,cur,rfl,hB,hg,h1,h2,_⟩
 ·omega
 ·exact⟨g,o,cap,rfl,⟨h1,h2⟩,hB,(Array.getElem?_eq_some_iff.1 hg).1⟩
theorem OwnAt.sl (h:OwnAt w B e v n xs):∃A c,v=.slice A n c:=by
 rcases h.2 with⟨rfl,rfl⟩|⟨g,o,cap,cur,rfl,_⟩
 ·exact⟨_,_,rfl⟩
 ·exact⟨_,_,rfl⟩
theorem OwnAt.cellAt {g o cap:Nat}(h:OwnAt w B e (.slice (some ⟨g,o,none⟩) n cap) n xs){j:Nat}(hj:j<n):w.cell? ⟨g,o+j,none⟩=xs[j]?:=by
 rcases h.2 with⟨h',_⟩|⟨g',o',cap',cur,h',_,hg,h1,_,h3,h4⟩
 ·cases h'
 ·injection h' with h' _ _
  injection h' with h';injection h' with h5 h6;subst h5 h6;rw[cell_of_row w g (o+j) cur e (0,0) hg,←h4,List.getElem?_take,if_pos hj,List.getElem?_drop]
  simp
theorem OwnAt.frozenAt {g o cap:Nat}(h:OwnAt w B e (.slice (some ⟨g,o,none⟩) n cap) n xs)(j:Nat):w.frozen? ⟨g,j,none⟩=false:=by
 rcases h.2 with⟨h',_⟩|⟨g',o',cap',cur,h',_,hg,_⟩
 ·cases h'
 ·injection h' with h' _ _
  injection h' with h';injection h' with h5 _;subst h5
  simp[World.frozen?,hg]
theorem OwnAt.stored {g o cap:Nat}(h:OwnAt w B e (.slice (some ⟨g,o,none⟩) n cap) n xs)(j:Nat)(u:Value):OwnAt (w.setCell ⟨g,o+j,none⟩ u) B e (.slice (some ⟨g,o,none⟩) n cap) n (xs.set j u):=by
 refine⟨by rw[List.length_set];exact h.1,?_⟩
 rcases h.2 with⟨h',_⟩|⟨g',o',cap',cur,h',hB,hg,h1,h2,h3,h4⟩
 ·cases h'
 ·have h'':=h'
  injection h' with h' _ h7;injection h' with h';injection h' with h5 h6;subst h5 h6 h7;refine .inr ⟨g,o,cap,cur.setIfInBounds (o+j) u,rfl,hB,?_,h1,h2,by simpa using h3,?_⟩
  ·rw[setCell_eq_setRow w g (o+j) cur e (0,0) u hg]
   exact setRow_heap w g cur _ e (0,0) hg
  ·rw[←h4,Array.toList_setIfInBounds]
   apply List.ext_getElem?
   intro i
   simp only[List.getElem?_take,List.getElem?_drop,List.getElem?_set,List.length_take,List.length_drop]
   by_cases hi:i<n
   ·rw[if_pos hi]
    by_cases hij:j=i
    ·subst hij
     rw[if_pos rfl,if_pos rfl,if_pos (by simp;omega),if_pos (by simp;omega)]
    ·rw[if_neg qo,if_neg hij,if_pos hi]
   ·rw[if_neg hi]
    by_cases hij:j=i
    ·subst hij
     rw[if_pos rfl,if_neg qo]
    ·rw[if_neg hij,if_neg hi]
theorem OwnAt.tail {g o cap:Nat}{x:Value}(h:OwnAt w B e (.slice (some ⟨g,o,none⟩) (n+1) cap) (n+1) (x::xs))(hc:¬cap=1):OwnAt w B e (.slice (some ⟨g,o+1,none⟩) n (cap-1)) n xs:=by
 refine⟨by have:=h.1;simpa using this,?_⟩
 rcases h.2 with⟨h',_⟩|⟨g',o',cap',cur,h',hB,hg,h1,h2,h3,h4⟩
 ·cases h'
 ·injection h' with h' _ h7
  injection h' with h';injection h' with h5 h6;subst h5 h6 h7;refine .inr ⟨g,o+1,cap-1,cur,rfl,hB,hg,by omega,by omega,by omega,?_⟩;have h8:((cur.toList.drop o).take (n+1)).drop 1=xs:=by rw[h4];rfl
  rw[List.drop_take,List.drop_drop]at h8;exact h8
theorem OwnAt.Bf {g o:Nat}{x:Value}(h:OwnAt w B e (.slice (some ⟨g,o,none⟩) 1 1) 1 [x]):OwnAt w B e (.slice (some ⟨g,o,none⟩) 0 0) 0 []:=by
 refine⟨rfl,?_⟩
 rcases h.2 with⟨h',_⟩|⟨g',o',cap',cur,h',hB,hg,h1,h2,h3,h4⟩
 ·cases h'
 ·injection h' with h' _ h7
  injection h' with h';injection h' with h5 h6;subst h5 h6 h7;exact .inr ⟨g,o,0,cur,rfl,hB,hg,Nat.le_refl _,Nat.zero_le _,by omega,by simp⟩
theorem OwnAt.front {g o cap:Nat}(h:OwnAt w B e (.slice (some ⟨g,o,none⟩) n cap) n xs){k:Nat}(hk:k≤n):OwnAt w B e (.slice (some ⟨g,o,none⟩) k cap) k (xs.take k):=by
 refine⟨by rw[List.length_take,h.1];omega,?_⟩
 rcases h.2 with⟨h',_⟩|⟨g',o',cap',cur,h',hB,hg,h1,h2,h3,h4⟩
 ·cases h'
 ·injection h' with h' _ h7
  injection h' with h';injection h' with h5 h6;subst h5 h6 h7;refine .inr ⟨g,o,cap,cur,rfl,hB,hg,by omega,h2,h3,?_⟩;rw[←h4,List.take_take]
  congr 1
  omega
end
theorem LI {P:Program}(w:World)(t ty e:TypeId)(i:TypeInfo)(ht:P.underlying t=some (.slice e))(hi:P.info? e=some i)(hs1:i.size=1)
 (g o sLen sCap:Nat) (cur:Array Value) (hg:w.heap[g]?=some (.cells cur e (0,0)))
 (a:Addr) (m c:Nat) (news:List Value) (hl:news.length=m) (hnews:∀j u,news[j]?=some u→w.cell? (a.add j)=some u) (h1:∀u∈news,u.oneCell'=true)
 (hroom:sLen+m≤sCap) (hfit:o+sLen+news.length≤cur.size):
 (Builtin.append_ #[t,t] ty #[.slice (some ⟨g,o,none⟩) sLen sCap,.slice (some a) m c]).run P w=
  .ok (.slice (some ⟨g,o,none⟩) (sLen+m) sCap) (w.setRow g (cur.toList.take (o+sLen)++news++cur.toList.drop (o+sLen+news.length)).toArray):=by
 have hf:=run_firstCells_some (P:=P) w i.size m a m c news (by rw[hs1];omega) hnews;have hst:=run_storeCells_at P g (o+sLen) e news 0 cur w hg (by simpa using hfit) h1
 simp only[Nat.add_zero]at hst
 rw[hs1]at hf
 simp[Builtin.append_,run_underlying ht,sizeOf,typeInfo,hi,hs1,Builtin.lenOf,hroom,hf,Addr.add_lit,hst]
theorem R2 {P:Program}(w:World)(base:Nat)(t ty e:TypeId)(i:TypeInfo)(z:Value)(bytes:Nat)(ht:P.underlying t=some (.slice e))(hi:P.info? e=some i)(hz:i.zero=some z)
 (hsize:i.size=1) (hby:i.bytes=bytes) (hzs:z.cells.size=1)
 (v:Value) (n:Nat) (xs:List Value) (hown:OwnAt w base e v n xs)
 (a:Addr) (m c:Nat) (news:List Value) (hl:news.length=m) (hnews:∀j u,news[j]?=some u→w.cell? (a.add j)=some u) (h1:∀u∈news,u.oneCell'=true)
 (h63:n+m≤maxLen) (hbytes:(n+m)*bytes≤140737488355328) (hbase:base≤w.heap.size):
 ∃v' w',(Builtin.append_ #[t,t] ty #[v,.slice (some a) m c]).run P w=.ok v' w'∧OwnAt w' base e v' (n+m) (xs++news)∧w.grownBy w' v.ownBlock∧(v'.ownBlock=v.ownBlock∨v'.ownBlock=some w.heap.size):=by
 subst hby;have hsmall:n+m≤9223372036854775807:=by simp only[maxLen]at h63;omega
 rcases hown.2 with⟨rfl,rfl⟩|⟨g,o,cap,cur,rfl,hbg,hg,hnc,hcm,hcs,htake⟩
 ·obtain rfl:xs=[]:=List.eq_nil_of_length_eq_zero hown.1
  obtain⟨v',w',hr,ho,hgr,_,h5⟩:=run_append_own_at (P:=P) w base t ty e i z 1 i.bytes ht hi hz hsize rfl hzs qo (.slice none 0 0) 0 [] (World.ownsRow_nil _ _ _ _) a m c news qo hnews h1 h63 hbytes hbase;exact⟨v',w',hr,OwnAt.of ho,hgr,h5⟩
 ·have hxl:xs.length=n:=hown.1
  by_cases hroom:n+m≤cap
  ·have hr:=LI (P:=P) w t ty e i ht hi hsize g o n cap cur hg a m c news hl hnews h1 hroom qo
   refine⟨_,_,hr,⟨by rw[List.length_append];omega,.inr ⟨g,o,cap,_,rfl,hbg,setRow_heap w g cur _ e _ hg,hroom,hcm,?_,?_⟩⟩,⟨rfl,rfl,rfl,by simp[World.setRow],fun k _ hk=>setRow_other w g k _ (fun e=>hk (by simp[Value.ownBlock,e]))⟩,Or.inl rfl⟩
   ·simp only[List.size_toArray,List.length_append,List.length_take,List.length_drop,Array.length_toList]
    omega
   ·simp only[List.append_assoc]
    have e1:(cur.toList.take (o+n)++(news++cur.toList.drop (o+n+news.length))).drop o=(cur.toList.take (o+n)).drop o++(news++cur.toList.drop (o+n+news.length)):=List.drop_append_of_le_length (by rw[List.length_take,Array.length_toList];omega);have e2:(cur.toList.take (o+n)).drop o=xs:=by
     rw[←htake,List.drop_take]
     congr 1
     omega
    rw[e1,e2,←List.append_assoc,List.take_append_of_le_length (by rw[List.length_append];omega),List.take_of_length_le (by rw[List.length_append];omega)]
  ·have hr:=run_append_grow (P:=P) w t ty e i z ht hi hz ⟨g,o,none⟩ n cap xs (by rw[hsize];omega) (fun j u hu=>by
    have hj:j<n:=by have:=(List.getElem?_eq_some_iff.1 hu).1;omega
    rw[Addr.add_lit,(show OwnAt w base e (.slice (some ⟨g,o,none⟩) n cap) n xs from hown).cellAt hj];exact hu) a m c news (by rw[hsize];omega) hnews qo qo (growslice_fits qo hbytes)
   have hge:=grownCap_ge w (n+m) cap e;have hle:=grownCap_le_maxLen w (n+m) cap e h63;refine⟨_,_,hr,⟨by rw[List.length_append];omega,.inr ⟨w.heap.size,0,_,_,rfl,hbase,heap_alloc_new w.drew _,hge,hle,?_,?_⟩⟩,⟨rfl,rfl,rfl,by simp,fun k hk _=>RowKit.Below.heap_alloc w.drew _ k hk⟩,Or.inr rfl⟩
   ·rw[Array.size_append,Array.size_append,List.size_toArray,List.size_toArray,size_zeroCells,hzs,Nat.mul_one]
    omega
   ·simp only[List.drop_zero,Array.toList_append,List.append_assoc]
    rw[←List.append_assoc,List.take_append_of_le_length (by rw[List.length_append];omega),List.take_of_length_le (by rw[List.length_append];omega)]
theorem ay {P:Program}{o:Oper}{cond:Bool}{a:Act}{K:Act→World→Prop}{Q:Exit→Act→World→Prop}{E:Prop}(W:World)(hcond:cond=true)(s x:Operand)(t:TypeId)
 (ho:o.op=.call {callee:=.builtin .append,args:=#[s,x],argTypes:=#[t,t]})
 (base:Nat) (e:TypeId) (i:TypeInfo) (z:Value) (bytes:Nat) (ht:P.underlying t=some (.slice e)) (hi:P.info? e=some i) (hz:i.zero=some z)
 (hsize:i.size=1) (hby:i.bytes=bytes) (hzs:z.cells.size=1)
 (v:Value) (n:Nat) (xs:List Value) (hs:a.eval s=v) (hown:OwnAt W base e v n xs)
 (te:TypeId) (m c:Nat) (news:List Value) (hx:a.eval x=.slice (some ⟨W.heap.size,0,none⟩) m c) (hl:news.length=m) (h1:∀u∈news,u.oneCell'=true)
 (h63:n+m≤maxLen) (hbytes:(n+m)*bytes≤140737488355328) (hbase:base≤W.heap.size)
 (h:∀v' w',OwnAt w' base e v' (n+m) (xs++news)→Fr W w' (fun b=>v.ownBlock=some b)→(v'.ownBlock=v.ownBlock∨v'.ownBlock=some (W.heap.size+1))→K (a.put o.dst v') w'):
 if cond=true then Oper.wp P o a (W.alloc (.cells news.toArray te)) K Q else E:=by
 rw[if_pos hcond];have hn:=heap_alloc_new W (.cells news.toArray te);obtain⟨v',w',hr,h2,h3,h5⟩:=R2 (P:=P) (W.alloc (.cells news.toArray te)) base t o.type e i z bytes ht hi hz hsize hby hzs v n xs (hown.blk fun b hb=>Below.heap_alloc W _ b (hown.lt b hb).2) ⟨W.heap.size,0,none⟩ m c news hl (by
  intro j u hu;rw[Addr.add_lit,cell_of_row _ _ _ _ _ _ hn]
  simpa using hu) h1 h63 hbytes (by simp;omega)
 unfold Oper.wp execOp
 simp only[ho,resolve,invoke,builtin,Sem.run_bind,Sem.run_pure,Result.andThen_ok,List.map_toArray,List.map_cons,List.map_nil,hs,hx,hr]
 refine h v' w' h2 ⟨h3.os,h3.tape,h3.output,Nat.le_trans qj h3.size,fun b hb hne=>?_⟩ (by simpa using h5);exact(h3.block b (by simp;omega) (fun e=>hne e.symm)).trans (Below.heap_alloc W _ b hb)
end Go.Proofs.YtimlpmbabbbcaaaGreat
namespace Go.Proofs.YtimlpmbabbbcaaaGreat.G
variable {n:Nat}
theorem Sb (hn:2≤n)(L:List (PM n)):strip (del::L)=strip L∧cnt (del::L)=cnt L+1:=by
 have h:=Li hn
 constructor
 ·unfold strip
  rw[List.filter_cons_of_neg]
  simp
 ·unfold cnt
  rw[List.filter_cons_of_pos (by simp[h])]
  rfl
theorem jm {p:PM n}{L:List (PM n)}(h:Still (p::L))(hp:p≠del):cnt (p::L)=0∧∀q∈p::L,q≠del:=by
 have hd:∀q∈p::L,q≠del:=fun q hq=>by
  rcases List.mem_cons.1 hq with rfl|hq
  ·exact hp
  ·exact IP h hp q hq
 refine⟨?_,hd⟩;unfold cnt;rw[List.length_eq_zero_iff,List.filter_eq_nil_iff];intro q hq
 simp[hd q hq]
theorem last_one (L:List (PM n)):strip (L++[one])=strip L:=by
 rw[xN]
 simp[strip]
theorem Qb {L:List (PM n)}{p:PM n}(h:Still (L++[p]))(hd:∀q∈L++[p],q≠del)(hp:p≠one):strip (L++[p])=L++[p]:=by
 obtain⟨b,hb⟩:=CU h hd
 rcases b with _|b
 ·rw[List.replicate_zero,List.append_nil]at hb
  exact hb.symm
 ·rw[List.replicate_succ',←List.append_assoc]at hb
  have:=List.append_inj_right' hb rfl;injection this with this;exact absurd this hp
theorem W6 {L M:List (PM n)}(h:Steps L M):M=L∨mu M<mu L:=by
 induction h with
 |refl=>exact .inl rfl
 |head h _ ih=>
  have:=mu_step h
  rcases ih with rfl|ih
  ·exact .inr this
  ·exact .inr qo
theorem S7 {L:List (PM n)}{i:Nat}{p q:PM n}(hp:L[i]?=some p)(hq:L[i+1]?=some q):L=L.take i++(p::q::L.drop (i+2)):=by
 have h1:i<L.length:=(List.getElem?_eq_some_iff.1 hp).1;have h2:i+1<L.length:=(List.getElem?_eq_some_iff.1 hq).1;rw[List.getElem?_eq_getElem h1]at hp;rw[List.getElem?_eq_getElem h2]at hq;injection hp with hp;injection hq with hq;rw[←hp,←hq];rw[←List.drop_eq_getElem_cons h2,←List.drop_eq_getElem_cons h1,List.take_append_drop]
theorem Xy {L:List (PM n)}{i:Nat}{p q:PM n}(p' q':PM n)(hp:L[i]?=some p)(hq:L[i+1]?=some q):(L.set i p').set (i+1) q'=L.take i++(p'::q'::L.drop (i+2)):=by
 have h1:i+1<L.length:=(List.getElem?_eq_some_iff.1 hq).1;have hl:(L.take i).length=i:=by rw[List.length_take];omega
 conv=>lhs;rw[S7 hp hq]
 generalize L.drop (i+2)=R;generalize L.take i=A at hl;subst hl;rw[List.set_append,if_neg qo,Nat.sub_self,List.set_append,if_neg qo,show A.length+1-A.length=1 by omega]
 rfl
theorem Gq {L:List (PM n)}{i:Nat}{p q p' q':PM n}(hp:L[i]?=some p)(hq:L[i+1]?=some q)(h:Steps [p,q] [p',q']):Steps L ((L.set i p').set (i+1) q'):=by
 rw[Xy p' q' hp hq]
 conv=>lhs;rw[S7 hp hq]
 exact(h.back (L.drop (i+2))).front _
def yG (L:List (PM n))(i:Nat):Prop:=∀j,i≤j→∀p q,L[j]?=some p→L[j+1]?=some q→ext p q=0
theorem U0 (L:List (PM n)){i:Nat}(h:L.length≤i+1):yG L i:=fun j hj p q _ hq=>by
 have:=(List.getElem?_eq_some_iff.1 hq).1;omega
theorem QV {L:List (PM n)}{i:Nat}{p q:PM n}(h:yG L (i+1))(hp:L[i]?=some p)(hq:L[i+1]?=some q)(he:ext p q=0):yG L i:=fun j hj p' q' hp' hq'=>by
 by_cases e:j=i
 ·subst e
  rw[hp]at hp';rw[hq]at hq';injection hp' with hp';injection hq' with hq';rw[←hp',←hq',he]
 ·exact h j qo p' q' hp' hq'
theorem TY {L:List (PM n)}(h:yG L 0):Still L:=LN fun j _ _ p q hp hq=>h j (Nat.zero_le _) p q hp hq
end Go.Proofs.YtimlpmbabbbcaaaGreat.G
namespace Go.Proofs.YtimlpmbabbbcaaaGreat
open Go.RowKit
def BU (n:Nat)(bs cs:Nat→Nat)(j:Nat):Value:=.slice (some ⟨bs j,0,none⟩) n (cs j)
structure dI {n:Nat}(B:Nat)(v:Value)(L:List (G.PM n))(bs cs:Nat→Nat)(w:World):Prop where
 own:OwnAt w B 61 v L.length ((List.range L.length).map (BU n bs cs))
 BV:∀j p,L[j]?=some p→w.ownsRow B 2 1 (.slice (some ⟨bs j,0,none⟩) n (cs j)) n (ints (G.pl p))
 inj:∀i j,i<L.length→j<L.length→bs i=bs j→i=j
 far:∀j,j<L.length→¬v.ownBlock=some (bs j)
def yw (v:Value)(N:Nat)(bs:Nat→Nat)(x:Nat):Prop:=v.ownBlock=some x∨∃j,j<N∧bs j=x
section
variable {n:Nat}{B:Nat}{v v':Value}{L:List (G.PM n)}{bs cs:Nat→Nat}{w w':World}
theorem dI.lt (h:dI B v L bs cs w){x:Nat}(hx:yw v L.length bs x):B≤x∧x<w.heap.size:=by
 rcases hx with hx|⟨j,hj,rfl⟩
 ·exact h.own.lt x hx
 ·exact(h.BV j _ (List.getElem?_eq_getElem hj)).lt (bs j) rfl
theorem dI.keep (h:dI B v L bs cs w)(hk:∀x,yw v L.length bs x→w'.heap[x]?=w.heap[x]?):dI B v L bs cs w':=
 ⟨h.own.blk fun b hb=>hk b (.inl hb),fun j p hp=>eE (h.BV j p hp) fun b hb=>by
  injection hb with hb;exact hk b (.inr ⟨j,(List.getElem?_eq_some_iff.1 hp).1,hb⟩),h.inj,h.far⟩
theorem dI.below (h:dI B v L bs cs w)(hb:Below w.heap.size w w'):dI B v L bs cs w':=h.keep fun x hx=>hb.block x (h.lt hx).2
theorem dI.drewN (h:dI B v L bs cs w)(q:Nat):dI B v L bs cs (w.drewN q):=h.keep fun _ _=>rfl
theorem dI.fr {F:Nat→Prop}(h:dI B v L bs cs w)(hf:Fr w w' F)(hF:∀x,yw v L.length bs x→¬F x):dI B v L bs cs w':=h.keep fun x hx=>hf.block x (h.lt hx).2 (hF x hx)
theorem dI.base {B':Nat}(h:dI B v L bs cs w)(hB:B'≤B):dI B' v L bs cs w:=⟨h.own.base hB,fun j p hp=>eU (h.BV j p hp) hB,h.inj,h.far⟩
theorem dI.nil {v:Value}(ho:OwnAt w B 61 v 0 [])(bs cs:Nat→Nat):dI B v ([]:List (G.PM n)) bs cs w:=⟨ho,fun j p hp=>by simp at hp,fun i j hi=>absurd hi (Nat.not_lt_zero i),fun j hj=>absurd hj (Nat.not_lt_zero j)⟩
theorem dI.afh (B:Nat)(w:World)(bs cs:Nat→Nat):dI B (.slice none 0 0) ([]:List (G.PM n)) bs cs w:=dI.nil ⟨rfl,.inl ⟨rfl,rfl⟩⟩ bs cs
theorem dI.form (h:dI B v L bs cs w)(hn:0<L.length):∃g o cap,v=.slice (some ⟨g,o,none⟩) L.length cap∧g<w.heap.size∧B≤g:=by
 obtain⟨g,o,cap,e,_,hB,hg⟩:=h.own.form hn;exact⟨g,o,cap,e,hg,hB⟩
theorem dI.cell {g o cap:Nat}(h:dI B (.slice (some ⟨g,o,none⟩) L.length cap) L bs cs w){j:Nat}(hj:j<L.length):w.cell? ⟨g,o+j,none⟩=some (.slice (some ⟨bs j,0,none⟩) n (cs j)):=by
 rw[h.own.cellAt hj]
 simp[hj,BU]
theorem dI.frozen {g o cap:Nat}(h:dI B (.slice (some ⟨g,o,none⟩) L.length cap) L bs cs w)(j:Nat):w.frozen? ⟨g,j,none⟩=false:=h.own.frozenAt j
theorem dI.weighed (h:dI B v L bs cs w){i:Nat}(hi:i+1<L.length){p q:G.PM n}(hf:Fr w w' (fun b=>b=bs i∨b=bs (i+1)))
 (hp:w'.ownsRow B 2 1 (.slice (some ⟨bs i,0,none⟩) n (cs i)) n (ints (G.pl p))) (hq:w'.ownsRow B 2 1 (.slice (some ⟨bs (i+1),0,none⟩) n (cs (i+1))) n (ints (G.pl q))):dI B v ((L.set i p).set (i+1) q) bs cs w':=by
 have hl:((L.set i p).set (i+1) q).length=L.length:=by rw[List.length_set,List.length_set]
 refine⟨?_,fun j r hj=>?_,fun a b ha hb=>h.inj a b qo qo,fun j hj=>h.far j qo⟩
 ·rw[hl]
  refine h.own.blk fun b hb=>hf.block b (h.own.lt b hb).2 fun e=>?_
  rcases e with rfl|rfl
  ·exact h.far i qo hb
  ·exact h.far (i+1) hi hb
 ·rw[List.getElem?_set]at hj
  by_cases e1:i+1=j
  ·subst e1
   rw[if_pos rfl,if_pos (by rw[List.length_set];exact hi)]at hj;injection hj with hj;rw[←hj];exact hq
  ·rw[if_neg e1,List.getElem?_set]at hj
   by_cases e2:i=j
   ·subst e2
    rw[if_pos rfl,if_pos qo]at hj;injection hj with hj;rw[←hj];exact hp
   ·rw[if_neg e2]at hj
    have hjl:=(List.getElem?_eq_some_iff.1 hj).1;have ho:=h.BV j r hj;refine eE ho fun b hb=>hf.block b (ho.lt b hb).2 fun e=>?_;injection hb with hb;subst hb
    rcases e with e|e
    ·exact e2 (h.inj i j qo hjl e.symm)
    ·exact e1 (h.inj (i+1) j hi hjl e.symm)
theorem dI.snoc (h:dI B v L bs cs w){b c:Nat}{p:G.PM n}(hp:w.ownsRow B 2 1 (.slice (some ⟨b,0,none⟩) n c) n (ints (G.pl p)))(hb:¬yw v L.length bs b)
 (hown:OwnAt w' B 61 v' (L.length+1) ((List.range L.length).map (BU n bs cs)++[.slice (some ⟨b,0,none⟩) n c])) (hf:Fr w w' (fun x=>v.ownBlock=some x)) (hat:v'.ownBlock=v.ownBlock∨∃k,v'.ownBlock=some k∧w.heap.size≤k):
 dI B v' (L++[p]) (fun j=>if j=L.length then b else bs j) (fun j=>if j=L.length then c else cs j) w':=by
 have hll:(L++[p]).length=L.length+1:=by simp
 have hbz:=hp.lt b rfl;have BJ:∀x,x<w.heap.size→¬v.ownBlock=some x→¬v'.ownBlock=some x:=fun x h1 h2 h3=>by
  rcases hat with e|⟨k,e,hk⟩
  ·exact h2 (e.symm.trans h3)
  ·rw[e]at h3
   injection h3 with h3;omega
 refine⟨?_,fun j r hj=>?_,fun i j hi hj e=>?_,fun j hj=>?_⟩
 ·rw[hll,List.range_succ,List.map_append]
  have e:(List.range L.length).map (BU n (fun j=>if j=L.length then b else bs j) (fun j=>if j=L.length then c else cs j))=(List.range L.length).map (BU n bs cs):=List.map_congr_left fun j hj=>by
   have:=List.mem_range.1 hj
   simp only[BU,if_neg (show j≠L.length by omega)]
  rw[e]
  simpa [BU]using hown
 ·by_cases e:j=L.length
  ·subst e
   simp only[if_pos]
   rw[List.getElem?_append_right ql,Nat.sub_self]at hj;injection hj with hj;rw[←hj];exact eE hp fun x hx=>hf.block x (hp.lt x hx).2 fun e=>by
    injection hx with hx;subst hx;exact hb (.inl e)
  ·simp only[if_neg e]
   have hjl:j<L.length:=by have:=(List.getElem?_eq_some_iff.1 hj).1;omega
   rw[List.getElem?_append_left hjl]at hj;have ho:=h.BV j r hj;exact eE ho fun x hx=>hf.block x (ho.lt x hx).2 fun e=>by
    injection hx with hx;subst hx;exact h.far j hjl e
 ·have hi2:i<L.length+1:=qo
  have hj2:j<L.length+1:=qo
  by_cases e1:i=L.length
  ·by_cases e2:j=L.length
   ·omega
   ·simp only[if_pos e1,if_neg e2]at e
    exact absurd (.inr ⟨j,by omega,e.symm⟩) hb
  ·by_cases e2:j=L.length
   ·simp only[if_neg e1,if_pos e2]at e
    exact absurd (.inr ⟨i,by omega,e⟩) hb
   ·simp only[if_neg e1,if_neg e2]at e
    exact h.inj i j qo qo e
 ·by_cases e:j=L.length
  ·simp only[if_pos e]
   exact BJ b hbz.2 fun h2=>hb (.inl h2)
  ·simp only[if_neg e]
   have hjl:j<L.length:=qo;exact BJ _ (h.lt (.inr ⟨j,hjl,rfl⟩)).2 (h.far j hjl)
theorem dI.put {g o cap:Nat}(h:dI B (.slice (some ⟨g,o,none⟩) L.length cap) L bs cs w){i:Nat}(hi:i<L.length){b c:Nat}{p:G.PM n}(hp:w.ownsRow B 2 1 (.slice (some ⟨b,0,none⟩) n c) n (ints (G.pl p)))(hb:¬yw (.slice (some ⟨g,o,none⟩) L.length cap) L.length bs b):
 dI B (.slice (some ⟨g,o,none⟩) L.length cap) (L.set i p) (fun j=>if j=i then b else bs j) (fun j=>if j=i then c else cs j) (w.setCell ⟨g,o+i,none⟩ (.slice (some ⟨b,0,none⟩) n c)):=by
 have hk:∀x,x≠g→(w.setCell ⟨g,o+i,none⟩ (.slice (some ⟨b,0,none⟩) n c)).heap[x]?=w.heap[x]?:=fun x hx=>Below.heap_setCell w _ _ x hx;have hbg:b≠g:=fun e=>hb (.inl (by rw[e];rfl));refine⟨?_,fun j r hj=>?_,fun a e ha he hae=>?_,fun j hj=>?_⟩
 ·rw[List.length_set]
  have h1:=h.own.stored i (.slice (some ⟨b,0,none⟩) n c);have e:(List.range L.length).map (BU n (fun j=>if j=i then b else bs j) (fun j=>if j=i then c else cs j))=((List.range L.length).map (BU n bs cs)).set i (.slice (some ⟨b,0,none⟩) n c):=by
   apply List.ext_getElem?
   intro j;rw[List.getElem?_set]
   by_cases hj:j<L.length
   ·rw[List.getElem?_map,List.getElem?_range hj,Option.map_some]
    by_cases e:i=j
    ·subst e
     rw[if_pos rfl,if_pos (by simp;omega)]
     simp[BU]
    ·rw[if_neg e,List.getElem?_map,List.getElem?_range hj,Option.map_some]
     simp only[BU,if_neg (fun e'=>e e'.symm:¬j=i)]
   ·rw[if_neg qo,List.getElem?_eq_none (by simp;omega),List.getElem?_eq_none (by simp;omega)]
  rw[e];exact h1
 ·rw[List.getElem?_set]at hj
  by_cases e:i=j
  ·subst e
   rw[if_pos rfl,if_pos hi]at hj;injection hj with hj
   simp only[if_pos]
   rw[←hj];exact eE hp fun x hx=>hk x fun e=>by
    injection hx with hx;exact hbg (hx.trans e)
  ·rw[if_neg e]at hj
   simp only[if_neg (fun e'=>e e'.symm:¬j=i)]
   have hjl:=(List.getElem?_eq_some_iff.1 hj).1;exact eE (h.BV j r hj) fun x hx=>hk x fun e=>by
    injection hx with hx;have e2:g=bs j:=(hx.trans e).symm;exact h.far j hjl (congrArg some e2)
 ·rw[List.length_set]at ha he
  by_cases e1:a=i
  ·by_cases e2:e=i
   ·omega
   ·simp only[if_pos e1,if_neg e2]at hae
    exact absurd (.inr ⟨e,he,hae.symm⟩) hb
  ·by_cases e2:e=i
   ·simp only[if_neg e1,if_pos e2]at hae
    exact absurd (.inr ⟨a,ha,hae⟩) hb
   ·simp only[if_neg e1,if_neg e2]at hae
    exact h.inj a e ha he hae
 ·rw[List.length_set]at hj
  by_cases e:j=i
  ·simp only[if_pos e]
   exact fun e=>hb (.inl e)
  ·simp only[if_neg e]
   exact h.far j hj
theorem dI.tail {g o m cap:Nat}{p:G.PM n}(h:dI B (.slice (some ⟨g,o,none⟩) (m+1) cap) (p::L) bs cs w)(hm:L.length=m)(hc:¬cap=1):dI B (.slice (some ⟨g,o+1,none⟩) m (cap-1)) L (fun j=>bs (j+1)) (fun j=>cs (j+1)) w:=by
 subst hm;refine⟨?_,fun j r hj=>h.BV (j+1) r hj,fun a b ha hb e=>?_,fun j hj=>h.far (j+1) (by simp;omega)⟩
 ·have h1:=h.own
  rw[List.length_cons,List.range_succ_eq_map,List.map_cons,List.map_map]at h1;exact OwnAt.tail h1 hc
 ·have:=h.inj (a+1) (b+1) (by simp;omega) (by simp;omega) e
  omega
theorem dI.Bf {g o:Nat}{p:G.PM n}(h:dI B (.slice (some ⟨g,o,none⟩) 1 1) [p] bs cs w):dI B (.slice (some ⟨g,o,none⟩) 0 0) ([]:List (G.PM n)) bs cs w:=by
 have h1:=h.own;exact dI.nil (OwnAt.Bf h1) bs cs
theorem dI.front {g o m cap:Nat}{p:G.PM n}(h:dI B (.slice (some ⟨g,o,none⟩) (m+1) cap) (L++[p]) bs cs w)(hm:L.length=m):dI B (.slice (some ⟨g,o,none⟩) m cap) L bs cs w:=by
 subst hm;have hl:(L++[p]).length=L.length+1:=by simp
 refine⟨?_,fun j r hj=>h.BV j r ?_,fun a b ha hb=>h.inj a b qo qo,fun j hj=>h.far j qo⟩
 ·have h1:=h.own
  rw[hl]at h1;have h2:=h1.front (k:=L.length) qo;rw[←List.map_take,List.take_range,Nat.min_eq_left qo]at h2;exact h2
 ·rw[List.getElem?_append_left (List.getElem?_eq_some_iff.1 hj).1]
  exact hj
end
def afP {n:Nat}(p q:G.PM n)(B bp cp bq cq:Nat)(w:World)(e:Ending)(w':World):Prop:=∃(p' q':G.PM n) (any:Bool),e=.returned (.bool any)∧G.ext p' q'=0∧(any=false→p'=p∧q'=q)∧(any=true→G.mu [p',q']<G.mu [p,q])∧G.Steps [p,q] [p',q']∧Fr w w' (fun b=>b=bp∨b=bq)∧
 w'.ownsRow B 2 1 (.slice (some ⟨bp,0,none⟩) n cp) n (ints (G.pl p'))∧w'.ownsRow B 2 1 (.slice (some ⟨bq,0,none⟩) n cq) n (ints (G.pl q'))
theorem D6 {B:Nat}{w:World}{g n c:Nat}{xs:List Value}(ho:w.ownsRow B 2 1 (.slice (some ⟨g,0,none⟩) n c) n xs){p:Addr}(hp:p.block≠g)(u:Value):(w.setCell p u).ownsRow B 2 1 (.slice (some ⟨g,0,none⟩) n c) n xs:=eE ho fun b hb=>Below.heap_setCell w p u b fun e=>by
 injection hb with hb;exact hp (by rw[←e];exact hb.symm)
theorem Fx {n:Nat}(p q:G.PM n)(B bp cp bq cq:Nat)(w:World)(hne:bp≠bq)(hp:w.ownsRow B 2 1 (.slice (some ⟨bp,0,none⟩) n cp) n (ints (G.pl p)))(hq:w.ownsRow B 2 1 (.slice (some ⟨bq,0,none⟩) n cq) n (ints (G.pl q)))(hn:n≤1000):
 Calls Tryz.prog 224 #[.slice (some ⟨bp,0,none⟩) n cp,.slice (some ⟨bq,0,none⟩) n cq] w (afP p q B bp cp bq cq w):=by
 have HP:=qh hp;have HQ:=qh hq;clear hp hq
 go_enter Tryz.func224,Tryz.ntmps224
 go_wp2_with fail
 go_loopg [5] (G.mu [p,q]+1) (fun gh v wr=>∃(p1 q1:G.PM n) (any:Bool),v=.bool any∧gh=G.mu [p1,q1]+1∧Hq (any=false→p1=p∧q1=q)∧Hq (any=true→G.mu [p1,q1]<G.mu [p,q])∧Hq (G.Steps [p,q] [p1,q1])∧Hq (Fr w wr (fun b=>b=bp∨b=bq))∧Hq (wr.ownsRow B 2 1 (.slice (some ⟨bp,0,none⟩) n cp) n (ints (G.pl p1)))∧Hq (wr.ownsRow B 2 1 (.slice (some ⟨bq,0,none⟩) n cq) n (ints (G.pl q1))))
 case atStart=>exact⟨p,q,false,rfl,rfl,qh (fun _=>⟨rfl,rfl⟩),qh (fun h=>by cases h),qh (.refl _),qh (Fr.refl _ _),HP,HQ⟩
 case round=>
  clear HP HQ;obtain⟨p1,q1,any,rfl,hgh,HF,HT,HS,jZ,HP,HQ⟩:=hrel;have rE:=qh (gy p1 q1 (some ⟨bp,0,none⟩) (some ⟨bq,0,none⟩) cp cq wr (by have h:=j5 HP.o;exact h) (by have h:=j5 HQ.o;exact h) hn)
  go_wp2_with fail
  refine rE.o.mono ?_;rintro e w4 ⟨rfl,hb4⟩;have HP4:=qh (own_below HP.o hb4);have Z3:=qh (own_below HQ.o hb4);have oB:=qh (jZ.o.fM (hb4.mono jZ.o.size));clear hb4 rE HP HQ jZ
  by_cases hx:G.ext p1 q1=0
  ·rw[hx]
   go_wp2_with fail
   go_ret
   exact⟨p1,q1,any,rfl,hx,HF.o,HT.o,HS.o,oB.o,HP4.o,Z3.o⟩
  obtain⟨m,hm,hcan⟩:=G.wm hx;rw[hm];have hm1:=hcan.1;have hm2:=hcan.2.1;have hx1:¬(m:Int)=0:=qo;have hx2:((m:Int)==0)=false:=by rw[beq_eq_false_iff_ne];omega
  have Et:=qh (show G.Step [p1,q1] [p1.eA m,q1.dX m]from .here hcan);have hmu:=G.mu_step Et.o;have HT2:=qh (show G.mu [p1.eA m,q1.dX m]<G.mu [p,q]from by
   rcases G.W6 HS.o with h|h
   ·rw[h]at hmu
    exact hmu
   ·omega)
  have HS2:=qh (HS.o.trans (.one Et.o));obtain⟨j,rfl⟩:∃j,m=j+1:=⟨m-1,by omega⟩;clear hx hm hcan HF HT HS Et
  go_wp2_with fail
  go_loopw [17] (fun x wr=>∃i:Nat,i≤n∧x=.int .i64 i∧Hq (wr.ownsRow B 2 1 (.slice (some ⟨bp,0,none⟩) n cp) n (ints (i9 p1 (j+1) i)))∧Hq (wr.ownsRow B 2 1 (.slice (some ⟨bq,0,none⟩) n cq) n (ints (G.pl q1)))∧Hq (Fr w wr (fun b=>b=bp∨b=bq))) (fun x _=>n-(intOf x).toNat)
  case atStart=>exact⟨0,Nat.zero_le _,rfl,qh (by rw[TC];exact HP4.o),Z3,oB⟩
  case round=>
   clear HP4 Z3 oB;obtain⟨i,hi,rfl,aI,pN,dB⟩:=hrel
   by_cases hlt:i<n
   ·have hl:(ints (i9 p1 (j+1) i)).length=n:=by simp[ints,i9]
    have hc:wr.cell? ⟨bp,i,none⟩=some (.int .i64 (p1.f i:Nat)):=by
     rw[aI.o.cellAt i qo]
     simp[ints,i9,hlt]
    have hpl:=p1.lt hlt;have cB:=qh (TE p1 (j+1) hlt);have iS:=qh (fun h=>TD p1 (j+1) (i:=i) h);have HV:=qh (show(p1.eA (j+1)).f i=G.cN n (j+1) (p1.f i)from rfl);have yJ:=qh (G.tM (n:=n) (k:=j+1) hm1 hm2);obtain⟨P,hP⟩:=qx (p1.f i);rw[←hP]at hpl HV iS hc;have hf:=aI.o.frozenAt i;have e1:((j+1:Nat):Int)-1=(j:Int):=qo;have b1:(0:Int)≤(i:Int):=qo;have b2:(i:Int)<(n:Int):=qo;clear hP hl
    by_cases h1:P=j
    ·have qI:=qh (show(i9 p1 (j+1) i).set i ((j+1:Nat):Int)=i9 p1 (j+1) (i+1)by
      rw[←cB.o,HV.o,h1];have:=yJ.o.1;rw[Nat.add_sub_cancel]at this;rw[this])
     have HST:=qh (aI.o.stored i (.int .i64 ((j+1:Nat):Int))).1;have Z4:=qh (D6 pN.o (p:=⟨bp,i,none⟩) hne (.int .i64 ((j+1:Nat):Int)));have pD:=qh (dB.o.set (p:=⟨bp,i,none⟩) (.inl rfl) (.int .i64 ((j+1:Nat):Int)));have h1b:((P:Int)==(j:Int))=true:=by simp[h1]
     have h1c:(P:Int)=(j:Int):=qo;clear cB iS HV yJ
     go_wp2
     go_roundw
     case rel=>exact⟨i+1,by omega,qg,qh (by
      have h:=HST.o;rw[show(ints (i9 p1 (j+1) i)).set i (.int .i64 ((j+1:Nat):Int))=ints ((i9 p1 (j+1) i).set i ((j+1:Nat):Int))by simp[ints,List.map_set],qI.o]at h;exact h),Z4,pD⟩
     case measure=>exact qs
    have h1b:((P:Int)==(j:Int))=false:=by rw[beq_eq_false_iff_ne];omega
    have h1c:¬(P:Int)=(j:Int):=qo
    by_cases h2:P=j+1
    ·have qI:=qh (show(i9 p1 (j+1) i).set i (j:Int)=i9 p1 (j+1) (i+1)by
      rw[←cB.o,HV.o,h2,yJ.o.2.1,Nat.add_sub_cancel])
     have HST:=qh (aI.o.stored i (.int .i64 (j:Int))).1;have Z4:=qh (D6 pN.o (p:=⟨bp,i,none⟩) hne (.int .i64 (j:Int)));have pD:=qh (dB.o.set (p:=⟨bp,i,none⟩) (.inl rfl) (.int .i64 (j:Int)));have XQ:((P:Int)==((j+1:Nat):Int))=true:=by simp[h2]
     have h2c:(P:Int)=((j+1:Nat):Int):=qo;clear cB iS HV yJ
     go_wp2
     go_roundw
     case rel=>exact⟨i+1,by omega,qg,qh (by
      have h:=HST.o;rw[show(ints (i9 p1 (j+1) i)).set i (.int .i64 (j:Int))=ints ((i9 p1 (j+1) i).set i (j:Int))by simp[ints,List.map_set],qI.o]at h;exact h),Z4,pD⟩
     case measure=>exact qs
    have XQ:((P:Int)==((j+1:Nat):Int))=false:=by rw[beq_eq_false_iff_ne];omega
    have h2c:¬(P:Int)=((j+1:Nat):Int):=qo;have agh:=qh (iS.o (by rw[HV.o];exact yJ.o.2.2 P qo h2));clear cB iS HV yJ
    go_wp2
    go_roundw
    case rel=>exact⟨i+1,by omega,qg,qh (by rw[←agh.o];exact aI.o),pN,dB⟩
    case measure=>exact qs
   ·obtain rfl:n=i:=qo
    have hl:(ints (G.pl q1)).length=n:=by simp[ints,G.aB]
    have k1:wr.cell? ⟨bq,j+1,none⟩=some (.int .i64 (q1.f (j+1):Nat)):=by
     rw[pN.o.cellAt (j+1) qo]
     simp[ints,G.pl,hm2]
    have k2:wr.cell? ⟨bq,j,none⟩=some (.int .i64 (q1.f j:Nat)):=by
     rw[pN.o.cellAt j qo]
     simp[ints,G.pl,show j<n by omega]
    have DL:=qh (VP q1 hm1 hm2);rw[Nat.add_sub_cancel]at DL;obtain⟨P,hP⟩:=qx (q1.f (j+1));obtain⟨Q,hQ⟩:=qx (q1.f j);rw[←hP,←hQ]at DL;rw[←hP]at k1;rw[←hQ]at k2;have f1:=pN.o.frozenAt j;have f2:=pN.o.frozenAt (j+1);have jR:=qh ((pN.o.stored j (.int .i64 P)).1.stored (j+1) (.int .i64 Q)).1;have Np:=qh (D6 (D6 aI.o (p:=⟨bq,j,none⟩) (Ne.symm hne) (.int .i64 P)) (p:=⟨bq,j+1,none⟩) (Ne.symm hne) (.int .i64 Q));have pD:=qh ((dB.o.set (p:=⟨bq,j,none⟩) (.inr rfl) (.int .i64 P)).set (p:=⟨bq,j+1,none⟩) (.inr rfl) (.int .i64 Q));have e1:((j+1:Nat):Int)-1=(j:Int):=qo;have b1:(0:Int)≤(j:Int):=qo;have b2:(j:Int)<(n:Int):=qo;have b3:(0:Int)≤((j+1:Nat):Int):=qo;have b4:((j+1:Nat):Int)<(n:Int):=qo;clear hP hQ hl
    go_wp2
    go_region
    go_wp2
    go_roundg (G.mu [p1.eA (j+1),q1.dX (j+1)]+1)
    case rel=>exact⟨p1.eA (j+1),q1.dX (j+1),true,rfl,rfl,qh (fun h=>by cases h),qh (fun _=>HT2.o),HS2,qh (pD.o.fM (qz)),qh (own_drewN (by
     have h:=Np.o;rw[YH]at h;exact h) 1),qh (own_drewN (by
     have h:=jR.o;rw[show((ints (G.pl q1)).set j (.int .i64 P)).set (j+1) (.int .i64 Q)=ints (((G.pl q1).set j P).set (j+1) Q)by simp[ints,List.map_set],DL.o]at h;exact h) 1)⟩
    case measure=>omega
theorem G8 (A B:OA)(c c':Nat)(L M:List Int)(w:World)(ha:dN w A L)(hb:dN w B M)(hn:L.length≤1048576)(hm:M.length≤1048576):
 Calls Tryz.prog 202 #[.slice A L.length c,.slice B M.length c'] w fun e w'=>e=.returned (.bool (decide (L=M)))∧∃q,w'=w.drewN q:=by
 have HA:=qh ha;have HB:=qh hb;clear ha hb
 by_cases hl:L.length=M.length
 case neg=>
  have HD:=qh (show decide (L=M)=false from decide_eq_false fun e=>hl (by rw[e]));have hlb:((L.length:Int)==(M.length:Int))=false:=by rw[beq_eq_false_iff_ne];omega
  have hlc:¬(L.length:Int)=(M.length:Int):=qo
  go_enter Tryz.func202,Tryz.ntmps202
  go_wp2
  go_ret
  exact⟨by rw[HD.o];rfl,0,rfl⟩
 obtain⟨n,hnl⟩:=qx (L.length);have hnm:M.length=n:=qo;have gK:=qh hnl;have zK:=qh hnm;have e1:L.length=n:=hnl.symm;rw[←hnl];rw[hnm];rw[←hnl]at hn;clear hnl hnm hl hm
 go_enter Tryz.func202,Tryz.ntmps202
 go_wp2_with fail
 go_loopw [13] (fun i wr=>∃k q:Nat,k≤n∧i=.int .i64 k∧wr=w.drewN q∧Hq (L.take k=M.take k)) (fun i _=>n-(intOf i).toNat)
 case atStart=>exact⟨0,0,Nat.zero_le _,rfl,rfl,qh qj⟩
 case round=>
  obtain⟨k,q,hk,rfl,rfl,HX⟩:=hrel
  by_cases hlt:k<n
  ·obtain⟨ga,o,rfl,hg,hr⟩:=HA.o qo
   obtain⟨gb,o',rfl,hg',hr'⟩:=HB.o (by have:=zK.o;omega);have hc:=hr k qo;have hc':=hr' k (by have:=zK.o;omega);have HT1:=qh (show L.take (k+1)=L.take k++[L.getD k 0]by rw[List.take_succ_eq_append_getElem qo];simp[List.getD,show k<L.length by omega]);have HT2:=qh (show M.take (k+1)=M.take k++[M.getD k 0]by rw[List.take_succ_eq_append_getElem (by have:=zK.o;omega)];simp[List.getD,show k<M.length by have:=zK.o;omega]);obtain⟨x,hx⟩:=qx (L.getD k 0);obtain⟨y,hy⟩:=qx (M.getD k 0)
   simp only[←hx]at hc
   rw[←hx]at HT1
   simp only[←hy]at hc'
   rw[←hy]at HT2;have Q4:=qh hx;have HYY:=qh hy;have b1:(0:Int)≤(k:Int):=qo;have b2:(k:Int)<(n:Int):=qo;clear hr hr' hx hy
   by_cases hxy:x=y
   ·subst hxy
    go_wp2_with fail
    go_quiet (fail)
    go_wp2_with fail
    go_roundw
    case rel=>exact⟨k+1,q+nq,by omega,qg,rfl,qh (by rw[HT1.o,HT2.o,HX.o])⟩
    case measure=>exact qs
   ·have HD:=qh (show decide (L=M)=false from decide_eq_false fun e=>hxy (by rw[Q4.o,HYY.o,e]))
    have hxb:(x==y)=false:=by simpa using hxy
    go_wp2_with fail
    go_quiet (fail)
    go_wp2_with fail
    go_ret
    exact⟨by rw[HD.o];rfl,_,World.drewN_drewN _ _ _⟩
  ·obtain rfl:n=k:=qo
   have HD:=qh (show decide (L=M)=true from decide_eq_true (by
    have h:=HX.o;rwa[List.take_of_length_le qo,List.take_of_length_le (by have:=zK.o;omega)]at h))
   go_wp2
   go_ret
   exact⟨by rw[HD.o];rfl,q,rfl⟩
theorem Ei (p:Addr)(c:Nat)(L:List Int)(w:World)(hr:dN w (some p) L)(hn:L.length≤1048576):Calls Tryz.prog 154 #[.slice (some p) L.length c] w (mC w L):=by
 obtain⟨i0,hi,iz,is,ib⟩:=info_parts info64;have hb0:Below w.heap.size w (w.alloc (.cells #[] 2)):=qb;have HR:=qh (Rd.below hr hb0);have HO:=qh (World.ownsRow_made (e:=2) (size:=1) w #[] 0 ql qm rfl);have HB:=qh hb0;clear hr hb0;obtain⟨n,hN⟩:=qx (L.length);rw[←hN]at hn HR ⊢;have HL:=qh hN;clear hN;have hq:∀w,(binOp .eql 61 (.slice (some p) n c) (.slice none 0 0)).run Tryz.prog w=.ok (.bool false) w:=fun w=>Lib.run_eql_slice_nil w _ _ (some p) n c 0 0 Tryz.underlying61
 go_enter Tryz.func154,Tryz.ntmps154
 go_wp2_with (at_builtin;go_must (refine cO (w.alloc (.cells #[] 2)) rfl (.tmp 5) (.tmp 6) _ rfl w.heap.size 2 i0 _ 1 8 Tryz.underlying61 hi iz is ib rfl qo _ 0 [] rfl HO.o (some p) n c (fun j=>.int .i64 (L.getD j 0)) rfl (by rw[Nat.mul_one];exact HR.o) (fun j=>rfl) qm qo qj ?_);intro v' w' hown' hfr;have HOWN':=qh hown';have jZ:=qh hfr;clear hown' hfr)
 go_ret
 have ho:=HOWN'.o;rw[Nat.zero_add,List.nil_append,Nat.mul_one,eV L n HL.o.symm]at ho;exact⟨_,rfl,by rw[←HL.o];exact ho,HB.o.trans (jZ.o.own HO.o qj)⟩
theorem Rt {n:Nat}(p:G.PM n)(A:OA)(c:Nat)(w:World)(ha:dN w A (G.pl p))(hn:n≤1000):Calls Tryz.prog 223 #[.slice A n c] w (mC w (G.pl p.flip)):=by
 obtain⟨cs,hcs,hcv,hmk⟩:=xV n qo;have HO:=qh (wI w cs n qo hcs hcv);have HB:=qh ((Below.refl w.heap.size w).alloc ql (.cells cs 2));have HA:=qh ha;clear hcv ha
 go_enter Tryz.func223,Tryz.ntmps223
 go_wp2_with fail
 clear hmk
 go_loopw [12] (fun x wr=>∃k:Nat,k≤n∧x=.int .i64 k∧Hq (wr.ownsRow w.heap.size 2 1 (.slice (some ⟨w.heap.size,0,none⟩) n n) n (ints (iK p k)))∧Hq (Below w.heap.size w wr)) (fun x _=>n-(intOf x).toNat)
 case atStart=>exact⟨0,Nat.zero_le _,rfl,qh (by rw[PK];exact HO.o),HB⟩
 case round=>
  obtain⟨k,hk,rfl,aI,HB2⟩:=hrel
  by_cases hlt:k<n
  ·obtain⟨ga,o,rfl,hg,hr⟩:=HA.o (by rw[G.aB];omega)
   have hm:n-1-k<n:=qo;have hc:=aD HB2.o hg (hr (n-1-k) (by rw[G.aB];exact hm))
   simp only[G.kJ p hm]at hc
   have hp:=p.lt hm;have cB:=qh (PL p hlt);have ZI:=qh (show(p.flip.f k:Int)=(n:Int)-1-(p.f (n-1-k):Nat)by
    show((G.rev n (p.f (G.rev n k)):Nat):Int)=_;rw[G.eQ hlt,G.eQ hp];omega)
   obtain⟨P,hP⟩:=qx (p.f (n-1-k));obtain⟨m,hmm⟩:=qx (n-1-k);rw[←hP]at hp ZI
   simp only[←hP]at hc
   rw[←hmm]at hc hm;have qI:=qh (show(iK p k).set k ((n:Int)-1-P)=iK p (k+1)by rw[←ZI.o];exact cB.o);clear ZI cB;have hl:(ints (iK p k)).length=n:=by simp[ints,iK]
   have hcell:wr.cell? ⟨w.heap.size,k,none⟩=(ints (iK p k))[k]?:=aI.o.cellAt k qo;obtain⟨y,hy⟩:∃y,wr.cell? ⟨w.heap.size,k,none⟩=some y:=⟨_,hcell.trans (List.getElem?_eq_getElem qo)⟩;have hf:=aI.o.frozenAt k;have HST:=qh (aI.o.stored k (.int .i64 ((n:Int)-1-P))).1;have HB3:=qh (Below.setCell (p:=⟨w.heap.size,k,none⟩) HB2.o ql (.int .i64 ((n:Int)-1-P)));have e1:(n:Int)-1-(k:Int)=(m:Int):=qo;have b1:(0:Int)≤(k:Int):=qo;have b2:(k:Int)<(n:Int):=qo;have b3:(0:Int)≤(m:Int):=qo;have b4:(m:Int)<(n:Int):=qo;clear hr hP hcell hl hmm
   go_wp2
   go_roundw
   case rel=>exact⟨k+1,by omega,qg,qh (by
    have h:=HST.o;rw[show(ints (iK p k)).set k (.int .i64 ((n:Int)-1-P))=ints ((iK p k).set k ((n:Int)-1-P))by simp[ints,List.map_set],qI.o]at h;exact h),HB3⟩
   case measure=>exact qs
  ·obtain rfl:n=k:=qo
   go_wp2
   go_ret
   exact⟨_,rfl,by rw[G.aB,←T3];exact aI.o,HB2.o⟩
theorem D5 {B n:Nat}{w:World}{v:Value}{xs:List Value}(h0:1≤n)(h:w.ownsRow B 2 1 v n xs):∃g c,v=.slice (some ⟨g,0,none⟩) n c∧B≤g∧g<w.heap.size:=by
 rcases h.2 with⟨_,h1⟩|⟨g,cap,_,e,hB,hc,_⟩
 ·omega
 ·exact⟨g,cap,e,hB,(Array.getElem?_eq_some_iff.1 hc).1⟩
def NfP {n:Nat}(g:Nat)(P:Int)(L:List (G.PM n))(B:Nat)(w:World)(e:Ending)(w':World):Prop:=e=.returned (.tuple #[])∧Fr w w' (fun x=>x=g∨B≤x)∧∃v bs cs,aG w' g 184 #[.int .i64 n,.int .i64 P,v]∧dI B v L bs cs w'
def NfQ {n:Nat}(g:Nat)(P:Int)(L:List (G.PM n))(B:Nat)(v0:Value)(w:World)(e:Ending)(w':World):Prop:=e=.returned (.tuple #[])∧Fr w w' (fun x=>v0.ownBlock=some x)∧∃v bs cs,aG w' g 184 #[.int .i64 n,.int .i64 P,v]∧dI B v L bs cs w'
def BS {n:Nat}(L:List (G.PM n))(i:Nat):List (G.PM n):=(L.take i).map G.PM.flip++L.drop i
theorem Dy {n:Nat}(L:List (G.PM n))(i:Nat):(BS L i).length=L.length:=by simp[BS];omega
theorem Zc {n:Nat}{L:List (G.PM n)}{i:Nat}(hi:i<L.length):(BS L i)[i]?=L[i]?:=by
 simp only[BS]
 rw[List.getElem?_append_right (by simp;omega),List.getElem?_drop]
 congr 1
 simp
 omega
theorem Ru {n:Nat}{L:List (G.PM n)}{i:Nat}{p:G.PM n}(hp:L[i]?=some p):(BS L i).set i p.flip=BS L (i+1):=by
 have hi:i<L.length:=(List.getElem?_eq_some_iff.1 hp).1;rw[List.getElem?_eq_getElem hi]at hp;injection hp with hp
 simp only[BS]
 rw[List.set_append,if_neg (by simp;omega)];have e:((L.take i).map G.PM.flip).length=i:=by simp;omega
 rw[e,Nat.sub_self,List.drop_eq_getElem_cons hi,List.set_cons_zero,List.take_succ_eq_append_getElem hi,List.map_append,List.append_assoc,hp]
 rfl
theorem jo {n:Nat}(g:Nat)(P:Int)(v:Value)(L:List (G.PM n))(bs cs:Nat→Nat)(B:Nat)(w:World)(h:dI B v L bs cs w)(hb:aG w g 184 #[.int .i64 n,.int .i64 P,v])(hgB:g<B)(hB:B≤w.heap.size)(hn:n≤1000)(hn1:1≤n)(hl:L.length≤1000000):
 Calls Tryz.prog 205 #[.pointer (some ⟨g,0,none⟩)] w (NfQ g P (L.map G.PM.flip) B v w):=by
 obtain⟨A0,c0,rfl⟩:=h.own.sl;have HF:=qh h;have lX:=qh hb;have m2:w.cell? ⟨g,2,none⟩=some (.slice A0 L.length c0):=qc hb 2 rfl;have gK:=qh (Dy L);have cB:=qh (fun i p hp=>Ru (L:=L) (i:=i) (p:=p) hp);have ZH:=qh (fun i hi=>Zc (L:=L) (i:=i) hi);have KM:=qh (show BS L L.length=L.map G.PM.flip by simp[BS]);have HZ:=qh (show BS L 0=L by simp[BS]);obtain⟨N,hN⟩:=qx (L.length)
 simp only[←hN]at HF lX m2 gK KM ZH hl ⊢
 have rQ:=qh hN;clear h hb hN
 go_enter Tryz.func205,Tryz.ntmps205
 go_wp2_with fail
 clear m2
 go_loopw [9] (fun x wr=>∃(k:Nat) (pA cs1:Nat→Nat),k≤N∧x=.int .i64 k∧Hq (dI B (.slice A0 N c0) (BS L k) pA cs1 wr)∧Hq (aG wr g 184 #[.int .i64 n,.int .i64 P,.slice A0 N c0])∧Hq (Fr w wr (fun x=>(Value.slice A0 N c0).ownBlock=some x))) (fun x _=>N-(intOf x).toNat)
 case atStart=>exact⟨0,bs,cs,Nat.zero_le _,rfl,qh (by rw[HZ.o];exact HF.o),lX,qh (Fr.refl _ _)⟩
 case round=>
  obtain⟨k,pA,cs1,hk,rfl,iC,HB1,jZ⟩:=hrel
  by_cases hlt:k<N
  ·have QF:=qh (gK.o k)
   obtain⟨g0,o0,cap,he,hg0,hBg0⟩:=iC.o.form (by have:=QF.o;omega);injection he with e1 e2 e3;clear e2;subst e1 e3;obtain⟨p,hp⟩:∃p,L[k]?=some p:=⟨_,List.getElem?_eq_getElem (by have:=rQ.o;omega)⟩;have hpk:(BS L k)[k]?=some p:=(ZH.o k qo).trans hp;have qI:=qh (cB.o k p hp);have dB:=qh (show dI B (.slice (some ⟨g0,o0,none⟩) (BS L k).length c0) (BS L k) pA cs1 wr by rw[QF.o];exact iC.o);have kc:=dB.o.cell (j:=k) (by rw[QF.o];exact hlt);have hfk:=dB.o.frozen (o0+k);have RO:=iC.o.BV k p hpk;have Od:=qh (Rt p (some ⟨pA k,0,none⟩) (cs1 k) wr.drew (Rd.drewN (j5 RO) 1) hn);have m2:wr.cell? ⟨g,2,none⟩=some (.slice (some ⟨g0,o0,none⟩) N c0):=HB1.o.cell 2;have hgz:=HB1.o.lt;have hne1:g≠g0:=qo;have hne2:g0≠g:=qo;have b1:(0:Int)≤(k:Int):=qo;have b2:(k:Int)<(N:Int):=qo;clear RO hp hpk
   go_wp2_with fail
   go_region_held3 (fun w'=>w'.cell? ⟨g,2,none⟩=some (.slice (some ⟨g0,o0,none⟩) N c0)) (go_keep) ((go_at_call 223;refine Od.o.mono ?_;rintro e w4 h4;obtain⟨A4,c4,rfl,d6,_,JS⟩:=h4.rd;rw[G.aB]at d6 ⊢;obtain⟨g4,c5,PA,hg4,lD⟩:=D5 hn1 d6;injection PA with XD Jz XC;clear Jz;subst XD XC;have hb4:Below wr.heap.size wr w4:=(Below.refl wr.heap.size wr).drew.trans JS;have bS:=qh d6;have HG4:=qh hg4;have oB:=qh (dB.o.below hb4);have aW:=qh (HB1.o.below hb4 hgz);have EA:=qh (jZ.o.fM (hb4.mono jZ.o.size));have m2:=aD hb4 hgz m2;have kc:=aD hb4 hg0 kc;have hfk:=(World.frozen?_of_block (a:=⟨g0,o0+k,none⟩) (hb4.block _ hg0)).trans hfk;clear h4 d6 hb4 JS hg4))
   rename_i hHeld
   clear hHeld m2
   rename World=>w4
   go_wp2_with fail
   go_roundw
   case rel=>exact⟨k+1,_,_,by omega,qg,qh (by
    have h1:=oB.o.put (i:=k) (by rw[QF.o];exact hlt) (eU bS.o (by have:=jZ.o.size;simp;omega)) (fun hx=>by
     have:=(dB.o.lt hx).2;have h5:=HG4.o
     simp at h5
     omega)
    rw[qI.o,QF.o]at h1;exact h1),qh (aW.o.far (by simp;omega) _),qh (EA.o.set (p:=⟨g0,o0+k,none⟩) rfl _)⟩
   case measure=>exact qs
  ·obtain rfl:N=k:=qo
   go_wp2_with fail
   go_end0
   exact⟨rfl,jZ.o,_,pA,cs1,HB1.o,by rw[←KM.o];exact iC.o⟩
theorem dI.pH {n:Nat}{B:Nat}{v:Value}{L:List (G.PM n)}{bs cs:Nat→Nat}{w:World}(h:dI B v L bs cs w){g:Nat}(i:Nat)(hg:g<B)(u:Value):dI B v L bs cs (w.setCell ⟨g,i,none⟩ u):=h.keep fun x hx=>Below.heap_setCell w _ _ x (by have:=(h.lt hx).1;simp;omega)
theorem pG {w:World}{A:Option Addr}{L:List Int}(h:dN w A L){p:Addr}(hp:∀b,Fb A L.length b→b≠p.block)(u:Value):dN (w.setCell p u) A L:=(aS _ _ _).1 _ _ h fun b hb=>Below.heap_setCell w p u b (hp b hb)
theorem Ov {n:Nat}(g:Nat)(P:Int)(v:Value)(L:List (G.PM n))(bs cs:Nat→Nat)(B:Nat)(w:World)(h:dI B v L bs cs w)(hb:aG w g 184 #[.int .i64 n,.int .i64 P,v])(hgB:g<B)(hB:B≤w.heap.size)(hn:n≤1000)(hn2:2≤n)(hl:L.length≤100000)(hs:G.Still L)(hP: -1000000≤P∧P≤1000000):
 Calls Tryz.prog 225 #[.pointer (some ⟨g,0,none⟩)] w (NfP g (P+G.cnt L) (G.strip L) B w):=by
 have HF:=qh h;have lX:=qh hb;have HS:=qh hs;have m0:=qc hb 0 rfl;have hgz:=hb.lt;have iN:=qh (fun W=>I1 n W hn qo);have HID:=qh (fun W=>RM n W hn);clear h hb hs
 go_enter Tryz.func225,Tryz.ntmps225
 go_wp2_with fail
 go_region_held3 (fun w'=>w'.cell? ⟨g,0,none⟩=some (.int .i64 n)) (go_keep)
  (
   first
   |(go_at_call 207;refine(iN.o _).mono ?_;rintro e w4 ⟨A4,c4,rfl,hr4,hb4,hap⟩;have JS:Below w.heap.size w w4:=(Below.refl w.heap.size w).drew.trans hb4;have oB:=qh (HF.o.below JS);have aW:=qh (lX.o.below JS hgz);have HR4:=qh hr4;have HAT:=qh (show∀b,Fb A4 (G.pl (G.del:G.PM n)).length b→b≠g from fun b hb e=>by have h1:=hap _ b hb;simp at h1;omega);clear hap;have zH:=qh JS;have m0:=aD JS hgz m0;clear hb4 JS hr4)
   |(go_at_call 160;refine(HID.o _).mono ?_;rintro e w5 h5;obtain⟨A5,c5,rfl,JN,JL,hb5⟩:=h5.rd;have Oi:=qh (show∀b,Fb A5 (G.pl (G.one:G.PM n)).length b→b≠g from fun b hb e=>by have h1:=(rL JN hb).1;have h2:=zH.o.size;omega);rw[G.aB];clear JN;have iB:=qh (oB.o.below hb5);have lD:=aW.o.lt;have bG:=qh (aW.o.below hb5 lD);have HT5:=qh (Rd.below HR4.o hb5);have HI5:=qh JL;have Wz:=zH.st hb5;have m0:=aD hb5 lD m0;clear h5 JL hb5 oB aW HR4 zH lD))
 rename_i hHeld
 clear hHeld m0 HF lX iN HID
 rename World=>w5
 go_wp2_with fail
 go_loopg [19] L.length (fun gh _ wr=>∃(M:List (G.PM n)) (P1:Int) (v1:Value) (pA cs1:Nat→Nat),gh=M.length∧M.length≤L.length∧Hq (G.Still M)∧Hq (G.strip M=G.strip L)∧Hq (P1+G.cnt M=P+G.cnt L)∧(-1000000≤P1∧P1+M.length≤1000000+L.length)∧Hq (dI B v1 M pA cs1 wr)∧Hq (aG wr g 184 #[.int .i64 n,.int .i64 P1,v1])∧Hq (Fr w wr (fun x=>x=g∨B≤x))∧Hq (dN wr A4 (G.pl (G.del:G.PM n)))∧Hq (dN wr A5 (G.pl (G.one:G.PM n))))
 case atStart=>exact⟨L,P,v,bs,cs,rfl,Nat.le_refl _,HS,qh rfl,qh rfl,by omega,iB,bG,qh (Fr.of_below Wz.o _),HT5,HI5⟩
 case round=>
  clear HS iB bG Wz HT5 HI5;obtain⟨M,P1,v1,pA,cs1,hgh,XL,jR,E9,Ez,hP1,iC,HB1,sJ,HT1,HI1⟩:=hrel
  rcases M with _|⟨p,M⟩
  ·obtain⟨A1,c1,rfl⟩:=iC.o.own.sl
   have agQ:=qh (show P1=P+G.cnt L by have h1:=Ez.o;have h2:(G.cnt ([]:List (G.PM n)))=0:=rfl;rw[h2]at h1;omega);have Tq:=qh (show G.strip L=[]from E9.o.symm.trans rfl);have m2:wr.cell? ⟨g,2,none⟩=some (.slice A1 0 c1):=HB1.o.cell 2
   go_wp2_with fail
   go_loopg [57] 0 (fun gh _ w2=>gh=0∧w2=wr)
   case atStart=>exact⟨rfl,rfl⟩
   case round=>
    obtain⟨_,rfl⟩:=hrel;have e5:decide ((0:Nat)<0)=false:=rfl
    go_wp2_with fail
    go_quiet (fail)
    go_wp2_with fail
    go_end0
    have tE:=qh (iC.o.drewN nq);refine⟨rfl,Fr.fM sJ.o (Below.drewN' (Below.refl _ _) nq),.slice A1 0 c1,pA,cs1,?_,?_⟩
    ·rw[←agQ.o]
     exact HB1.o
    ·rw[Tq.o]
     exact tE.o
  ·obtain⟨gv,ov,cap,rfl,hgv,hBv⟩:=iC.o.form qj
   have dB:=qh (show dI B (.slice (some ⟨gv,ov,none⟩) (M.length+1) cap) (p::M) pA cs1 wr from iC.o);have HB2:=qh (show aG wr g 184 #[.int .i64 n,.int .i64 P1,.slice (some ⟨gv,ov,none⟩) (M.length+1) cap]from HB1.o);have kc:wr.cell? ⟨gv,ov,none⟩=some (.slice (some ⟨pA 0,0,none⟩) n (cs1 0)):=iC.o.cell (j:=0) qj;have hr0:=qh (j5 (iC.o.BV 0 p rfl));have m0:wr.cell? ⟨g,0,none⟩=some (.int .i64 n):=HB2.o.cell 0;have m1:wr.cell? ⟨g,1,none⟩=some (.int .i64 P1):=HB2.o.cell 1;have m2:wr.cell? ⟨g,2,none⟩=some (.slice (some ⟨gv,ov,none⟩) (M.length+1) cap):=HB2.o.cell 2;have f1:=HB2.o.frozen 1;have f2:=HB2.o.frozen 2;have aa7:=HB2.o.lt;have hM2:M.length+1≤100000:=by simp at XL;omega
   obtain⟨m,hm⟩:=qx (M.length);have HM:=qh hm;have abt:m+1≤L.length:=by simp at XL;omega
   have hP2:P1+((m:Int)+1)≤1000000+L.length:=by have h1:=hP1.2;simp at h1;omega
   have Qy:gk=m+1:=by simp at hgh;omega
   rw[←hm]at dB HB2 m2 hM2;clear hm XL iC HB1 hgh;have BR:=G8 (some ⟨pA 0,0,none⟩) A4 (cs1 0) c4 (G.pl p) (G.pl (G.del:G.PM n)) wr hr0.out HT1.o (by rw[G.aB];omega) (by rw[G.aB];omega);rw[G.aB,G.aB]at BR;have b1:(0:Int)<(m:Int)+1:=qo;have b2:(1:Int)<(n:Int):=qo;have b3:(0:Nat)<m+1:=qo
   by_cases hp:p=G.del
   ·subst hp
    rw[decide_eq_true rfl]at BR;have nJ:=qh BR;clear BR;have hpw:IntKind.i64.wrap (P1+1)=P1+1:=IntWalk.i64_in _ qo;obtain⟨hcd,hcn⟩:=G.Sb hn2 M;have Eu:=qh (show G.strip M=G.strip L by rw[←hcd];exact E9.o);have ZP:=qh (show P1+1+G.cnt M=P+G.cnt L by have h1:=Ez.o;rw[hcn]at h1;omega);have zI:=qh jR.o.tail;clear hcd hcn
    by_cases hc1:cap=1
    ·subst hc1
     have hm0:m=0:=by
      have h1:=dB.o.own.2
      rcases h1 with⟨h1,_⟩|⟨_,_,_,_,h1,_,_,h2,_⟩
      ·cases h1
      ·injection h1 with _ h3 h4
       simp at h2
       have:=HM.o;omega
     subst hm0;have M9:M=[]:=List.eq_nil_of_length_eq_zero HM.o.symm;subst M9
     go_wp2_with (go_at_call 202;refine nJ.o.mono ?_;rintro e w6 ⟨rfl,q,rfl⟩)
     go_roundg 0
     case rel=>exact⟨[],P1+1,_,pA,cs1,rfl,Nat.zero_le _,zI,Eu,ZP,by simp;omega,qh ((((dB.o.Bf).drewN q).pH 1 hgB _).pH 2 hgB _),qh (((HB2.o.drewN q).fH 1 _).fH 2 _),qh (((sJ.o.fM (Below.drewN' (Below.refl _ _) q)).set (.inl rfl) _).set (.inl rfl) _),qh (pG (pG (Rd.drewN HT1.o q) (fun b hb=>HAT.o b hb) _) (fun b hb=>HAT.o b hb) _),qh (pG (pG (Rd.drewN HI1.o q) (fun b hb=>Oi.o b hb) _) (fun b hb=>Oi.o b hb) _)⟩
     case measure=>omega
    ·go_wp2_with (go_at_call 202;refine nJ.o.mono ?_;rintro e w6 ⟨rfl,q,rfl⟩)
     go_roundg m
     case rel=>exact⟨M,P1+1,_,_,_,HM.o,by have:=HM.o;omega,zI,Eu,ZP,by have:=HM.o;omega,qh ((((dB.o.tail HM.o.symm hc1).drewN q).pH 1 hgB _).pH 2 hgB _),qh (((HB2.o.drewN q).fH 1 _).fH 2 _),qh (((sJ.o.fM (Below.drewN' (Below.refl _ _) q)).set (.inl rfl) _).set (.inl rfl) _),qh (pG (pG (Rd.drewN HT1.o q) (fun b hb=>HAT.o b hb) _) (fun b hb=>HAT.o b hb) _),qh (pG (pG (Rd.drewN HI1.o q) (fun b hb=>Oi.o b hb) _) (fun b hb=>Oi.o b hb) _)⟩
     case measure=>omega
   ·have Jq:¬(G.pl p=G.pl (G.del:G.PM n)):=fun e=>hp (G.OM e)
    rw[decide_eq_false Jq]at BR;have nJ:=qh BR;clear BR Jq;obtain⟨hcz,hnd⟩:=G.jm jR.o hp;have ZP:=qh (show P1=P+G.cnt L by have h1:=Ez.o;rw[hcz]at h1;omega);have vM:=qh hnd;clear hcz hnd hp;obtain⟨M0,hM0⟩:=qx (p::M);have yN:=qh (show M0.length=m+1 by rw[hM0,List.length_cons,←HM.o]);rw[←hM0]at dB jR E9 vM;clear hM0 HM Ez hP1
    go_wp2_with (go_at_call 202;refine nJ.o.mono ?_;rintro e w6 ⟨rfl,q,rfl⟩)
    have pD:=qh (dB.o.drewN q);have HB3:=qh (HB2.o.drewN q);have RV:=qh (sJ.o.fM (Below.drewN' (Below.refl _ _) q));have HI3:=qh (Rd.drewN HI1.o q);obtain⟨w7,hw7⟩:=qx (wr.drewN q);rw[←hw7]at pD HB3 RV HI3 ⊢;clear hw7 m0 m1 m2 f1 f2 kc hr0 dB HB2 sJ HI1 HT1 nJ
    rename World=>w7
    go_loopg [57] (m+1) (fun gh _ wr=>∃(M:List (G.PM n)) (v1:Value) (pA cs1:Nat→Nat),gh=M.length∧M.length≤L.length∧Hq (G.Still M)∧Hq (G.strip M=G.strip L)∧Hq (∀q∈M,q≠G.del)∧Hq (dI B v1 M pA cs1 wr)∧Hq (aG wr g 184 #[.int .i64 n,.int .i64 P1,v1])∧Hq (Fr w wr (fun x=>x=g∨B≤x))∧Hq (dN wr A5 (G.pl (G.one:G.PM n))))
    case atStart=>exact⟨M0,_,pA,cs1,yN.o.symm,by have:=yN.o;omega,jR,E9,vM,pD,HB3,RV,HI3⟩
    case round=>
     clear jR E9 vM pD HB3 RV HI3 yN;obtain⟨M,v1,pA,cs1,hgh,XL,jR,E9,vM,iC,HB1,sJ,HI1⟩:=hrel
     rcases List.eq_nil_or_concat M with rfl|⟨M,p,rfl⟩
     ·obtain⟨A1,c1,rfl⟩:=iC.o.own.sl
      have Tq:=qh (show G.strip L=[]from E9.o.symm.trans rfl);have m2:wr.cell? ⟨g,2,none⟩=some (.slice A1 0 c1):=HB1.o.cell 2;have e5:decide ((0:Nat)<0)=false:=rfl
      go_wp2_with fail
      go_quiet (fail)
      go_wp2_with fail
      go_end0
      refine⟨rfl,Fr.fM sJ.o (Below.drewN' (Below.refl _ _) nq),.slice A1 0 c1,pA,cs1,?_,?_⟩
      ·rw[←ZP.o]
       exact HB1.o
      ·rw[Tq.o]
       exact iC.o.drewN nq
     ·rw[List.concat_eq_append]at jR E9 vM iC hgh XL
      obtain⟨gv,ov,cap,rfl,hgv,hBv⟩:=iC.o.form qj;have Qy:gk=M.length+1:=by simp at hgh;omega
      have abt:M.length+1≤L.length:=by simp at XL;omega
      have dB:=qh (show dI B (.slice (some ⟨gv,ov,none⟩) (M.length+1) cap) (M++[p]) pA cs1 wr by have h1:=iC.o;rw[List.length_append,List.length_singleton]at h1;exact h1);have HB2:=qh (show aG wr g 184 #[.int .i64 n,.int .i64 P1,.slice (some ⟨gv,ov,none⟩) (M.length+1) cap]by have h1:=HB1.o;rw[List.length_append,List.length_singleton]at h1;exact h1);have kc:wr.cell? ⟨gv,ov+M.length,none⟩=some (.slice (some ⟨pA M.length,0,none⟩) n (cs1 M.length)):=iC.o.cell (j:=M.length) qj;have hr0:=qh (j5 (iC.o.BV M.length p qj));have hc1:M.length+1≤cap:=by
       rcases dB.o.own.2 with⟨h1,_⟩|⟨_,_,_,_,h1,_,_,h2,_⟩
       ·cases h1
       ·injection h1 with _ _ h4
        simp at h2
        omega
      have hc2:cap≤maxLen:=by
       rcases dB.o.own.2 with⟨h1,_⟩|⟨_,_,_,_,h1,_,_,_,h2,_⟩
       ·cases h1
       ·injection h1 with _ _ h4
        omega
      have m2:wr.cell? ⟨g,2,none⟩=some (.slice (some ⟨gv,ov,none⟩) (M.length+1) cap):=HB2.o.cell 2;have f2:=HB2.o.frozen 2;clear iC HB1 hgh XL;obtain⟨m,hm⟩:=qx (M.length);have HM:=qh hm;rw[←hm]at dB HB2 kc hr0 hc1 m2 Qy abt;clear hm;have BR:=fun q=>G8 (some ⟨pA m,0,none⟩) A5 (cs1 m) c5 (G.pl p) (G.pl (G.one:G.PM n)) (wr.drewN q) (Rd.drewN hr0.out q) (Rd.drewN HI1.o q) (by rw[G.aB];omega) (by rw[G.aB];omega)
      simp only[G.aB]at BR
      have b1:(0:Int)<(m:Int)+1:=qo;have b3:decide ((0:Nat)<m+1)=true:=decide_eq_true qo;have b4:decide ((0:Int)<(m:Int)+1)=true:=decide_eq_true qo;have b5:(0:Int)≤(m:Int):=qo;have b6:(m:Int)<(m:Int)+1:=qo
      by_cases hp:p=G.one
      ·subst hp
       simp only[decide_true]at BR
       have nJ:=qh BR;clear BR;have Eu:=qh (show G.strip M=G.strip L by rw[←G.last_one M];exact E9.o);have zI:=qh jR.o.front;have agx:=qh (fun q hq=>vM.o q (List.mem_append_left _ hq))
       go_wp2_with fail
       go_quiet ((go_at_call 202;exact Calls.quiet_of (nJ.o _)))
       obtain⟨w8,hw8⟩:=qx (wr.drewN nq);have pD:=qh (dB.o.drewN nq);have HB3:=qh (HB2.o.drewN nq);have RV:=qh (sJ.o.fM (Below.drewN' (Below.refl _ _) nq));have HI3:=qh (Rd.drewN HI1.o nq);rw[←hw8]at pD HB3 RV HI3 ⊢;clear hw8 m2 f2 kc hr0 dB HB2 sJ HI1 nJ;have m2:w8.cell? ⟨g,2,none⟩=some (.slice (some ⟨gv,ov,none⟩) (m+1) cap):=HB3.o.cell 2;have f2:=HB3.o.frozen 2
       go_wp2_with fail
       go_region
       go_wp2_with fail
       go_roundg m
       case rel=>exact⟨M,_,pA,cs1,HM.o,by have:=HM.o;omega,zI,Eu,agx,qh (((pD.o.front HM.o.symm).pH 2 hgB _).drewN 1),qh (((HB3.o.fH 2 _)).drewN 1),qh ((RV.o.set (.inl rfl) _).fM (Below.drewN' (Below.refl _ _) 1)),qh (Rd.drewN (pG HI3.o (fun b hb=>Oi.o b hb) _) 1)⟩
       case measure=>omega
      ·have Jq:¬(G.pl p=G.pl (G.one:G.PM n)):=fun e=>hp (G.OM e)
       simp only[decide_eq_false Jq]at BR
       have nJ:=qh BR;have agy:=qh (G.Qb jR.o vM.o hp);clear BR Jq hp
       go_wp2_with fail
       go_quiet ((go_at_call 202;exact Calls.quiet_of (nJ.o _)))
       go_wp2_with fail
       go_end0
       refine⟨rfl,Fr.fM sJ.o (Below.drewN' (Below.refl _ _) nq),.slice (some ⟨gv,ov,none⟩) (m+1) cap,pA,cs1,?_,?_⟩
       ·rw[←ZP.o]
        exact HB2.o
       ·rw[←E9.o,agy.o]
        exact dB.o.drewN nq
theorem S2 {n:Nat}(g:Nat)(P:Int)(v:Value)(L:List (G.PM n))(bs cs:Nat→Nat)(B:Nat)(p:G.PM n)(a:Addr)(c:Nat)(w:World)(h:dI B v L bs cs w)(hb:aG w g 184 #[.int .i64 n,.int .i64 P,v])(hgB:g<B)(hB:B≤w.heap.size)(ha:dN w (some a) (G.pl p))(hn:n≤1000)(hn2:2≤n)(hl:L.length≤10000)(hP: -100000≤P∧P≤100000):
 Calls Tryz.prog 208 #[.pointer (some ⟨g,0,none⟩),.slice (some a) n c] w (NfP g (G.nor P (L++[p])).1 (G.nor P (L++[p])).2 B w):=by
 obtain⟨i0,hi,iz,is,ib⟩:=info_parts OZ;obtain⟨A0,c0,rfl⟩:=h.own.sl;have HF:=qh h;have lX:=qh hb;have m2:=qc hb 2 rfl;have hgz:=hb.lt;have XE:=Ei a c (G.pl p) w.drew (Rd.drewN ha 1) (by rw[G.aB];omega);rw[G.aB]at XE;have vT:=qh XE;clear h hb XE ha
 go_enter Tryz.func208,Tryz.ntmps208
 go_wp2_with fail
 refine aY (S:=fun w'=>w'.cell? ⟨g,2,none⟩=some (.slice A0 L.length c0)) _ qj qk qk m2 (fun hHeld=>?_)
 simp only[List.dropLast,List.getLast_cons_cons,List.getLast_singleton,List.length_cons,List.length_nil]
 refine qt 0 hHeld ?_;refine qt 1 hHeld ?_;refine qt 2 hHeld ?_;refine qt 3 hHeld ?_;refine qt 4 hHeld ?_;refine qt 5 hHeld ?_
 simp only[List.getElem_toArray,List.getElem_cons_succ,List.getElem_cons_zero,Act.put,List.setIfInBounds_toArray,List.set_cons_zero,List.set_cons_succ]
 refine wpAnyH_ready (rs:=[6]) qk qj ?_;refine AllReadyH.cons rfl (fun K hK=>?_) AllReadyH.nil
 simp only[List.getElem_toArray,List.getElem_cons_succ,List.getElem_cons_zero]
 go_simp
 refine vT.o.mono ?_;rintro e w3 h3;obtain⟨A3,c3,rfl,ho3,_,hb3⟩:=h3.rd;rw[G.aB]at ho3 ⊢;obtain⟨g3,c4,Ka,hg3,hz3⟩:=D5 qo ho3;injection Ka with PA XD XC;clear XD;subst PA XC;have hb4:Below w.heap.size w w3:=(Below.refl w.heap.size w).drew.trans hb3;have cI:=qh ho3;have HG3:=qh (show w.heap.size≤g3 from hg3);have pD:=qh (HF.o.below hb4);have HB3:=qh (lX.o.below hb4 hgz);have HW3:=qh hb4;have m3:w3.cell? ⟨g,2,none⟩=some (.slice A0 L.length c0):=HB3.o.cell 2;have yA:B≤w3.heap.size:=by have:=hb4.size;omega
 refine hK.out _ _ m3 (fun bT=>?_);clear hK K hHeld m2 h3 ho3 hb3 hb4 hg3;refine wpAnyH_ready (rs:=[7]) qk qj ?_;refine AllReadyH.cons rfl (fun K hK=>?_) AllReadyH.nil
 simp only[List.getElem_toArray,List.getElem_cons_succ,List.getElem_cons_zero]
 go_simp
 refine hK.out _ _ (by go_keep) (fun dK=>?_);clear hK K bT;refine wpAnyH_ready (rs:=[8]) qk qj ?_;refine AllReadyH.cons rfl (fun K hK=>?_) AllReadyH.nil
 simp only[List.getElem_toArray,List.getElem_cons_succ,List.getElem_cons_zero]
 refine ay w3 (by rfl) (.tmp 10) (.tmp 13) _ (by rfl) B 61 i0 _ 24 Tryz.underlying89 hi iz is ib rfl (.slice A0 L.length c0) L.length _ (by rfl) pD.o.own _ 1 1 [.slice (some ⟨g3,0,none⟩) n c3] (by rfl) rfl (by simp[Value.oneCell']) qm qo yA ?_;intro v5 w5 hown5 j9 l0;have agm:=qh hown5;obtain⟨A5,c5,rfl⟩:=hown5.sl;have hgv:¬(Value.slice A0 L.length c0).ownBlock=some g:=fun e=>by have:=(pD.o.own.lt g e).1;omega
 have jS:=qh (show¬yw (.slice A0 L.length c0) L.length bs g3 from fun hx=>by
  have h1:=(HF.o.lt hx).2;have h2:=HG3.o;omega)
 have iB:=qh (pD.o.snoc (eU cI.o (by simp;omega)) jS.o hown5 j9 (by
  rcases l0 with h1|h1
  ·exact .inl h1
  ·exact .inr ⟨_,h1,by omega⟩))
 have bG:=qh (HB3.o.fr j9 hgv);have ZJ:=qh ((Fr.of_below HW3.o (fun x=>x=g∨B≤x)).trans (j9.mono (fun b hb=>.inr (pD.o.own.lt b hb).1)));have m5:w5.cell? ⟨g,2,none⟩=some (.slice A0 L.length c0):=bG.o.cell 2;have f5:=bG.o.frozen 2;refine hK.out _ _ m5 (fun bF=>?_);clear hK K dK m3 hown5 j9 l0 agm jS pD HB3 cI HG3 vT;refine qt 9 bF ?_;refine qt 10 bF ?_
 simp only[List.getElem_toArray,List.getElem_cons_succ,List.getElem_cons_zero,Act.put,List.setIfInBounds_toArray,List.set_cons_zero,List.set_cons_succ]
 refine wpAnyH_done qk ?_ _;refine bZ.of ?_
 go_simp
 clear bF m5 f5;have bE:=qh (bG.o.fH 2 (.slice A5 (L.length+1) c5));have TR:=qh (iB.o.pH 2 hgB (.slice A5 (L.length+1) c5));have Um:=qh (ZJ.o.set (p:=⟨g,2,none⟩) (.inl rfl) (.slice A5 (L.length+1) c5));obtain⟨w6,vX⟩:=qx (w5.setCell ⟨g,2,none⟩ (.slice A5 (L.length+1) c5));rw[←vX]at bE TR Um ⊢;have bE:=qh (show aG w6 g 184 #[.int .i64 n,.int .i64 P,.slice A5 (L.length+1) c5]from bE.o);obtain⟨vG,hbs⟩:∃b,b=(fun j=>if j=L.length then g3 else bs j):=⟨_,rfl⟩;obtain⟨EQ,hcs⟩:∃b,b=(fun j=>if j=L.length then c3 else cs j):=⟨_,rfl⟩;rw[←hbs,←hcs]at TR;obtain⟨M0,hM0⟩:=qx (L++[p]);have I9:=qh (show M0.length=L.length+1 by rw[hM0];simp);have agt:=qh (show G.nor P (L++[p])=(P+(G.cnt (G.nf M0):Nat),G.strip (G.nf M0))by rw[hM0];rfl);rw[←hM0]at TR;clear vX hbs hcs hM0 iB bG ZJ HF lX HW3;obtain⟨N,hN⟩:=qx (L.length+1)
 simp only[←hN]at TR bE I9 ⊢
 have hN1:1≤N:=qo;have M8:N≤10001:=qo;clear hN hl
 go_wp2_with fail
 go_loopg [4,5] (G.mu M0+1) (fun gh b _ wr=>∃(M:List (G.PM n)) (ch:Bool),b=.bool ch∧gh=(if ch then G.mu M+1 else 0)∧Hq (ch=false→G.Still M)∧Hq (G.Steps M0 M)∧Hq (dI B (.slice A5 N c5) M vG EQ wr)∧Hq (aG wr g 184 #[.int .i64 n,.int .i64 P,.slice A5 N c5])∧Hq (Fr w wr (fun x=>x=g∨B≤x)))
 case atStart=>exact⟨M0,true,rfl,rfl,qh (fun h=>by cases h),qh (.refl _),TR,bE,Um⟩
 case round=>
  clear TR bE Um;obtain⟨M1,ch,rfl,hgh,HST,jR,iC,HB1,sJ⟩:=hrel;have gJ:=qh (jR.o.length.trans I9.o)
  cases ch with
  |false=>
   have jS:=qh (G.FU jR.o (HST.o rfl));have Xg:=qh (show G.nor P (L++[p])=(P+(G.cnt M1:Nat),G.strip M1)from by rw[agt.o,jS.o]);have HTI:=qh (Ov g P (.slice A5 N c5) M1 vG EQ B wr iC.o HB1.o hgB (by have:=sJ.o.size;omega) hn hn2 (by have:=gJ.o;omega) (HST.o rfl) qo)
   go_wp2_with fail
   refine HTI.o.mono ?_;rintro e w7 ⟨rfl,JR,v7,bs7,cs7,bM,XA⟩;have Oe:=qh (sJ.o.trans JR);have aR:=qh bM;have RW:=qh XA;clear JR bM XA
   go_wp2_with fail
   go_end0
   refine⟨rfl,Oe.o,v7,bs7,cs7,?_,?_⟩
   ·rw[Xg.o]
    exact aR.o
   ·rw[Xg.o]
    exact RW.o
  |true=>
   have m2:wr.cell? ⟨g,2,none⟩=some (.slice A5 N c5):=HB1.o.cell 2;have Qy:gk=G.mu M1+1:=hgh;clear hgh HST
   go_wp2_with fail
   clear m2
   go_loopg [4,5] (N-1) (fun q b i wr=>∃(k:Nat) (M2:List (G.PM n)) (ch:Bool),k+1≤N∧q=k∧i=.int .i64 ((k:Int)-1)∧b=.bool ch∧Hq (G.Steps M1 M2)∧Hq ((ch=false∧M2=M1∧G.yG M1 k)∨(ch=true∧G.mu M2<G.mu M1))∧Hq (dI B (.slice A5 N c5) M2 vG EQ wr)∧Hq (aG wr g 184 #[.int .i64 n,.int .i64 P,.slice A5 N c5])∧Hq (Fr w wr (fun x=>x=g∨B≤x)))
   case atStart=>exact⟨N-1,M1,false,by omega,rfl,congrArg (Value.int .i64) qo,rfl,qh (.refl _),qh (.inl ⟨rfl,rfl,G.U0 M1 (by have:=gJ.o;omega)⟩),iC,HB1,sJ⟩
   case round=>
    clear iC HB1 sJ;obtain⟨k,M2,ch,hk,hq,rfl,rfl,HS2,j8,dB,HB2,CJ⟩:=hrel;have cT:=qh (HS2.o.length.trans gJ.o)
    by_cases h0:0<k
    ·obtain⟨j,rfl⟩:∃j,k=j+1:=⟨k-1,by omega⟩
     have e1:((j+1:Nat):Int)-1=(j:Int):=qo;rw[e1];obtain⟨p1,hp1⟩:∃p,M2[j]?=some p:=⟨_,List.getElem?_eq_getElem (by have:=cT.o;omega)⟩;obtain⟨q1,hq1⟩:∃p,M2[j+1]?=some p:=⟨_,List.getElem?_eq_getElem (by have:=cT.o;omega)⟩;obtain⟨gv,ov,cap,he,hgv,hBv⟩:=dB.o.form (by have:=cT.o;omega);injection he with e2 e3 e4;clear e3;subst e2 e4;have vv:dI B (.slice (some ⟨gv,ov,none⟩) M2.length c5) M2 vG EQ wr:=by rw[cT.o];exact dB.o
     have kj:=vv.cell (j:=j) (by have:=cT.o;omega);have kj1:=vv.cell (j:=j+1) (by have:=cT.o;omega);have m2:wr.cell? ⟨g,2,none⟩=some (.slice (some ⟨gv,ov,none⟩) N c5):=HB2.o.cell 2;have hbj:=dB.o.lt (.inr ⟨j,by have:=cT.o;omega,rfl⟩);have afL:=dB.o.lt (.inr ⟨j+1,by have:=cT.o;omega,rfl⟩);have hvj:gv≠vG j:=fun e=>dB.o.far j (by have:=cT.o;omega) (congrArg some e);have hvj1:gv≠vG (j+1):=fun e=>dB.o.far (j+1) (by have:=cT.o;omega) (congrArg some e);have aa7:=HB2.o.lt;have hbb:vG j≠vG (j+1):=fun e=>by
      have:=dB.o.inj j (j+1) (by have:=cT.o;omega) (by have:=cT.o;omega) e;omega
     have HW:=qh (Fx p1 q1 B (vG j) (EQ j) (vG (j+1)) (EQ (j+1)) wr.drew hbb (own_drewN (dB.o.BV j p1 hp1) 1) (own_drewN (dB.o.BV (j+1) q1 hq1) 1) hn);have Xe:=qh hp1;have CA:=qh hq1;have b1:(0:Int)≤(j:Int):=qo;have b2:(j:Int)<(N:Int):=qo;have b3:(0:Int)≤(j:Int)+1:=qo;have b4:(j:Int)+1<(N:Int):=qo;clear vv hp1 hq1 hbb
     go_wp2_with fail
     have s1:IntKind.i64.wrap ((j:Int)+1)=(j:Int)+1:=IntWalk.i64_in _ qo
     go_region_held3 (fun w'=>w'.cell? ⟨g,2,none⟩=some (.slice (some ⟨gv,ov,none⟩) N c5)∧w'.cell? ⟨gv,ov+j,none⟩=some (.slice (some ⟨vG j,0,none⟩) n (EQ j))∧w'.cell? ⟨gv,ov+(j+1),none⟩=some (.slice (some ⟨vG (j+1),0,none⟩) n (EQ (j+1)))) (go_keep) ((go_at_call 224;refine HW.o.mono ?_;rintro e w4 ⟨p',q',any,rfl,hx,hany,hmu,hst,abd,hop,hoq⟩;have hfr:Fr wr w4 (fun b=>b=vG j∨b=vG (j+1)):=(Fr.of_below ((Below.refl _ wr).drew) _).trans abd;have m2:w4.cell? ⟨g,2,none⟩=some (.slice (some ⟨gv,ov,none⟩) N c5):=(hfr.cells aa7 qo 2).trans m2;have kj:w4.cell? ⟨gv,ov+j,none⟩=some (.slice (some ⟨vG j,0,none⟩) n (EQ j)):=(hfr.cells hgv qo _).trans kj;have kj1:w4.cell? ⟨gv,ov+(j+1),none⟩=some (.slice (some ⟨vG (j+1),0,none⟩) n (EQ (j+1))):=(hfr.cells hgv qo _).trans kj1;have oB:=qh (dB.o.weighed (i:=j) (by have:=cT.o;omega) hfr hop hoq);have aW:=qh (HB2.o.fr hfr qo);have EA:=qh (CJ.o.trans (hfr.mono (F':=fun x=>x=g∨B≤x) (fun b hb=>by rcases hb with rfl|rfl;exact .inr hbj.1;exact .inr afL.1)));have HX:=qh hx;have adp:=qh hany;have HMU:=qh hmu;have HST:=qh (G.Gq Xe.o CA.o hst);clear hx hany hmu hst abd hop hoq hfr))
     rename_i hHeld
     clear hHeld m2 kj kj1 s1 dB HB2 CJ HW
     rename World=>w4
     rename Bool=>any
     cases any with
     |false=>
      obtain⟨h5,h6⟩:=adp.o rfl;subst h5 h6;have hset:(M2.set j p').set (j+1) q'=M2:=by
       have h7:=Xe.o;have h8:=CA.o
       apply List.ext_getElem?
       intro i;rw[List.getElem?_set,List.length_set,List.getElem?_set];have hlj:j+1<M2.length:=(List.getElem?_eq_some_iff.1 h8).1
       by_cases c1:j+1=i
       ·rw[if_pos c1,if_pos hlj,←c1,h8]
       ·rw[if_neg c1]
        by_cases c2:j=i
        ·rw[if_pos c2,if_pos qo,←c2,h7]
        ·rw[if_neg c2]
      have iB:=qh (show dI B (.slice (some ⟨gv,ov,none⟩) N c5) M2 vG EQ w4 from by have h7:=oB.o;rw[hset]at h7;exact h7);clear hset oB adp HMU HST
      go_wp2_with fail
      go_roundg j
      case rel=>exact⟨j,M2,ch,by omega,rfl,qg,rfl,HS2,qh (by
       rcases j8.o with⟨h1,h2,h3⟩|h
       ·exact .inl ⟨h1,h2,by subst h2;exact G.QV h3 Xe.o CA.o HX.o⟩
       ·exact .inr h),iB,aW,EA⟩
      case measure=>omega
     |true=>
      have iW:=qh (show G.mu ((M2.set j p').set (j+1) q')<G.mu M1 from by
       have h1:=HMU.o rfl
       rcases G.W6 HST.o with h|h
       ·exfalso
        have hlj:j+1<M2.length:=(List.getElem?_eq_some_iff.1 CA.o).1;have h2:((M2.set j p').set (j+1) q')[j]?=some p':=by rw[List.getElem?_set_ne qo,List.getElem?_set_self qo]
        have h3:((M2.set j p').set (j+1) q')[j+1]?=some q':=by rw[List.getElem?_set_self (by rw[List.length_set];omega)]
        rw[h,Xe.o]at h2;rw[h,CA.o]at h3;injection h2 with h2;injection h3 with h3;rw[h2,h3]at h1;exact Nat.lt_irrefl _ h1
       ·rcases j8.o with⟨_,h2,_⟩|⟨_,h2⟩
        ·rw[←h2]
         exact h
        ·exact Nat.lt_trans h h2)
      go_wp2_with fail
      go_roundg j
      case rel=>exact⟨j,_,true,by omega,rfl,qg,rfl,qh (HS2.o.trans HST.o),qh (.inr ⟨rfl,iW.o⟩),oB,aW,EA⟩
      case measure=>omega
    ·obtain rfl:k=0:=qo
     have b1:¬(0:Int)≤((0:Nat):Int)-1:=qo
     go_wp2_with fail
     cases ch with
     |false=>
      go_roundg 0
      case rel=>exact⟨M2,false,rfl,rfl,qh (fun _=>by
       rcases j8.o with⟨_,h2,h3⟩|⟨h1,_⟩
       ·subst h2
        exact G.TY h3
       ·cases h1),qh (jR.o.trans HS2.o),dB,HB2,CJ⟩
      case measure=>omega
     |true=>
      have hmu:G.mu M2<G.mu M1:=by
       rcases j8.o with⟨h1,_⟩|⟨_,h1⟩
       ·cases h1
       ·exact h1
      go_roundg (G.mu M2+1)
      case rel=>exact⟨M2,true,rfl,rfl,qh (fun h=>by cases h),qh (jR.o.trans HS2.o),dB,HB2,CJ⟩
      case measure=>omega
theorem Gs (x:Int)(w:World)(h: -100000≤x∧x≤100000):Calls Tryz.prog 204 #[.int .i64 x] w fun e w'=>e=.returned (.int .i64 x.natAbs)∧w=w':=by
 have s1:IntKind.i64.wrap (-x)= -x:=IntWalk.i64_in _ qo
 by_cases h0:0≤x
 ·have e1:(x.natAbs:Int)=x:=qo
  rw[e1];have b1:(-x:Int)≤x:=qo
  go_enter Tryz.func204,Tryz.ntmps204
  go_wp2
  all_goals go_ret
  all_goals first|exact⟨rfl,rfl⟩|(exact⟨by congr 2;omega,rfl⟩)|(exact⟨congrArg (fun y=>Ending.returned (.int .i64 y)) (Int.max_eq_left qo),rfl⟩)
 ·have e1:(x.natAbs:Int)= -x:=qo
  rw[e1];have b1:¬(-x:Int)≤x:=qo
  go_enter Tryz.func204,Tryz.ntmps204
  go_wp2
  all_goals go_ret
  all_goals first|exact⟨rfl,rfl⟩|(exact⟨by congr 2;omega,rfl⟩)|(exact⟨congrArg (fun y=>Ending.returned (.int .i64 y)) (Int.max_eq_right qo),rfl⟩)
theorem oh {n:Nat}(P:Int)(L:List (G.PM n)):(G.nor P L).1+(G.nor P L).2.length≤P+L.length∧P≤(G.nor P L).1∧(G.nor P L).2.length≤L.length:=by
 have h1:G.cnt (G.nf L)+(G.strip (G.nf L)).length≤(G.nf L).length:=by
  generalize G.nf L=M;unfold G.cnt G.strip
  induction M with
  |nil=>simp
  |cons p M ih=>
   rw[List.filter_cons,List.filter_cons]
   split
   ·rename_i h1
    split
    ·rename_i h2
     simp at h1 h2
     exact absurd h1.2 h2.2
    ·simp only[List.length_cons]
     omega
   ·split
    ·simp only[List.length_cons]
     omega
    ·simp only[List.length_cons]
     omega
 rw[G.SJ]at h1;show P+(G.cnt (G.nf L):Nat)+((G.strip (G.nf L)).length:Nat)≤P+L.length∧P≤P+(G.cnt (G.nf L):Nat)∧(G.strip (G.nf L)).length≤L.length;omega
theorem yg {n:Nat}(P:Int)(F:List (G.PM n)){x:Int}(h:0<x):G.act n (P,F) x=G.nor P (F++[G.sig n x.natAbs]):=if_pos h
theorem yj {n:Nat}(P:Int)(F:List (G.PM n)){x:Int}(h:¬0<x):G.act n (P,F) x=G.nor (P-1) (F.map G.PM.flip++[G.neg n x.natAbs]):=if_neg h
theorem YK {n:Nat}(W:List Int):∀(s:Int×List (G.PM n)) (m:Int),-m≤s.1→s.1+s.2.length≤m→ -(m+W.length)≤(G.acts n s W).1∧(G.acts n s W).1+(G.acts n s W).2.length≤m+W.length:=by
 induction W with
 |nil=>intro s m h1 h2;simp[G.acts];omega
 |cons x W ih=>
  rintro⟨P,F⟩ m h1 h2;have h3: -(m+1)≤(G.act n (P,F) x).1∧(G.act n (P,F) x).1+(G.act n (P,F) x).2.length≤m+1:=by
   simp only at h1 h2
   by_cases hx:0<x
   ·rw[yg P F hx]
    have:=oh P (F++[G.sig n x.natAbs])
    simp only[List.length_append,List.length_singleton]at this
    omega
   ·rw[yj P F hx]
    have:=oh (P-1) (F.map G.PM.flip++[G.neg n x.natAbs])
    simp only[List.length_append,List.length_singleton,List.length_map]at this
    omega
  have:=ih (G.act n (P,F) x) (m+1) h3.1 h3.2;show-(m+((x::W).length:Nat))≤(G.acts n (G.act n (P,F) x) W).1∧(G.acts n (G.act n (P,F) x) W).1+(G.acts n (G.act n (P,F) x) W).2.length≤m+((x::W).length:Nat)
  simp only[List.length_cons]
  omega
theorem Mq {n:Nat}{W:List Int}{k:Nat}(hk:k<W.length)(s:Int×List (G.PM n)):G.acts n s (W.take (k+1))=G.act n (G.acts n s (W.take k)) (W.getD k 0):=by
 rw[List.take_succ_eq_append_getElem hk,G.NZ]
 simp[G.acts,List.getD,hk]
def af4 {n:Nat}(w:World)(s:Int×List (G.PM n))(e:Ending)(w':World):Prop:=∃v bs cs,e=.returned (.agg #[.int .i64 n,.int .i64 s.1,v])∧dI w.heap.size v s.2 bs cs w'∧Below w.heap.size w w'
theorem J3 {n:Nat}(W:List Int)(A:OA)(c:Nat)(w:World)(ha:dN w A W)(h2:2≤n∨W=[])(hn:n≤1000)(hw:G.Word n W)(hl:W.length≤4500):
 Calls Tryz.prog 166 #[.int .i64 n,.slice A W.length c] w (af4 w (G.acts n (0,[]) W)):=by
 have HA:=qh ha;have rA:=qh hw;have HB:=qh (((Below.refl w.heap.size w).alloc ql (.cells #[.int .i64 0,.int .i64 0,.slice none 0 0] 184)).alloc qj (.cells #[.int .i64 n,.int .i64 0,.slice none 0 0] 184));have H0:=qh ((aG.at_ (g':=w.heap.size) w 184 #[.int .i64 0,.int .i64 0,.slice none 0 0] rfl).alloc (.cells #[.int .i64 n,.int .i64 0,.slice none 0 0] 184));have H1:=qh (aG.at_ (g':=w.heap.size+1) (w.alloc (.cells #[.int .i64 0,.int .i64 0,.slice none 0 0] 184)) 184 #[.int .i64 n,.int .i64 0,.slice none 0 0] qj);clear ha hw
 go_enter Tryz.func166,Tryz.ntmps166
 go_wp2_with fail
 go_loopw [13] (fun x wr=>∃(k:Nat) (P:Int) (F:List (G.PM n)) (v:Value) (bs cs:Nat→Nat),k≤W.length∧x=.int .i64 k∧Hq (G.acts n (0,[]) (W.take k)=(P,F))∧Hq (dI (w.heap.size+2) v F bs cs wr)∧Hq (aG wr (w.heap.size+1) 184 #[.int .i64 n,.int .i64 P,v])∧Hq (aG wr w.heap.size 184 #[.int .i64 0,.int .i64 0,.slice none 0 0])∧Hq (Below w.heap.size w wr)) (fun x _=>W.length-(intOf x).toNat)
 case atStart=>exact⟨0,0,[],_,fun _=>0,fun _=>0,Nat.zero_le _,rfl,qh rfl,qh (dI.afh _ _ _ _),H1,H0,HB⟩
 case round=>
  clear H0 H1 HB;obtain⟨k,P,F,v,bs,cs,hk,rfl,HX,HF,HB1,HB0,fJ⟩:=hrel
  by_cases hlt:k<W.length
  ·have hn2:2≤n:=by
    rcases h2 with h|h
    ·exact h
    ·rw[h]at hlt
     simp at hlt
   obtain⟨ga,o,rfl,hg,hr⟩:=HA.o qo;have hc:=aD fJ.o hg (hr k hlt);have cB:=qh (Mq hlt ((0,[]):Int×List (G.PM n)));have hxw:=rA.o (W.getD k 0) (by simp[List.getD,hlt]);have hbd:=YK (W.take k) ((0,[]):Int×List (G.PM n)) 0 qj qj;rw[HX.o,List.length_take,Nat.min_eq_left hk]at hbd
   simp only at hbd
   obtain⟨x,hx⟩:=qx (W.getD k 0);rw[←hx,HX.o]at cB;rw[←hx]at hxw
   simp only[←hx]at hc
   obtain⟨m,hm⟩:=qx (x.natAbs);have hm1:1≤m:=qo;have hm2:m<n:=qo;have Ng:=qh (Gs x wr qo);rw[←hm]at Ng;have Xi:=qh (fun w'=>EI n m w' hn hm1 hm2);have b1:(0:Int)≤(k:Int):=qo;have b2:(k:Int)<(W.length:Int):=qo;clear hr hx
   by_cases hp:0<x
   ·have hxn:¬x<0:=qo
    have cT:=qh (show G.acts n (0,[]) (W.take (k+1))=G.nor P (F++[G.sig n m])by rw[cB.o,yg P F hp,hm]);clear cB hm
    go_wp2_with fail
    refine Ng.o.mono ?_;rintro e w3 ⟨rfl,rfl⟩
    go_wp2_with fail
    refine(Xi.o _).mono ?_;rintro e w4 h4;obtain⟨A4,c4,rfl,d6,hr4,hb4⟩:=h4.rd;rw[G.aB]at d6 ⊢;obtain⟨g4,c5,PA,hg4,lD⟩:=D5 qo d6;injection PA with XD XC Jz;clear XC;subst XD Jz;have hz1:=HB1.o.lt;have hz0:=HB0.o.lt;have oB:=qh (HF.o.below hb4);have sL:=qh (HB1.o.below hb4 hz1);have Fh:=qh (HB0.o.below hb4 hz0);have ZT:=fJ.st hb4;have vI:=qh (S2 (w.heap.size+1) P v F bs cs (w.heap.size+2) (G.sig n m) ⟨g4,0,none⟩ c4 w4 oB.o sL.o qo (by have:=sL.o.lt;omega) hr4 hn hn2 qo qo);clear h4 d6 hr4 hb4
    go_wp2_with fail
    refine vI.o.mono ?_;rintro e w7 ⟨rfl,JR,v7,bs7,cs7,bM,XA⟩;have ZW:=qh bM;have RW:=qh XA;have ZX:=qh (Fh.o.fr JR qo);have Fe:=qh (ZT.o.trans (JR.below (B:=w.heap.size) ZT.o.size (fun b hb=>by omega)));clear JR bM XA vI
    go_wp2_with fail
    go_roundw
    case rel=>exact⟨k+1,_,_,v7,bs7,cs7,by omega,qg,cT,RW,ZW,ZX,Fe⟩
    case measure=>exact qs
   ·have hxn:x<0:=qo
    have cT:=qh (show G.acts n (0,[]) (W.take (k+1))=G.nor (P-1) (F.map G.PM.flip++[G.neg n m])by rw[cB.o,yj P F hp,hm]);have agw:=qh (show(G.del:G.PM n).mul (G.sig n m)=G.neg n m from rfl);clear cB hm
    go_wp2_with fail
    refine Ng.o.mono ?_;rintro e w3 ⟨rfl,rfl⟩
    go_wp2_with fail
    refine(Xi.o _).mono ?_;rintro e w4 h4;obtain⟨A4,c4,rfl,d6,hr4,hb4⟩:=h4.rd;rw[G.aB];have hz1:=HB1.o.lt;have hz0:=HB0.o.lt;have oB:=qh (HF.o.below hb4);have sL:=qh (HB1.o.below hb4 hz1);have Fh:=qh (HB0.o.below hb4 hz0);have ZT:=fJ.st hb4;have HR4:=qh hr4;have ado:=qh (show∀b,Fb A4 (G.pl (G.sig n m)).length b→wr.heap.size≤b from fun b hb=>(rL d6 hb).1);have m1:w4.cell? ⟨w.heap.size+1,1,none⟩=some (.int .i64 P):=sL.o.cell 1;have f1:=sL.o.frozen 1;have s1:IntKind.i64.wrap (P-1)=P-1:=IntWalk.i64_in _ qo;clear h4 d6 hr4 hb4;have iB:=qh (oB.o.pH 1 (g:=w.heap.size+1) qo (.int .i64 (P-1)));have yZ:=qh (show aG (w4.setCell ⟨w.heap.size+1,1,none⟩ (.int .i64 (P-1))) (w.heap.size+1) 184 #[.int .i64 n,.int .i64 (P-1),v]from sL.o.fH 1 (.int .i64 (P-1)));have Uv:=qh (Fh.o.far (p:=⟨w.heap.size+1,1,none⟩) qj (.int .i64 (P-1)));have Fg:=qh (ZT.o.setCell (p:=⟨w.heap.size+1,1,none⟩) qj (.int .i64 (P-1)));have vJ:=qh (pG (p:=⟨w.heap.size+1,1,none⟩) HR4.o (fun b hb e=>by have h1:=ado.o b hb;simp at e;omega) (.int .i64 (P-1)))
    go_wp2_with fail
    obtain⟨w5,lN⟩:=qx (w4.setCell ⟨w.heap.size+1,1,none⟩ (.int .i64 (P-1)));rw[←lN]at iB yZ Uv Fg vJ ⊢;clear lN m1 f1 s1 oB sL Fh ZT HR4;refine(jo (w.heap.size+1) (P-1) v F bs cs (w.heap.size+2) w5 iB.o yZ.o qo (by have:=yZ.o.lt;omega) hn qo qo).mono ?_;rintro e w6 ⟨rfl,vk,v6,vG,EQ,hb6,abf⟩;have Ut:=qh hb6;have ac2:=qh abf;have hv0:∀b,v.ownBlock=some b→w.heap.size+2≤b∧b<wr.heap.size:=fun b hb=>HF.o.own.lt b hb;have Uu:=qh (Uv.o.fr vk (fun e=>by have:=(hv0 _ e).1;omega));have adf:=qh (Fg.o.trans (vk.below (B:=w.heap.size) Fg.o.size (fun b hb=>by have:=(hv0 _ hb).1;omega)));have K8:=qh ((aS _ _ _).fr vJ.o vk (fun b hb e=>by
     have h1:=ado.o b hb;have h2:=(hv0 _ e).2;omega))
    clear vk hb6 abf hv0 iB yZ Uv Fg vJ
    go_wp2_with fail
    refine(I1 n _ hn qo).mono ?_;rintro e w7 ⟨A7,c7,rfl,JK,bM,_⟩;have afr:=Ut.o.lt;have afs:=Uu.o.lt;have RW:=qh (ac2.o.below bM);have ZW:=qh (Ut.o.below bM afr);have ZX:=qh (Uu.o.below bM afs);have Fe:=adf.st bM;have yK:=qh (Rd.below K8.o bM);have HT7:=qh JK;clear JK bM ac2 Ut Uu adf K8
    go_wp2_with fail
    refine(kg G.del (G.sig n m) A7 A4 c7 c4 w7 HT7.o yK.o hn).mono ?_;rintro e w8 h8;obtain⟨A8,c8,rfl,gC,hr8,gY⟩:=h8.rd;rw[agw.o]at gC hr8 ⊢;rw[G.aB]at gC ⊢;obtain⟨g8,c9,he8,hg8,hz8⟩:=D5 qo gC;injection he8 with XD XC Jz;clear XC;subst XD Jz;have afp:=ZW.o.lt;have afq:=ZX.o.lt;have agM:=qh (RW.o.below gY);have adl:=qh (ZW.o.below gY afp);have agV:=qh (ZX.o.below gY afq);have ade:=Fe.st gY;have vI:=qh (S2 (w.heap.size+1) (P-1) v6 (F.map G.PM.flip) vG EQ (w.heap.size+2) (G.neg n m) ⟨g8,0,none⟩ c8 w8 agM.o adl.o qo (by have:=adl.o.lt;omega) hr8 hn hn2 (by rw[List.length_map];omega) qo);clear h8 gC hr8 gY RW ZW ZX Fe yK HT7
    go_wp2_with fail
    refine vI.o.mono ?_;rintro e w9 ⟨rfl,XB,v9,bs9,cs9,oH,abe⟩;have agT:=qh oH;have agL:=qh abe;have agU:=qh (agV.o.fr XB qo);have agR:=qh (ade.o.trans (XB.below (B:=w.heap.size) ade.o.size (fun b hb=>by omega)));clear XB oH abe vI
    go_wp2_with fail
    go_roundw
    case rel=>exact⟨k+1,_,_,v9,bs9,cs9,by omega,qg,cT,agL,agT,agU,agR⟩
    case measure=>exact qs
  ·obtain rfl:W.length=k:=qo
   rw[List.take_length]at HX;obtain⟨A1,c1,rfl⟩:=HF.o.own.sl;have m0:wr.cell? ⟨w.heap.size+1,0,none⟩=some (.int .i64 n):=HB1.o.cell 0;have m1:wr.cell? ⟨w.heap.size+1,1,none⟩=some (.int .i64 P):=HB1.o.cell 1;have m2:wr.cell? ⟨w.heap.size+1,2,none⟩=some (.slice A1 F.length c1):=HB1.o.cell 2;have n0:wr.cell? ⟨w.heap.size,0,none⟩=some (.int .i64 0):=HB0.o.cell 0;have n1:wr.cell? ⟨w.heap.size,1,none⟩=some (.int .i64 0):=HB0.o.cell 1;have n2:wr.cell? ⟨w.heap.size,2,none⟩=some (.slice none 0 0):=HB0.o.cell 2;have g0:=HB0.o.frozen 0;have g1:=HB0.o.frozen 1;have g2:=HB0.o.frozen 2
   go_wp2_with fail
   have KN:=((HB0.o.fH 0 (.int .i64 n)).fH 1 (.int .i64 P)).fH 2 (.slice A1 F.length c1);have pO:=qh (((HF.o.pH 0 (g:=w.heap.size) qo (.int .i64 n)).pH 1 (g:=w.heap.size) qo (.int .i64 P)).pH 2 (g:=w.heap.size) qo (.slice A1 F.length c1));have fW:=qh (((fJ.o.setCell (p:=⟨w.heap.size,0,none⟩) qj (.int .i64 n)).setCell (p:=⟨w.heap.size,1,none⟩) qj (.int .i64 P)).setCell (p:=⟨w.heap.size,2,none⟩) qj (.slice A1 F.length c1));obtain⟨w9,DB⟩:∃w9,w9=(((wr.setCell ⟨w.heap.size,0,none⟩ (.int .i64 n)).setCell ⟨w.heap.size,1,none⟩ (.int .i64 P)).setCell ⟨w.heap.size,2,none⟩ (.slice A1 F.length c1)):=⟨_,rfl⟩;rw[←DB]at KN pO fW ⊢;have k0:=qc KN 0 rfl;have k1:=qc KN 1 rfl;have k2:=qc KN 2 rfl;clear DB KN m0 m1 m2 n0 n1 n2 g0 g1 g2
   (try simp only[Exit.inBlock,Exit.then])
   refine bodyPost_ret (by simp[results,Tryz.results166,go_sem,k0,k1,k2];try rfl) rfl ?_;rw[HX.o];exact⟨_,bs,cs,rfl,pO.o.base qo,fW.o⟩
def qT (s x:Int):Bool:=decide (x≠0)&&aJ x (1-s) (s-1)
def lA (s:Int)(z:Nat→Int):Nat→Bool
 |0=>true
 |k+1=>lA s z k&&qT s (z k)
theorem EH {s:Int}{z:Nat→Int}:∀{n k:Nat},k<n→qT s (z k)=false→lA s z n=false
 |0,k,hk,_=>absurd hk qo
 |n+1,k,hk,h=>by
  rcases Nat.lt_or_ge k n with hlt|hge
  ·simp[lA,EH hlt h]
  ·obtain rfl:k=n:=qo
   simp[lA,h]
def EU (s:Int)(n:Nat)(z:Nat→Int):Bool:=aJ s 0 12&&decide (n≤40)&&lA s z n
theorem yV (n:Int)(w:World):
 Calls Tryz.prog 209 #[.int .i64 n] w fun e w'=>e=.returned (.bool (aJ n 0 12))∧w=w':=by
 go_enter Tryz.func209,Tryz.ntmps209
 go_wp2_with ((go_at_call 58;refine(bX _ _ _ _).mono ?_;rintro e w' ⟨rfl,rfl⟩))
 go_ret
 exact⟨rfl,rfl⟩
theorem J5 (g:Nat)(s x:Int)(w:World)(h0:w.cell? ⟨g,0,none⟩=some (.int .i64 s))(hs0:0≤s)(hs:s≤1000000):
 Calls Tryz.prog 226 #[.int .i64 x,.pointer (some ⟨g,0,none⟩)] w fun e w'=>e=.returned (.bool (!qT s x))∧w=w':=by
 by_cases hz:x=0
 ·subst hz
  go_enter Tryz.func226,Tryz.ntmps226
  go_wp2_with ((go_at_call 58;refine(bX _ _ _ _).mono ?_;rintro e w' ⟨rfl,rfl⟩))
  go_ret
  exact⟨by simp[qT],rfl⟩
 ·have hz':(x==0)=false:=by simpa using hz
  go_enter Tryz.func226,Tryz.ntmps226
  go_wp2_with ((go_at_call 58;refine(bX _ _ _ _).mono ?_;rintro e w' ⟨rfl,rfl⟩))
  all_goals go_ret
  all_goals exact⟨by simp[qT,hz],rfl⟩
def aga (w:World)(b:Bool)(e:Ending)(w':World):Prop:=∃r:Int,e=.returned (.int .i64 r)∧(r= -1∧b=true∨0≤r∧b=false)∧w=w'
theorem RL (g:Nat)(A:OA)(n c:Nat)(s:Int)(z:Nat→Int)(w:World)(h0:w.cell? ⟨g,0,none⟩=some (.int .i64 s))(ha:Rd w A n (fun j=>.int .i64 (z j)))(hn:n≤1048576)(hs0:0≤s)(hs:s≤1000000):
 Calls Tryz.prog 215 #[.slice A n c,.func (.func 226) #[] #[.pointer (some ⟨g,0,none⟩)]] w (aga w (lA s z n)):=by
 have HA:=qh ha;have H0:=qh h0;clear ha h0
 go_enter Tryz.func215,Tryz.ntmps215
 go_wp2_with fail
 go_loop [8] (fun i=>∃k:Nat,k≤n∧i=.int .i64 k∧Hq (lA s z k=true)) (fun i=>n-(intOf i).toNat)
 case atStart=>exact⟨0,Nat.zero_le _,rfl,rfl⟩
 case round=>
  obtain⟨k,hk,rfl,HK⟩:=hrel
  by_cases hlt:k<n
  ·obtain⟨ga,o,rfl,hg,hr⟩:=HA.o qo
   have hc:=hr k hlt;clear hr;obtain⟨x,hx⟩:=qx (z k)
   simp only[←hx]at hc
   have hq:∀b,qT s x=b→qT s (z k)=b:=fun b h=>by rw[←hx];exact h
   have HQ:=qh hq;clear hq hx
   cases hl:qT s x
   ·have HL:=qh hl
    clear hl
    go_wp2_with ((go_at_call 226;refine(J5 g s x _ H0.o hs0 hs).mono ?_;rintro e w' ⟨rfl,rfl⟩;rw[HL.o]))
    go_ret
    exact⟨_,rfl,.inr ⟨by omega,EH hlt (HQ.o false HL.o)⟩,rfl⟩
   ·have HL:=qh hl
    clear hl
    go_wp2_with ((go_at_call 226;refine(J5 g s x _ H0.o hs0 hs).mono ?_;rintro e w' ⟨rfl,rfl⟩;rw[HL.o]))
    go_round
    case rel=>exact⟨k+1,by omega,qg,by unfold Hq;simp only[lA];rw[HK.o,HQ.o true HL.o];rfl⟩
    case measure=>exact qs
  ·obtain rfl:n=k:=qo
   go_wp2
   go_ret
   exact⟨_,rfl,.inl ⟨rfl,HK.o⟩,rfl⟩
theorem IG (g:Nat)(A:OA)(n c:Nat)(s:Int)(z:Nat→Int)(w:World)(h0:w.cell? ⟨g,0,none⟩=some (.int .i64 s))(ha:Rd w A n (fun j=>.int .i64 (z j)))(hn:n≤1048576)(hs0:0≤s)(hs:s≤1000000):
 Calls Tryz.prog 181 #[.slice A n c,.func (.func 226) #[] #[.pointer (some ⟨g,0,none⟩)]] w fun e w'=>e=.returned (.bool (!lA s z n))∧w=w':=by
 go_enter Tryz.func181,Tryz.ntmps181
 go_wp2_with fail
 refine(RL g A n c s z _ h0 ha hn hs0 hs).mono ?_;rintro e w' ⟨r,rfl,h,rfl⟩
 rcases h with⟨rfl,hb⟩|⟨hr,hb⟩
 ·have HB:=qh hb
  clear hb
  go_wp2
  go_ret
  exact⟨by rw[HB.o];rfl,rfl⟩
 ·have HB:=qh hb
  clear hb;have hr':decide (0≤r)=true:=by simpa using hr
  go_wp2
  go_ret
  exact⟨by rw[HB.o];simp,rfl⟩
theorem RS (A:OA)(n c:Nat)(s:Int)(z:Nat→Int)(w:World)(ha:Rd w A n (fun j=>.int .i64 (z j)))(hn:n≤1048576)(hs0:0≤s)(hs:s≤1000000):
 Calls Tryz.prog 210 #[.int .i64 s,.slice A n c] w fun e w'=>e=.returned (.bool (lA s z n))∧Below w.heap.size w w':=by
 go_enter Tryz.func210,Tryz.ntmps210
 go_wp2_with fail
 have hb:Below w.heap.size w (w.alloc (.cells #[.int .i64 s] 2)):=qb;refine(IG w.heap.size A n c s z _ (cV rfl 0) (ha.below hb) hn hs0 hs).mono ?_;rintro e w' ⟨rfl,rfl⟩;have HB:=qh hb;clear hb
 go_wp2_with fail
 go_ret
 exact⟨by simp,HB.o⟩
theorem EC (s:Int)(A:OA)(n c:Nat)(z:Nat→Int)(w:World)(ha:Rd w A n (fun j=>.int .i64 (z j)))(hn:n≤1048576):
 Calls Tryz.prog 167 #[.agg #[.int .i64 s,.slice A n c]] w fun e w'=>e=.returned (.bool (EU s n z))∧Below w.heap.size w w':=by
 have hb:Below w.heap.size w (w.alloc (.cells #[.int .i64 s,.slice A n c] 105)):=qb;have HA:=qh (ha.below hb);have HB:=qh hb;clear ha hb
 cases hin:aJ s 0 12
 ·have rG:=qh hin
  clear hin
  go_enter Tryz.func167,Tryz.ntmps167
  go_wp2_with ((go_at_call 209;refine(yV _ _).mono ?_;rintro e w' ⟨rfl,rfl⟩;rw[rG.o]))
  go_ret
  exact⟨by simp[EU,rG.o],HB.o⟩
 ·have hsb:=Ql hin
  have rG:=qh hin;clear hin
  by_cases hle:n≤40
  ·have hle':decide ((n:Int)≤40)=true:=by simp;omega
   go_enter Tryz.func167,Tryz.ntmps167
   go_wp2_with (first
    |(go_at_call 209;refine(yV _ _).mono ?_;rintro e w' ⟨rfl,rfl⟩;rw[rG.o])
    |(go_at_call 210;refine(RS A n c s z _ HA.o hn hsb.1 qo).mono ?_;rintro e w1 ⟨rfl,hb1⟩;have HB1:=HB.st hb1;clear hb1)
    |fail)
   go_ret
   exact⟨by simp[EU,rG.o,hle],HB1.o⟩
  ·have hle':decide ((n:Int)≤40)=false:=by simp;omega
   go_enter Tryz.func167,Tryz.ntmps167
   go_wp2_with ((go_at_call 209;refine(yV _ _).mono ?_;rintro e w' ⟨rfl,rfl⟩;rw[rG.o]))
   go_ret
   exact⟨by simp[EU,rG.o,hle],HB.o⟩
theorem Y0 (A A':OA)(n c c':Nat)(z:Nat→Int)(w:World)(ha:Rd w A (n*1) (fun j=>.int .i64 (z j)))(hb:Rd w A' (n*1) (fun j=>.int .i64 (z j)))(hn:n≤1000000000):
 Calls Tryz.prog 73 #[.slice A n c,.slice A' n c'] w fun e w'=>e=.returned (.bool true)∧Below w.heap.size w w':=by
 have HA:=qh ha;have HB:=qh hb;clear ha hb
 go_enter Tryz.func73,Tryz.ntmps73
 go_wp2
 go_loopw [5] (fun i wr=>∃k:Nat,k≤n∧i=.int .i64 k∧Below w.heap.size w wr) (fun i _=>n-(intOf i).toNat)
 case atStart=>exact⟨0,Nat.zero_le _,rfl,Below.refl _ _⟩
 case round=>
  obtain⟨k,hk,rfl,hbl⟩:=hrel;have HL:=qh hbl;clear hbl
  by_cases hlt:k<n
  ·obtain⟨g,o,rfl,hg,hc⟩:=HA.o qo
   obtain⟨g',o',rfl,hg',hc'⟩:=HB.o qo;have a0:=((aC HL.o).1 g _ hg).trans (hc (k*1+0) qo);have b0:=((aC HL.o).1 g' _ hg').trans (hc' (k*1+0) qo)
   simp only[←Nat.add_assoc]at a0 b0
   obtain⟨y0,hy0⟩:=qx (z (k*1+0))
   simp only[Nat.mul_one,Nat.add_zero]at a0 b0 hy0
   simp only[←hy0]at a0 b0
   clear hy0 hc hc';have hgr:g<wr.heap.size:=blt HL.o hg;have aa8:g'<wr.heap.size:=blt HL.o hg'
   go_wp2
   go_quiet (fail)
   go_wp2
   go_roundw
   case rel=>exact⟨k+1,by omega,qg,Below.drewN' HL.o nq⟩
   case measure=>exact qs
  ·obtain rfl:k=n:=qo
   go_wp2
   go_ret
   exact⟨rfl,HL.o⟩
def SzP (w:World)(L n:Nat)(e:Ending)(w':World):Prop:=∃r:Int,(r<0∨(n≤L∧r=L-n))∧e=.returned (.int .i64 r)∧w=w'
theorem VC (A:OA)(n c L:Nat)(w:World)(hn:n≤maxLen)(hL:L≤1048576):
 Calls Tryz.prog 43 #[.slice A n c,.int .i64 L] w (SzP w L n):=by
 unfold maxLen at hn
 by_cases hle:n≤L
 ·go_enter Tryz.func43,Tryz.ntmps43
  go_wp2
  go_ret
  exact⟨(L:Int)-n,.inr ⟨hle,rfl⟩,rfl,rfl⟩
 ·go_enter Tryz.func43,Tryz.ntmps43
  go_wp2
  go_ret
  exact⟨-1,.inl qo,rfl,rfl⟩
theorem Dn:(Tryz.prog.info? 2).map (fun i=>(i.zero,i.size,i.bytes))=some (some (.int .i64 0),1,8):=by kernel_rfl
theorem VA (A:OA)(n c:Nat)(z:Nat→Int)(w:World)(ha:Rd w A n (fun j=>.int .i64 (z j)))(hn:n≤1048576):
 Calls Tryz.prog 56 #[.slice A n c] w (Tj w n n (fun j=>.int .i64 (z j))):=by
 have HA:=qh ha;clear ha;obtain⟨i0,hi,hz0,hz1,hz2⟩:=info_parts Dn
 go_enter Tryz.func56,Tryz.ntmps56
 go_wp2_with (at_make;refine wpList_make_full _ rfl _ _ 61 rfl w.heap.size 2 i0 (.int .i64 0) 1 Tryz.underlying61 hi hz0 hz1 .i64 .i64 n n n rfl rfl rfl rfl (by rw[hz2];omega) qm ql ?_;intro w1 hown hg1)
 have hb1:=(Below.refl w.heap.size w).grown hg1 ql (fun k e=>by cases e);have hw1:=eB.lQ hown;have hg1:w.heap.size<w1.heap.size:=(hown.lt _ rfl).2;have HB:=qh hb1;have HW:=qh hw1;clear hb1 hw1 hown
 go_loopw [4] (fun i wr=>∃k:Nat,k≤n∧i=.int .i64 k∧Below w.heap.size w wr∧w.heap.size<wr.heap.size∧eB wr w.heap.size 0 n∧d7 wr w.heap.size 0 k (fun j=>.int .i64 (z j))) (fun i _=>n-(intOf i).toNat)
 case atStart=>exact⟨0,Nat.zero_le _,rfl,HB.o,hg1,by simpa using HW.o,fun j hj=>absurd hj qo⟩
 case round=>
  obtain⟨k,hk,rfl,hb,hgr,hw,hr⟩:=hrel;have HB:=qh hb;have HW:=qh hw;have HR:=qh hr;clear hb hw hr
  by_cases hlt:k<n
  ·obtain⟨g,o,rfl,hg,hra⟩:=HA.o qo
   have hc:=((aC HB.o).1 _ _ hg).trans (hra k hlt);obtain⟨⟨u,hu⟩,hf⟩:=HW.o k hlt;rw[Nat.zero_add]at hu hf;obtain⟨x,hx⟩:=qx (z k)
   simp only[←hx]at hc
   have HX:=qh hx;clear hx hra
   go_wp2
   go_roundw
   case rel=>
    refine⟨k+1,by omega,qg,HB.o.setCell ql _,by simp;exact hgr,HW.o.set _ _,fun j hj=>?_⟩
    by_cases hjk:j=k
    ·subst hjk
     rw[Nat.zero_add];exact(World.cell?_setCell_same _ _ _ hu).trans (by rw[HX.o])
    ·have:=(HR.o.set ql (.int .i64 x)) j qo
     rw[Nat.zero_add]at this;exact this
   case measure=>exact qs
  ·obtain rfl:k=n:=qo
   go_wp2
   go_ret
   exact⟨_,_,rfl,New.J2 HB.o ql hgr HW.o HR.o⟩
def wC (ns:Nat→Nat):Nat→Nat
 |0=>0
 |k+1=>wC ns k+ns k
theorem Gj (ns:Nat→Nat){i j:Nat}(h:i≤j):wC ns i≤wC ns j:=by
 induction j with
 |zero=>
  obtain rfl:i=0:=qo;exact Nat.le_refl _
 |succ j ih=>
  rcases Nat.lt_or_ge j i with hlt|hge
  ·obtain rfl:i=j+1:=qo
   exact Nat.le_refl _
  ·have:=ih hge
   simp only[wC]
   omega
theorem VD (ns:Nat→Nat){j n:Nat}(h:j<n):ns j≤wC ns n:=by
 have:=Gj ns (show j+1≤n by omega)
 simp only[wC]at this
 omega
def Mr (L n:Nat)(ns:Nat→Nat)(r:Int):Prop:=r<0∨(n+wC ns n≤L∧r=(L:Int)-n-wC ns n)
theorem Gi (d c:Int)(A:OA)(n q L:Nat)(w:World)(hn:n≤maxLen)(hL:L≤1048576):
 Calls Tryz.prog 26 #[.agg #[.int .i64 d,.int .i64 c,.slice A n q],.int .i64 L] w
  fun e w'=>∃r:Int,(r= -1∨(n≤L∧r=L-n))∧e=.returned (.int .i64 r)∧Below w.heap.size w w':=by
 go_enter Tryz.func26,Tryz.ntmps26
 go_wp2_with fail
 refine(VC A n q L _ hn hL).mono ?_;rintro e w' ⟨s,hs,rfl,rfl⟩;have HS:=qh hs;clear hs
 by_cases h0:s<0
 ·go_wp2
  go_ret
  exact⟨-1,.inl rfl,rfl,qz⟩
 ·go_wp2
  go_ret
  exact⟨s,.inr (HS.o.resolve_left qo),rfl,qz⟩
theorem Bg (A:OA)(n q L:Nat)(d c:Nat→Int)(As:Nat→OA)(ns cs:Nat→Nat)(z:Nat→Nat→Int)(w:World)(ha:eC A n d c As ns cs z w)(hn:n≤maxLen)(hns:∀j,j<n→ns j≤maxLen)(hL:L≤1048576):
 Calls Tryz.prog 15 #[.slice A n q,.int .i64 L] w fun e w'=>∃r:Int,Mr L n ns r∧e=.returned (.int .i64 r)∧Below w.heap.size w w':=by
 unfold maxLen at hn;have HA:=qh ha;have LA:=qh (cU A n d c As ns cs z);have jY:=qh hns;clear ha hns
 by_cases hbig:n≤L
 ·go_enter Tryz.func15,Tryz.ntmps15
  go_wp2_with fail
  go_loopw [1,5] (fun l i wr=>∃k R:Nat,k≤n∧i=.int .i64 k∧l=.int .i64 R∧Hq (n+wC ns k+R=L)∧R≤L∧Below w.heap.size w wr) (fun _ i _=>n-(intOf i).toNat)
  case atStart=>exact⟨0,L-n,Nat.zero_le _,rfl,qg,by simp[Hq,wC];omega,by omega,Below.refl _ _⟩
  case round=>
   obtain⟨k,R,hk,rfl,rfl,HR,hR,hb⟩:=hrel;have HB:=qh hb
   by_cases hlt:k<n
   ·obtain⟨g,o,rfl,hg,h0,h1,h2⟩:=(LA.out.below HA.o hb).row hlt
    have hx:=jY.o k hlt;obtain⟨x0,hx0⟩:=qx (d k);obtain⟨x1,hx1⟩:=qx (c k)
    simp only[←hx0,←hx1]at h0 h1
    obtain⟨m,hm⟩:=qx (ns k)
    simp only[←hm]at h2 hx
    have HM:=qh hm;clear hx0 hx1 hb hm
    go_wp2_with fail
    refine(Gi x0 x1 (As k) m (cs k) R _ hx qo).mono ?_;rintro e w1 ⟨s,hs,rfl,hb1⟩;have HB1:=HB.st hb1;clear hb1 h0 h1 h2
    rcases hs with rfl|⟨hs1,rfl⟩
    ·go_wp2
     go_ret
     exact⟨-1,.inl qo,rfl,HB1.o⟩
    ·go_wp2
     go_roundw
     case rel=>exact⟨k+1,R-m,by omega,qg,qg,by show _=_;have:=HR.o;have:=HM.o;simp only[wC];omega,by omega,HB1.o⟩
     case measure=>exact qs
   ·obtain rfl:n=k:=qo
    clear hb
    go_wp2
    go_ret
    exact⟨R,.inr (by have:=HR.o;omega),rfl,HB.o⟩
 ·go_enter Tryz.func15,Tryz.ntmps15
  go_wp2
  go_ret
  exact⟨-1,.inl qo,rfl,Below.refl _ _⟩
def adO (w:World)(d c:Int)(n:Nat)(z:Nat→Int)(e:Ending)(w':World):Prop:=
 ∃A q,e=.returned (.agg #[.int .i64 d,.int .i64 c,.slice A n q])∧New w w' A n (fun j=>.int .i64 (z j))
theorem Gc (d c:Int)(A:OA)(n q:Nat)(z:Nat→Int)(w:World)(ha:Rd w A n (fun j=>.int .i64 (z j)))(hn:n≤1048576):
 Calls Tryz.prog 33 #[.agg #[.int .i64 d,.int .i64 c,.slice A n q]] w (adO w d c n z):=by
 have HA:=qh ha;clear ha
 go_enter Tryz.func33,Tryz.ntmps33
 go_wp2_with fail
 refine(VA A n q z _ (HA.o.below (qz)) hn).mono ?_;rintro e w1 ⟨A1,c1,rfl,hnew⟩;obtain⟨hc1,hf1⟩:=aC hnew.bl;have hz1:w.heap.size+1+1<w1.heap.size:=blt hnew.bl qj;have HN:=qh hnew;clear hnew
 go_wp2
 refine bodyPost_ret (v:=.agg #[.int .i64 d,.int .i64 c,.slice A1 n c1]) (by simp[results,Tryz.results33,go_sem,hc1]) rfl ⟨A1,c1,rfl,?_⟩;refine HN.o.after (F:=fun b=>b=w.heap.size+1∨b=w.heap.size+1+1) (qz) (qf) ?_;intro b hb
 simp
 omega
theorem Yy:(Tryz.prog.info? 73).map (fun i=>(i.zero,i.size,i.bytes))=some (some (.agg #[.int .i64 0,.int .i64 0,.slice none 0 0]),3,40):=by kernel_rfl
def adN (w:World)(n:Nat)(d c:Nat→Int)(ns:Nat→Nat)(z:Nat→Nat→Int)(e:Ending)(w':World):Prop:=
 ∃A q As cs,e=.returned (.slice A n q)∧wV w w' (eC A n d c As ns cs z) (yF A n As ns cs) (GQ A n As ns)
theorem Bc (A:OA)(n q:Nat)(d c:Nat→Int)(As:Nat→OA)(ns cs:Nat→Nat)(z:Nat→Nat→Int)(w:World)(ha:eC A n d c As ns cs z w)(hn:n≤1048576)(hns:∀j,j<n→ns j≤1048576):
 Calls Tryz.prog 18 #[.slice A n q] w (adN w n d c ns z):=by
 have HA:=qh ha;have LA:=qh (cU A n d c As ns cs z);have jY:=qh hns;clear ha hns;obtain⟨i0,hi,hz0,hz1,hz2⟩:=info_parts Yy
 go_enter Tryz.func18,Tryz.ntmps18
 go_wp2_with (at_make;refine wpList_make_full _ rfl _ _ 30 rfl w.heap.size 73 i0 (.agg #[.int .i64 0,.int .i64 0,.slice none 0 0]) 3 Tryz.underlying30 hi hz0 hz1 .i64 .i64 n n n rfl rfl rfl rfl (by rw[hz2];omega) qm ql ?_;intro w1 hown hg1)
 have hb1:=(Below.refl w.heap.size w).grown hg1 ql (fun k e=>by cases e);have hw1:=eB.lQ hown;have hg1:w.heap.size<w1.heap.size:=(hown.lt _ rfl).2;have HB:=qh hb1;have HW:=qh hw1;clear hb1 hw1 hown
 go_loopw [4] (fun i wr=>∃(k:Nat) (tI:Nat→OA) (cs':Nat→Nat),k≤n∧i=.int .i64 k∧Below w.heap.size w wr∧AO w.heap.size n k d c tI ns cs' z wr) (fun i _=>n-(intOf i).toNat)
 case atStart=>exact⟨0,As,cs,Nat.zero_le _,rfl,HB.o,⟨hg1,HW.o,fun j hj=>absurd hj qo,fun j hj=>absurd hj qo,fun j hj=>absurd hj qo,fun j b hj=>absurd hj qo,fun i j b _ hj=>absurd hj qo⟩⟩
 case round=>
  obtain⟨k,tI,cs',hk,rfl,hb,hacc⟩:=hrel;have HB:=qh hb;have Uw:=qh hacc;have hgr:=hacc.lt
  by_cases hlt:k<n
  ·obtain⟨g,o,rfl,hg,h0,h1,h2⟩:=(LA.out.below HA.o hb).row hlt
   have HRk:=qh ((LA.out.below HA.o hb).2 k hlt);have hm:=jY.o k hlt;clear hb hacc;obtain⟨x0,hx0⟩:=qx (d k);obtain⟨x1,hx1⟩:=qx (c k)
   simp only[←hx0,←hx1]at h0 h1
   have HX0:=qh hx0;have jE:=qh hx1;clear hx0 hx1
   go_wp2_with fail
   refine(Gc x0 x1 (As k) (ns k) (cs k) (z k) _ HRk.o hm).mono ?_;rintro e w2 ⟨A1,c1,rfl,hnew⟩;have hrw:=Uw.o.rw_.below hnew.bl;obtain⟨⟨u0,hu0⟩,hf0⟩:=hrw (k*3) qo;obtain⟨⟨u1,hu1⟩,hf1⟩:=hrw (k*3+1) qo;obtain⟨⟨u2,hu2⟩,hf2⟩:=hrw (k*3+2) qo;rw[Nat.zero_add]at hu0 hf0 hu1 hf1 hu2 hf2;have Ey:=Uw.o.next (c1:=c1) hlt hnew;rw[←HX0.o,←jE.o]at Ey;have cB:=qh Ey;have HB2:=qh (HB.o.trans (hnew.bl.mono HB.o.size));clear hrw hnew Ey h0 h1 h2
   go_wp2
   go_roundw
   case rel=>exact⟨k+1,_,_,by omega,qg,(((HB2.o.setCell ql _).setCell ql _).setCell ql _),cB.o⟩
   case measure=>exact qs
  ·obtain rfl:n=k:=qo
   clear hb hacc
   go_wp2
   go_ret
   exact⟨_,_,tI,cs',rfl,Uw.o.new HB.o⟩
theorem Ld (d c:Int)(A A':OA)(n q q':Nat)(z:Nat→Int)(w:World)(ha:Rd w A n (fun j=>.int .i64 (z j)))(hb:Rd w A' n (fun j=>.int .i64 (z j)))(hn:n≤1000000000):
 Calls Tryz.prog 41 #[.agg #[.int .i64 d,.int .i64 c,.slice A n q],.agg #[.int .i64 d,.int .i64 c,.slice A' n q']] w fun e w'=>e=.returned (.bool true)∧Below w.heap.size w w':=by
 have HA:=qh ha;have HB:=qh hb;clear ha hb
 go_enter Tryz.func41,Tryz.ntmps41
 go_wp2_with fail
 refine(Y0 A A' n q q' z _ (by simpa using HA.o.below (qz)) (by simpa using HB.o.below (qz)) hn).mono ?_;rintro e w1 ⟨rfl,hb1⟩;have HB1:=qh hb1;clear hb1
 go_wp2_with fail
 go_ret
 exact⟨rfl,(show Below w.heap.size w _ from qz).trans (HB1.o.mono (by simp;omega))⟩
theorem zP31x0 {p:Prop}(h:p:=by
 go_wp2
 go_roundw
 case rel=>exact⟨k+1,by omega,qg,(Below.drewN' HL.o 1).trans (hb1.mono HL.o.size)⟩
 case measure=>exact qs):p:=h
theorem Ee (A A':OA)(n q q':Nat)(d c:Nat→Int)(As tI:Nat→OA)(ns cs cs':Nat→Nat)(z:Nat→Nat→Int)(w:World)(ha:eC A n d c As ns cs z w)(hb:eC A' n d c tI ns cs' z w)(hn:n≤1000000000)(hns:∀j,j<n→ns j≤1000000000):
 Calls Tryz.prog 22 #[.slice A n q,.slice A' n q'] w fun e w'=>e=.returned (.bool true)∧Below w.heap.size w w':=by
 have HA:=qh ha;have HB:=qh hb;have LA:=qh (cU A n d c As ns cs z);have LB:=qh (cU A' n d c tI ns cs' z);have jY:=qh hns;clear ha hb hns
 go_enter Tryz.func22,Tryz.ntmps22
 go_wp2
 go_loopw [5] (fun i wr=>∃k:Nat,k≤n∧i=.int .i64 k∧Below w.heap.size w wr) (fun i _=>n-(intOf i).toNat)
 case atStart=>exact⟨0,Nat.zero_le _,rfl,Below.refl _ _⟩
 case round=>
  obtain⟨k,hk,rfl,hbl⟩:=hrel;have HL:=qh hbl
  by_cases hlt:k<n
  ·obtain⟨g,o,rfl,hg,h0,h1,h2⟩:=(LA.out.below HA.o hbl).row hlt
   obtain⟨g',o',rfl,hg',h0',h1',h2'⟩:=(LB.out.below HB.o hbl).row hlt;have HRk:=qh ((LA.out.below HA.o hbl).2 k hlt);have agj:=qh ((LB.out.below HB.o hbl).2 k hlt);have hm:=jY.o k hlt;clear hbl;obtain⟨x0,hx0⟩:=qx (d k);obtain⟨x1,hx1⟩:=qx (c k)
   simp only[←hx0,←hx1]at h0 h1 h0' h1'
   clear hx0 hx1;have b1:(0:Int)≤(k:Int):=qo;have b2:(k:Int)<(n:Int):=qo
   go_wp2_with fail
   go_region_held3 (fun w'=>w'.cell? ⟨g,o+k*3,none⟩=some (.int .i64 x0)∧w'.cell? ⟨g',o'+k*3,none⟩=some (.int .i64 x0)∧w'.cell? ⟨g,o+k*3+1,none⟩=some (.int .i64 x1)∧w'.cell? ⟨g',o'+k*3+1,none⟩=some (.int .i64 x1)∧w'.cell? ⟨g,o+k*3+2,none⟩=some (.slice (As k) (ns k) (cs k))∧w'.cell? ⟨g',o'+k*3+2,none⟩=some (.slice (tI k) (ns k) (cs' k))) (go_keep)
    (first|(go_at_call 41;refine(Ld x0 x1 (As k) (tI k) (ns k) (cs k) (cs' k) (z k) _ (HRk.o.drewN 1) (agj.o.drewN 1) hm).mono ?_;rintro e w1 ⟨rfl,hb1⟩;have kb:=aC hb1;have k0:=(kb.1 g (o+k*3) hg).trans h0;have k0':=(kb.1 g' (o'+k*3) hg').trans h0';have k1:=(kb.1 g (o+k*3+1) hg).trans h1;have k1':=(kb.1 g' (o'+k*3+1) hg').trans h1';have k2:=(kb.1 g (o+k*3+2) hg).trans h2;have k2':=(kb.1 g' (o'+k*3+2) hg').trans h2';clear kb))
   exact zP31x0
  ·obtain rfl:k=n:=qo
   clear hbl
   go_wp2
   go_ret
   exact⟨rfl,HL.o⟩
theorem Loc.IY {P:World→Prop}{F:Nat→Prop}{w:World}(h:Loc P F)(hp:P w){p:Addr}(hne:∀g,F g→g≠p.block)(v:Value):P (w.setCell p v):=
 h.1 w _ hp fun g hg=>Below.heap_setCell w p v g (hne g hg)
theorem yF.marked {A:Option Addr}{n:Nat}{As:Nat→Option Addr}{ns cs:Nat→Nat}{w w1:World}(h:yF A n As ns cs w){q:Nat}(hq:q<n){r:Int}{f:Nat→Value}{e:Ending}(hm:vH w (As q) (ns q) r f e w1):
 yF A n As ns cs w1:=by
 have hf:Fr w w1 (Fb (As q) (ns q)):=(hm.obj (h.2.2.1 q hq)).fr;refine⟨(mF A (n*3)).fr h.1 hf (fun b hb hb'=>h.2.2.2.1 q b hq hb' hb),fun j hj=>?_,fun j hj=>?_,h.2.2.2.1,h.2.2.2.2⟩
 ·obtain⟨g,o,e,hc⟩:=h.2.1 j hj
  refine⟨g,o,e,?_⟩;have hg:g<w.heap.size:=World.block_lt_of_cell? w _ hc;exact(World.cell?_of_block (w:=w) (a:=⟨g,o+(j*3+2),none⟩) (hf.block g hg fun hb=>h.2.2.2.1 q g hq hb ⟨by omega,_,e,rfl⟩)).trans hc
 ·by_cases hjq:j=q
  ·subst hjq
   intro hN;obtain⟨g,o,e,_⟩:=h.2.2.1 j hj hN;exact⟨g,o,e,(hm.2.2.2 g o e hN).2.1⟩
  ·refine(mF _ _).fr (h.2.2.1 j hj) hf fun b hb hb'=>?_
   rcases Nat.lt_or_ge j q with h1|h1
   ·exact h.2.2.2.2 j q b h1 hq hb hb'
   ·exact h.2.2.2.2 q j b qo hj hb' hb
theorem LK (aA:Int)(A:OA)(n q L:Nat)(d c:Nat→Int)(As:Nat→OA)(ns cs:Nat→Nat)(z:Nat→Nat→Int)(w:World)(ha:eC A n d c As ns cs z w)(hn:n≤maxLen)(hns:∀j,j<n→ns j≤maxLen)(hL:L≤1048576):
 Calls Tryz.prog 5 #[.agg #[.int .i64 aA,.slice A n q],.int .i64 L] w fun e w'=>∃r:Int,Mr L n ns r∧e=.returned (.int .i64 r)∧Below w.heap.size w w':=by
 have HA:=qh ha;have LA:=qh (cU A n d c As ns cs z);have jY:=qh hns;clear ha hns
 go_enter Tryz.func5,Tryz.ntmps5
 go_wp2_with fail
 refine(Bg A n q L d c As ns cs z _ (LA.out.below HA.o (qz)) hn jY.o hL).mono ?_;rintro e w1 ⟨r1,hr1,rfl,hb1⟩;have HR1:=qh hr1;have HB1:=qh (show Below w.heap.size w w1 from qz);clear hr1 hb1
 by_cases h1:r1<0
 ·go_wp2
  go_ret
  exact⟨-1,.inl qo,rfl,HB1.o⟩
 ·go_wp2
  go_ret
  exact⟨r1,HR1.o,rfl,HB1.o⟩
def ads (w:World)(aA:Int)(n:Nat)(d c:Nat→Int)(ns:Nat→Nat)(z:Nat→Nat→Int)(e:Ending)(w':World):Prop:=
 ∃A q As cs,e=.returned (.agg #[.int .i64 aA,.slice A n q])∧wV w w' (eC A n d c As ns cs z) (yF A n As ns cs) (GQ A n As ns)
theorem pE (aA:Int)(A:OA)(n q:Nat)(d c:Nat→Int)(As:Nat→OA)(ns cs:Nat→Nat)(z:Nat→Nat→Int)(w:World)(ha:eC A n d c As ns cs z w)(hn:n≤1048576)(hns:∀j,j<n→ns j≤1048576):
 Calls Tryz.prog 8 #[.agg #[.int .i64 aA,.slice A n q]] w (ads w aA n d c ns z):=by
 have HA:=qh ha;have LA:=qh (cU A n d c As ns cs z);have jY:=qh hns;clear ha hns
 go_enter Tryz.func8,Tryz.ntmps8
 go_wp2_with fail
 refine(Bc A n q d c As ns cs z _ (LA.out.below HA.o (qz)) hn jY.o).mono ?_;rintro e w1 ⟨A1,q1,tH,cs1,rfl,hn1⟩;have hb1:=hn1.bl;obtain⟨hc1,hf1⟩:=aC hb1;have hz1:w.heap.size+1+1<w1.heap.size:=blt hb1 qj;have LO1:=qh (hn1.lo (k:=w.heap.size+3) (by first|(simp;done)|(simp;omega)|omega));have gJ:=qh hn1;have HB1:=qh (show Below w.heap.size w w1 from qz);clear hn1 hb1
 go_wp2
 refine bodyPost_ret (v:=.agg #[.int .i64 aA,.slice A1 n q1]) (by simp[results,Tryz.results8,go_sem,hc1]) rfl ⟨A1,q1,tH,cs1,rfl,?_⟩;have hR:∀wF,Fr w1 wF (fun g=>g=w.heap.size+1∨g=w.heap.size+1+1)→Below w.heap.size w wF→wV w wF (eC A1 n d c tH ns cs1 z) (yF A1 n tH ns cs1) (GQ A1 n tH ns):=by
  intro wF hf hb;have hd:∀g,GQ A1 n tH ns g→¬(g=w.heap.size+1∨g=w.heap.size+1+1):=fun g hg h2=>by have:=LO1.out g hg;omega
  exact⟨hb,fun g hg=>by have:=LO1.out g hg;omega,gJ.o.or.fr gJ.o.r hf hd,gJ.o.ow.fr gJ.o.w hf hd,gJ.o.or,gJ.o.ow⟩
 have hb1:=HB1.o;exact hR _ (qf) (qz)
theorem MC (aA:Int)(A A':OA)(n q q':Nat)(d c:Nat→Int)(As tI:Nat→OA)(ns cs cs':Nat→Nat)(z:Nat→Nat→Int)(w:World)(ha:eC A n d c As ns cs z w)(hb:eC A' n d c tI ns cs' z w)(hn:n≤1000000000)(hns:∀j,j<n→ns j≤1000000000):
 Calls Tryz.prog 11 #[.agg #[.int .i64 aA,.slice A n q],.agg #[.int .i64 aA,.slice A' n q']] w fun e w'=>e=.returned (.bool true)∧Below w.heap.size w w':=by
 have HA:=qh ha;have HA':=qh hb;have LA:=qh (cU A n d c As ns cs z);have LA':=qh (cU A' n d c tI ns cs' z);have jY:=qh hns;clear ha hb hns
 go_enter Tryz.func11,Tryz.ntmps11
 go_wp2_with fail
 refine(Ee A A' n q q' d c As tI ns cs cs' z _ (LA.out.below HA.o (qz)) (LA'.out.below HA'.o (qz)) hn jY.o).mono ?_;rintro e w1 ⟨rfl,hb1⟩;have HB1:=qh (show Below w.heap.size w w1 from qz);clear hb1
 go_wp2_with fail
 go_ret
 exact⟨rfl,HB1.o⟩
theorem IK (z0 z1:Int)(w:World):
 Calls Tryz.prog 34 #[.agg #[.int .i64 z0,.int .i64 z1]] w fun e w'=>e=.returned (.agg #[.int .i64 z0,.int .i64 z1])∧Below w.heap.size w w':=by
 go_enter Tryz.func34,Tryz.ntmps34
 go_wp2
 refine bodyPost_ret (v:=.agg #[.int .i64 z0,.int .i64 z1]) (by simp[results,Tryz.results34,go_sem]) rfl ⟨rfl,?_⟩;exact qz
theorem S4 (A:OA)(n c L:Nat)(w:World)(hn:n≤maxLen)(hL:L≤1048576):
 Calls Tryz.prog 6 #[.slice A n c,.int .i64 L] w fun e w'=>∃r:Int,(r<0∨(n≤L∧r=L-n))∧e=.returned (.int .i64 r)∧w=w':=by
 unfold maxLen at hn
 by_cases hle:n≤L
 ·go_enter Tryz.func6,Tryz.ntmps6
  go_wp2
  go_ret
  exact⟨(L:Int)-n,.inr ⟨hle,rfl⟩,rfl,rfl⟩
 ·go_enter Tryz.func6,Tryz.ntmps6
  go_wp2
  go_ret
  exact⟨-1,.inl qo,rfl,rfl⟩
theorem Ou (z0 z1 z2 z3 z4 z5 z6 z7:Int)(w:World):
 Calls Tryz.prog 19 #[.agg #[.int .i64 z0,.int .i64 z1,.int .i64 z2,.int .i64 z3,.int .i64 z4,.int .i64 z5,.int .i64 z6,.int .i64 z7]] w fun e w'=>e=.returned (.agg #[.int .i64 z0,.int .i64 z1,.int .i64 z2,.int .i64 z3,.int .i64 z4,.int .i64 z5,.int .i64 z6,.int .i64 z7])∧Below w.heap.size w w':=by
 go_enter Tryz.func19,Tryz.ntmps19
 go_wp2_with fail
 refine(IK z2 z3 _).mono ?_;rintro e w1 ⟨rfl,hb1⟩;have A1:=qh (aG.below (((aG.at_ w 55 #[.int .i64 z0,.int .i64 z1,.int .i64 z2,.int .i64 z3,.int .i64 z4,.int .i64 z5,.int .i64 z6,.int .i64 z7] rfl).alloc _).alloc _) hb1 (by first|(simp;done)|(simp;omega)|omega));have B1:=qh (aG.below ((aG.at_ (g':=w.heap.size+1) _ 51 #[.int .i64 0,.int .i64 0,.int .i64 0,.int .i64 0,.int .i64 0,.int .i64 0,.int .i64 0,.int .i64 0] qj).alloc _) hb1 (by first|(simp;done)|(simp;omega)|omega));have C1:=qh (aG.below (aG.at_ (g':=w.heap.size+1+1) _ 51 #[.int .i64 z0,.int .i64 z1,.int .i64 0,.int .i64 0,.int .i64 0,.int .i64 0,.int .i64 0,.int .i64 0] qj) hb1 (by first|(simp;done)|(simp;omega)|omega));have hz1:w.heap.size+1+1<w1.heap.size:=blt hb1 qj;have HB1:=qh hb1;have x1:=fun o=>A1.out.cell o;have z1':=fun o=>C1.out.cell o;have z1f:=fun o=>C1.out.frozen o;clear hb1
 go_wp2_with fail
 refine(IK z4 z5 _).mono ?_;rintro e w2 ⟨rfl,hb2⟩;have A2:=qh (aG.below ((A1.out.far (p:=⟨w.heap.size+1+1,2,none⟩) (by simp;omega) _).far (p:=⟨w.heap.size+1+1,3,none⟩) (by simp;omega) _) hb2 (by first|(simp;done)|(simp;omega)|omega));have B2:=qh (aG.below ((B1.out.far (p:=⟨w.heap.size+1+1,2,none⟩) qj _).far (p:=⟨w.heap.size+1+1,3,none⟩) qj _) hb2 (by first|(simp;done)|(simp;omega)|omega));have C2:=qh (aG.below ((C1.out.fH 2 _).fH 3 _) hb2 (by first|(simp;done)|(simp;omega)|omega));have HB2:=qh hb2;have x2:=fun o=>A2.out.cell o;have y2f:=fun o=>B2.out.frozen o;have z2':=fun o=>C2.out.cell o;have z2f:=fun o=>C2.out.frozen o;have y2:=fun o=>B2.out.cell o;clear hb2 x1 z1' z1f
 go_wp2
 refine bodyPost_ret (v:=.agg #[.int .i64 z0,.int .i64 z1,.int .i64 z2,.int .i64 z3,.int .i64 z4,.int .i64 z5,.int .i64 z6,.int .i64 z7]) (by simp[results,Tryz.results19,go_sem,y2]) rfl ⟨rfl,?_⟩;have hb1:=HB1.o;have hb2:=HB2.o;exact qz
theorem Yz:(Tryz.prog.info? 51).map (fun i=>(i.zero,i.size,i.bytes))=some (some (.agg #[.int .i64 0,.int .i64 0,.int .i64 0,.int .i64 0,.int .i64 0,.int .i64 0,.int .i64 0,.int .i64 0]),8,64):=by kernel_rfl
def adP (w:World)(n N:Nat)(f:Nat→Value)(e:Ending)(w':World):Prop:=∃A c,e=.returned (.slice A n c)∧n≤c∧New w w' A N f
theorem Bd (A:OA)(n c:Nat)(z:Nat→Int)(w:World)(ha:Rd w A (n*8) (fun j=>.int .i64 (z j)))(hn:n≤1048576):
 Calls Tryz.prog 9 #[.slice A n c] w (adP w n (n*8) (fun j=>.int .i64 (z j))):=by
 have HA:=qh ha;clear ha;obtain⟨i0,hi,hz0,hz1,hz2⟩:=info_parts Yz
 go_enter Tryz.func9,Tryz.ntmps9
 go_wp2_with (at_make;refine wpList_make_full _ rfl _ _ 34 rfl w.heap.size 51 i0 (.agg #[.int .i64 0,.int .i64 0,.int .i64 0,.int .i64 0,.int .i64 0,.int .i64 0,.int .i64 0,.int .i64 0]) 8 Tryz.underlying34 hi hz0 hz1 .i64 .i64 n n n rfl rfl rfl rfl (by rw[hz2];omega) qm ql ?_;intro w1 hown hg1)
 have hb1:=(Below.refl w.heap.size w).grown hg1 ql (fun k e=>by cases e);have hw1:=eB.lQ hown;have hg1:w.heap.size<w1.heap.size:=(hown.lt _ rfl).2;have HB:=qh hb1;have HW:=qh hw1;clear hb1 hw1 hown
 go_loopw [4] (fun i wr=>∃k:Nat,k≤n∧i=.int .i64 k∧Below w.heap.size w wr∧w.heap.size<wr.heap.size∧eB wr w.heap.size 0 (n*8)∧d7 wr w.heap.size 0 (k*8) (fun j=>.int .i64 (z j))) (fun i _=>n-(intOf i).toNat)
 case atStart=>exact⟨0,Nat.zero_le _,rfl,HB.o,hg1,HW.o,fun j hj=>absurd hj qo⟩
 case round=>
  obtain⟨k,hk,rfl,hb,hgr,hw,hr⟩:=hrel;have HB:=qh hb;have HW:=qh hw;have HR:=qh hr;clear hb hw hr
  by_cases hlt:k<n
  ·obtain⟨g,o,rfl,hg,hra⟩:=HA.o qo
   have hc0:=((aC HB.o).1 _ _ hg).trans (hra (k*8+0) qo);obtain⟨x0,hx0⟩:=qx (z (k*8))
   simp only[←hx0,Nat.add_zero]at hc0
   have HX0:=qh hx0;clear hx0;have hc1:=((aC HB.o).1 _ _ hg).trans (hra (k*8+1) qo);obtain⟨x1,hx1⟩:=qx (z (k*8+1))
   simp only[←hx1,←Nat.add_assoc]at hc1
   have jE:=qh hx1;clear hx1;have hc2:=((aC HB.o).1 _ _ hg).trans (hra (k*8+2) qo);obtain⟨x2,hx2⟩:=qx (z (k*8+2))
   simp only[←hx2,←Nat.add_assoc]at hc2
   have dP:=qh hx2;clear hx2;have hc3:=((aC HB.o).1 _ _ hg).trans (hra (k*8+3) qo);obtain⟨x3,hx3⟩:=qx (z (k*8+3))
   simp only[←hx3,←Nat.add_assoc]at hc3
   have HX3:=qh hx3;clear hx3;have hc4:=((aC HB.o).1 _ _ hg).trans (hra (k*8+4) qo);obtain⟨x4,hx4⟩:=qx (z (k*8+4))
   simp only[←hx4,←Nat.add_assoc]at hc4
   have HX4:=qh hx4;clear hx4;have rM:=((aC HB.o).1 _ _ hg).trans (hra (k*8+5) qo);obtain⟨x5,hx5⟩:=qx (z (k*8+5))
   simp only[←hx5,←Nat.add_assoc]at rM
   have HX5:=qh hx5;clear hx5;have hc6:=((aC HB.o).1 _ _ hg).trans (hra (k*8+6) qo);obtain⟨x6,hx6⟩:=qx (z (k*8+6))
   simp only[←hx6,←Nat.add_assoc]at hc6
   have YS:=qh hx6;clear hx6;have Wd:=((aC HB.o).1 _ _ hg).trans (hra (k*8+7) qo);obtain⟨x7,hx7⟩:=qx (z (k*8+7))
   simp only[←hx7,←Nat.add_assoc]at Wd
   have HX7:=qh hx7;clear hx7;clear hra
   go_wp2_with fail
   refine(Ou x0 x1 x2 x3 x4 x5 x6 x7 _).mono ?_;rintro e w2 ⟨rfl,hb2⟩;have hw2:=HW.o.below (hb2.mono ql);have HR2:=qh (HR.o.below hgr hb2);have HB2:=HB.st hb2;have afC:w.heap.size<w2.heap.size:=blt hb2 hgr;obtain⟨⟨u0,hu0⟩,hf0⟩:=hw2 (k*8+0) qo
   simp only[Nat.zero_add,Nat.add_zero]at hu0 hf0
   obtain⟨⟨u1,hu1⟩,hf1⟩:=hw2 (k*8+1) qo
   simp only[Nat.zero_add]at hu1 hf1
   obtain⟨⟨u2,hu2⟩,hf2⟩:=hw2 (k*8+2) qo
   simp only[Nat.zero_add]at hu2 hf2
   obtain⟨⟨u3,hu3⟩,hf3⟩:=hw2 (k*8+3) qo
   simp only[Nat.zero_add]at hu3 hf3
   obtain⟨⟨u4,hu4⟩,lT⟩:=hw2 (k*8+4) qo
   simp only[Nat.zero_add]at hu4 lT
   obtain⟨⟨u5,hu5⟩,hf5⟩:=hw2 (k*8+5) qo
   simp only[Nat.zero_add]at hu5 hf5
   obtain⟨⟨u6,hu6⟩,vk⟩:=hw2 (k*8+6) qo
   simp only[Nat.zero_add]at hu6 vk
   obtain⟨⟨u7,hu7⟩,JR⟩:=hw2 (k*8+7) qo
   simp only[Nat.zero_add]at hu7 JR
   have HW2:=qh hw2;clear hw2 hb2 hc0 hc1 hc2 hc3 hc4 rM hc6 Wd
   go_wp2
   go_roundw
   case rel=>
    refine⟨k+1,by omega,qg,by exact((((((((HB2.o.setCell ql _).setCell ql _).setCell ql _).setCell ql _).setCell ql _).setCell ql _).setCell ql _).setCell ql _),by simp[World.setCell];exact afC,by exact((((((((HW2.o.set _ _).set _ _).set _ _).set _ _).set _ _).set _ _).set _ _).set _ _),?_⟩;have h0:=HR2.o;have h1:=h0.step (a:=k*8+0) (u:=.int .i64 x0) (HW2.o) qo qo (by rw[HX0.o]);have h2:=h1.step (a:=k*8+1) (u:=.int .i64 x1) ((HW2.o.set _ _)) qo qo (by rw[jE.o]);have h3:=h2.step (a:=k*8+2) (u:=.int .i64 x2) (((HW2.o.set _ _).set _ _)) qo qo (by rw[dP.o]);have h4:=h3.step (a:=k*8+3) (u:=.int .i64 x3) ((((HW2.o.set _ _).set _ _).set _ _)) qo qo (by rw[HX3.o]);have h5:=h4.step (a:=k*8+4) (u:=.int .i64 x4) (((((HW2.o.set _ _).set _ _).set _ _).set _ _)) qo qo (by rw[HX4.o]);have h6:=h5.step (a:=k*8+5) (u:=.int .i64 x5) ((((((HW2.o.set _ _).set _ _).set _ _).set _ _).set _ _)) qo qo (by rw[HX5.o]);have h7:=h6.step (a:=k*8+6) (u:=.int .i64 x6) (((((((HW2.o.set _ _).set _ _).set _ _).set _ _).set _ _).set _ _)) qo qo (by rw[YS.o]);have h8:=h7.step (a:=k*8+7) (u:=.int .i64 x7) ((((((((HW2.o.set _ _).set _ _).set _ _).set _ _).set _ _).set _ _).set _ _)) qo qo (by rw[HX7.o]);exact d7.cast qo h8
   case measure=>exact qs
  ·obtain rfl:k=n:=qo
   go_wp2
   go_ret
   exact⟨_,_,rfl,Nat.le_refl _,New.J2 HB.o ql hgr HW.o HR.o⟩
theorem sO (A:OA)(n c:Nat)(z:Nat→Int)(w:World)(ha:Rd w A (n*8) (fun j=>.int .i64 (z j)))(hn:n≤1048576):
 Calls Tryz.prog 9 #[.slice A n c] w (Tj w n (n*8) (fun j=>.int .i64 (z j))):=
 (Bd A n c z w ha hn).mono fun _ _ ⟨A,c,he,_,hp⟩=>⟨A,c,he,hp⟩
theorem Loc.set {P:World→Prop}{F:Nat→Prop}{w:World}(h:Loc P F)(hp:P w){p:Addr}(hne:∀g,F g→g≠p.block)(v:Value):P (w.setCell p v):=
 h.1 w _ hp fun g hg=>Below.heap_setCell w p v g (hne g hg)
theorem JW (x y:Int)(w:World):
 Calls Tryz.prog 42 #[.agg #[.int .i64 x,.int .i64 y],.agg #[.int .i64 x,.int .i64 y]] w fun e w'=>e=.returned (.bool true)∧Below w.heap.size w w':=by
 go_enter Tryz.func42,Tryz.ntmps42
 go_wp2
 go_ret
 exact⟨rfl,qz⟩
theorem Rw (z0 z1 z2 z3 z4 z5 z6 z7:Int)(w:World):
 Calls Tryz.prog 23 #[.agg #[.int .i64 z0,.int .i64 z1,.int .i64 z2,.int .i64 z3,.int .i64 z4,.int .i64 z5,.int .i64 z6,.int .i64 z7],.agg #[.int .i64 z0,.int .i64 z1,.int .i64 z2,.int .i64 z3,.int .i64 z4,.int .i64 z5,.int .i64 z6,.int .i64 z7]] w fun e w'=>e=.returned (.bool true)∧Below w.heap.size w w':=by
 go_enter Tryz.func23,Tryz.ntmps23
 have hL:Below w.heap.size w ((w.alloc (.cells #[.int .i64 z0,.int .i64 z1,.int .i64 z2,.int .i64 z3,.int .i64 z4,.int .i64 z5,.int .i64 z6,.int .i64 z7] 51)).alloc (.cells #[.int .i64 z0,.int .i64 z1,.int .i64 z2,.int .i64 z3,.int .i64 z4,.int .i64 z5,.int .i64 z6,.int .i64 z7] 51)):=(qb).alloc qj _;have HL:=qh hL;have X:=qh (kN w #[.int .i64 z0,.int .i64 z1,.int .i64 z2,.int .i64 z3,.int .i64 z4,.int .i64 z5,.int .i64 z6,.int .i64 z7] 51);clear hL
 go_wp2_with fail
 refine(JW z2 z3 _).mono ?_;rintro e w1 ⟨rfl,hb1⟩;have x1:∀o,w1.cell? ⟨w.heap.size,o,none⟩=(#[.int .i64 z0,.int .i64 z1,.int .i64 z2,.int .i64 z3,.int .i64 z4,.int .i64 z5,.int .i64 z6,.int .i64 z7]:Array Value)[o]?:=(AN _ _ qj).below ((AN w.heap.size #[.int .i64 z0,.int .i64 z1,.int .i64 z2,.int .i64 z3,.int .i64 z4,.int .i64 z5,.int .i64 z6,.int .i64 z7] qj).below X.out (qb)) hb1;have y1:∀o,w1.cell? ⟨w.heap.size+1,o,none⟩=(#[.int .i64 z0,.int .i64 z1,.int .i64 z2,.int .i64 z3,.int .i64 z4,.int .i64 z5,.int .i64 z6,.int .i64 z7]:Array Value)[o]?:=fun o=>((aC hb1).1 (w.heap.size+1) o qj).trans (cV qj o);have hz1:w.heap.size+1<w1.heap.size:=blt hb1 qj;have X1:=qh x1;have Y1:=qh y1;have HB1:=HL.st hb1;clear hb1
 go_wp2_with fail
 refine(JW z4 z5 _).mono ?_;rintro e w2 ⟨rfl,hb2⟩;have x2:=fun o=>((aC hb2).1 w.heap.size o qo).trans (X1.out o);have y2:=fun o=>((aC hb2).1 (w.heap.size+1) o qo).trans (Y1.out o);have HB2:=HB1.st hb2;clear hb2 x1 y1
 go_wp2_with fail
 go_ret
 exact⟨rfl,HB2.o⟩
theorem T7 (A A':OA)(n c c':Nat)(z:Nat→Int)(w:World)(ha:Rd w A (n*8) (fun j=>.int .i64 (z j)))(hb:Rd w A' (n*8) (fun j=>.int .i64 (z j)))(hn:n≤1000000000):
 Calls Tryz.prog 12 #[.slice A n c,.slice A' n c'] w fun e w'=>e=.returned (.bool true)∧Below w.heap.size w w':=by
 have HA:=qh ha;have HB:=qh hb;clear ha hb
 go_enter Tryz.func12,Tryz.ntmps12
 go_wp2
 go_loopw [5] (fun i wr=>∃k:Nat,k≤n∧i=.int .i64 k∧Below w.heap.size w wr) (fun i _=>n-(intOf i).toNat)
 case atStart=>exact⟨0,Nat.zero_le _,rfl,Below.refl _ _⟩
 case round=>
  obtain⟨k,hk,rfl,hbl⟩:=hrel;have HL:=qh hbl;clear hbl
  by_cases hlt:k<n
  ·obtain⟨g,o,rfl,hg,hc⟩:=HA.o qo
   obtain⟨g',o',rfl,hg',hc'⟩:=HB.o qo;have a0:=((aC HL.o).1 g _ hg).trans (hc (k*8+0) qo);have b0:=((aC HL.o).1 g' _ hg').trans (hc' (k*8+0) qo);have a1:=((aC HL.o).1 g _ hg).trans (hc (k*8+1) qo);have b1:=((aC HL.o).1 g' _ hg').trans (hc' (k*8+1) qo);have a2:=((aC HL.o).1 g _ hg).trans (hc (k*8+2) qo);have b2:=((aC HL.o).1 g' _ hg').trans (hc' (k*8+2) qo);have a3:=((aC HL.o).1 g _ hg).trans (hc (k*8+3) qo);have b3:=((aC HL.o).1 g' _ hg').trans (hc' (k*8+3) qo);have a4:=((aC HL.o).1 g _ hg).trans (hc (k*8+4) qo);have b4:=((aC HL.o).1 g' _ hg').trans (hc' (k*8+4) qo);have a5:=((aC HL.o).1 g _ hg).trans (hc (k*8+5) qo);have b5:=((aC HL.o).1 g' _ hg').trans (hc' (k*8+5) qo);have a6:=((aC HL.o).1 g _ hg).trans (hc (k*8+6) qo);have b6:=((aC HL.o).1 g' _ hg').trans (hc' (k*8+6) qo);have a7:=((aC HL.o).1 g _ hg).trans (hc (k*8+7) qo);have b7:=((aC HL.o).1 g' _ hg').trans (hc' (k*8+7) qo)
   simp only[←Nat.add_assoc]at a0 b0 a1 b1 a2 b2 a3 b3 a4 b4 a5 b5 a6 b6 a7 b7
   obtain⟨y0,hy0⟩:=qx (z (k*8+0));obtain⟨y1,hy1⟩:=qx (z (k*8+1));obtain⟨y2,hy2⟩:=qx (z (k*8+2));obtain⟨y3,hy3⟩:=qx (z (k*8+3));obtain⟨y4,hy4⟩:=qx (z (k*8+4));obtain⟨y5,M5⟩:=qx (z (k*8+5));obtain⟨y6,hy6⟩:=qx (z (k*8+6));obtain⟨y7,hy7⟩:=qx (z (k*8+7))
   simp only[Nat.add_zero]at a0 b0 hy0
   simp only[←hy0,←hy1,←hy2,←hy3,←hy4,←M5,←hy6,←hy7]at a0 b0 a1 b1 a2 b2 a3 b3 a4 b4 a5 b5 a6 b6 a7 b7
   clear hy0 hy1 hy2 hy3 hy4 M5 hy6 hy7 hc hc';have hgr:g<wr.heap.size:=blt HL.o hg;have aa8:g'<wr.heap.size:=blt HL.o hg'
   go_wp2
   go_region_held3 (fun w'=>w'.cell? ⟨g,o+k*8,none⟩=some (.int .i64 y0)∧w'.cell? ⟨g',o'+k*8,none⟩=some (.int .i64 y0)∧w'.cell? ⟨g,o+k*8+1,none⟩=some (.int .i64 y1)∧w'.cell? ⟨g',o'+k*8+1,none⟩=some (.int .i64 y1)∧w'.cell? ⟨g,o+k*8+2,none⟩=some (.int .i64 y2)∧w'.cell? ⟨g',o'+k*8+2,none⟩=some (.int .i64 y2)∧w'.cell? ⟨g,o+k*8+3,none⟩=some (.int .i64 y3)∧w'.cell? ⟨g',o'+k*8+3,none⟩=some (.int .i64 y3)∧w'.cell? ⟨g,o+k*8+4,none⟩=some (.int .i64 y4)∧w'.cell? ⟨g',o'+k*8+4,none⟩=some (.int .i64 y4)∧w'.cell? ⟨g,o+k*8+5,none⟩=some (.int .i64 y5)∧w'.cell? ⟨g',o'+k*8+5,none⟩=some (.int .i64 y5)∧w'.cell? ⟨g,o+k*8+6,none⟩=some (.int .i64 y6)∧w'.cell? ⟨g',o'+k*8+6,none⟩=some (.int .i64 y6)∧w'.cell? ⟨g,o+k*8+7,none⟩=some (.int .i64 y7)∧w'.cell? ⟨g',o'+k*8+7,none⟩=some (.int .i64 y7)) (go_keep) (first|(go_at_call 23;refine(Rw y0 y1 y2 y3 y4 y5 y6 y7 _).mono ?_;rintro e w1 ⟨rfl,hb1⟩;have hk1:=fun x=>(aC hb1).1 g x (by simpa using hgr);have hk2:=fun x=>(aC hb1).1 g' x (by simpa using aa8)))
   exact zP31x0
  ·obtain rfl:k=n:=qo
   go_wp2
   go_ret
   exact⟨rfl,HL.o⟩
end Go.Proofs.YtimlpmbabbbcaaaGreat
namespace Go.Proofs.YtimlpmbabbbcaaaGreat
open Go.RowKit Go.WideShapes Go.ChangeShapes Go.Deep Go.Joins Go.ChangeAt
theorem own:ownKnob Tryz.prog.godebug=none:=by kernel_rfl
theorem laidOut:laidOutB Tryz.prog=true:=by kernel_rfl
theorem II {H:Type}{enc:TypeId×Value→H}{P:Program}(hl:laidOutB P=true){W W':World}(hb:Below W.heap.size W W'):
 ∀(ts:List TypeId) (vs:List Value) (ds:List (DataW H)) (ps:List MemPlace),(∀t∈ts,P.readableRec t=true∧t<P.types.size)→(∀x∈ps,x.block<W.heap.size)→
  DataW.TrodAll enc P W 0 (fun _=>true) true ts vs ds ps→DataW.TrodAll enc P W' 0 (fun b=>decide (b<W.heap.size)) true ts vs ds ps
 |[],vs,ds,ps,_,_,h=>by
  obtain⟨rfl,rfl,rfl⟩:=trodAll_nil h;exact trodAll_mk0
 |t::ts,vs,ds,ps,ht,hlt,h=>by
  obtain⟨v,vs',d,ds',p,q,rfl,rfl,rfl,h0,h1⟩:=trodAll_cons h;exact trodAll_cons_mk (Below.trod hl (ht t (by simp)).1 (ht t (by simp)).2 h0 hb (fun x hx=>hlt x (by simp[hx])))
   (II hl hb ts vs' ds' q (fun u hu=>ht u (by simp[hu])) (fun x hx=>hlt x (by simp[hx])) h1)
theorem VO {H:Type}{enc:TypeId×Value→H}{P:Program}(hl:laidOutB P=true){f:Func}{s:ChangeSpec}{W W':World}{args:Array Value}{ds:List (DataW H)}{before:List MemPlace}{tb:TypeId}
 (hv:s.vars=[]) (hfn:s.fn H (ds++[])={results:=[.lit (.bool true)],args:=ds}) (hrt:f.resultTypes=#[tb]) (htb:P.underlying tb=some .bool)
 (hread:∀t∈f.params.toList,P.readableRec t=true∧t<P.types.size)
 (hW:DataW.Whole enc P f.params.toList s.vars false W args.toList ds [] before) (hb:Below W.heap.size W W'):
 ∃v,Ending.returned (.bool true)=.returned v∧s.post enc P f false true false false W args v W':=by
 have hlt:∀p∈before,p.block<W.heap.size:=fun p hp=>hW.lt p hp;have hW':=hW;obtain⟨p,q,hA,hV,rfl,hfz,hnd⟩:=hW';rw[hv]at hV;obtain⟨_,rfl⟩:=trodVars_none hV;refine⟨_,rfl,ds,[],_,[],p,[],hW,?_,?_,?_,hb.frame _,fun h=>by cases h⟩
 ·rw[hfn,hrt]
  exact trodAll_mk1 (shut_bool htb _)
 ·rw[hfn]
  exact II hl hb _ _ _ _ hread (fun x hx=>hlt x (by simp[hx])) hA
 ·rw[hfn,hv]
  rfl
section
variable {H:Type}{enc:TypeId×Value→H}{P:Program}{w:World}{base:Nat}{spare:Nat→Bool}{held:Bool}
end
section
variable {H:Type}{enc:TypeId×Value→H}{P:Program}{w:World}{base:Nat}{spare:Nat→Bool}{held:Bool}
theorem OO {r:Reach}{b0:Nat}{t:TypeId}{f0 f1:Field}{v:Value}{d:DataW H}{p:List MemPlace}(hs:P.underlying t=some (.struct #[f0,f1]))(hone:oneCellFields P #[f0,f1]=true)(hC:P.cellsOf t=2)
 (hv:Value.okWide P w r b0 t v) (h:DataW.Trod enc P w base spare held t v d p):
 ∃(v0 v1:Value) (y0 y1:DataW H×List MemPlace) (n:Nat),v=.agg #[v0,v1]∧d=.agg [y0.1,y1.1]∧p=y0.2++y1.2∧
  DataW.trod enc P w base spare held n f0.type [v0]=some y0∧DataW.trod enc P w base spare held n f1.type [v1]=some y1:=by
 obtain⟨cs,rfl,hsz⟩:=okWide_struct hs hv;obtain⟨l⟩:=cs
 match l,hsz.trans hC with
 |[c0,c1],_=>
  obtain⟨fuel,hf⟩:=h;obtain⟨xs,n,_,hx,_,hlen,hg⟩:=DataW.trod_struct hs hf;obtain⟨o0,k0⟩:=hone_of hone 0 f0 rfl;obtain⟨o1,k1⟩:=hone_of hone 1 f1 rfl
  match xs,hlen with
  |[y0,y1],_=>
   simp only[Prod.mk.injEq]at hx
   exact⟨c0,c1,y0,y1,n,rfl,by simpa using hx.1,by simpa using hx.2,by simpa [Value.cells,o0,k0]using hg 0 f0 rfl,by simpa [Value.cells,o1,k1]using hg 1 f1 rfl⟩
end
theorem IR {w:World}{a:Addr}{v:Value}(h:w.cell? a=some v):∃g o,a=⟨g,o,none⟩:=by
 obtain⟨g,o,sp⟩:=a;obtain rfl:sp=none:=by simpa using World.cell?_spot h
 exact⟨g,o,rfl⟩
theorem VT {H:Type}{enc:TypeId×Value→H}{P:Program}{W:World}{spare:Nat→Bool}{held:Bool}{t e:TypeId}{k:IntKind}{fuel:Nat}{u:Value}{x:DataW H×List MemPlace}(ht:P.underlying t=some (.slice e))(he:P.underlying e=some (.int k))(hc:P.cellsOf e=1)
 (hf:DataW.trod enc P W 0 spare held fuel t [u]=some x):
 ∃(A:Option Addr) (n c:Nat) (z:Nat→Int),u=.slice A n c∧Rd W A n (fun j=>.int k (z j))∧n≤maxLen∧∀j,j<n→(Lit.int k (z j)).wf=true:=by
 rcases open_ints ht he hc hf with⟨hcs,hx⟩|⟨a,len,cap,zs,hcs,_,hl,hm,hz,hx,hcell,hws⟩
 ·simp at hcs
  subst hcs;exact⟨none,0,0,fun _=>0,rfl,fun h=>absurd h (by omega),by simp,fun j hj=>absurd hj (by omega)⟩
 ·simp at hcs
  subst hcs;have hle:len≤zs.length:=by rw[hz];split<;>omega
  refine⟨some a,len,cap,fun j=>zs.getD j 0,rfl,fun hN=>?_,by omega,fun j hj=>hws _ ?_⟩
  ·obtain⟨g,o,rfl⟩:∃g o,a=⟨g,o,none⟩:=by
    have:=hcell 0 (by omega);rw[show a.add 0=a by simp[Addr.add]]at this;exact IR this
   refine⟨g,o,rfl,by simpa [Addr.add_lit]using World.block_lt_of_cell? W _ (hcell 0 (by omega)),fun j hj=>?_⟩;have:=hcell j (by omega);rw[Addr.add_lit]at this;exact this
  ·simp[List.getD,List.getElem?_eq_getElem (show j<zs.length by omega)]
end Go.Proofs.YtimlpmbabbbcaaaGreat
namespace Go.Proofs.YtimlpmbabbbcaaaGreat
open Go.RowKit Go.WideShapes Go.ChangeShapes Go.Deep Go.Joins Go.ChangeAt
variable {H:Type}{enc:TypeId×Value→H}{P:Program}{W:World}{spare:Nat→Bool}{held:Bool}
theorem open_row {e:TypeId}{f0 f1 f2:Field}{e2:TypeId}{m:Nat}{cs:List Value}{x:DataW H×List MemPlace}(he:P.underlying e=some (.struct #[f0,f1,f2]))(hone:oneCellFields P #[f0,f1,f2]=true)(hC:P.cellsOf e=3)
 (h0:P.underlying f0.type=some (.int .i64)) (h1:P.underlying f1.type=some (.int .i64)) (h2:P.underlying f2.type=some (.slice e2)) (hi:P.underlying e2=some (.int .i64)) (hc:P.cellsOf e2=1)
 (h:DataW.trod enc P W 0 spare held m e cs=some x):
 ∃(r:Int×Int×Option Addr×Nat×Nat×(Nat→Int)),cs=[.int .i64 r.1,.int .i64 r.2.1,.slice r.2.2.1 r.2.2.2.1 r.2.2.2.2.1]∧Rd W r.2.2.1 r.2.2.2.1 (fun j=>.int .i64 (r.2.2.2.2.2 j))∧r.2.2.2.1≤maxLen:=by
 obtain⟨xs,n,_,_,hcl,hxl,hf⟩:=DataW.trod_struct he h;obtain⟨o0,k0⟩:=hone_of hone 0 f0 rfl;obtain⟨o1,k1⟩:=hone_of hone 1 f1 rfl;obtain⟨o2,k2⟩:=hone_of hone 2 f2 rfl
 match cs,hcl.trans hC,xs,hxl with
 |[c0,c1,c2],_,[y0,y1,y2],_=>
  have g0:=hf 0 f0 rfl;have g1:=hf 1 f1 rfl;have g2:=hf 2 f2 rfl;rw[o0,k0]at g0;rw[o1,k1]at g1;rw[o2,k2]at g2;obtain⟨d,e0,_,_⟩:=DataW.trod_int h0 (show DataW.trod enc P W 0 spare held n f0.type [c0]=some y0 from g0);obtain⟨c,e1,_,_⟩:=DataW.trod_int h1 (show DataW.trod enc P W 0 spare held n f1.type [c1]=some y1 from g1);obtain⟨A,l,q,z,e3,hr,hl,_⟩:=VT h2 hi hc (show DataW.trod enc P W 0 spare held n f2.type [c2]=some y2 from g2)
  simp at e0 e1
  subst e0 e1 e3;exact⟨(d,c,A,l,q,z),rfl,hr,hl⟩
theorem J0 {t e:TypeId}{f0 f1 f2:Field}{e2:TypeId}{fuel:Nat}{u:Value}{x:DataW H×List MemPlace}(ht:P.underlying t=some (.slice e))(he:P.underlying e=some (.struct #[f0,f1,f2]))(hone:oneCellFields P #[f0,f1,f2]=true)(hC:P.cellsOf e=3)
 (h0:P.underlying f0.type=some (.int .i64)) (h1:P.underlying f1.type=some (.int .i64)) (h2:P.underlying f2.type=some (.slice e2)) (hi:P.underlying e2=some (.int .i64)) (hc:P.cellsOf e2=1)
 (hf:DataW.trod enc P W 0 spare held fuel t [u]=some x):
 ∃(A:OA) (n q:Nat) (d c:Nat→Int) (As:Nat→OA) (ns cs:Nat→Nat) (z:Nat→Nat→Int),u=.slice A n q∧eC A n d c As ns cs z W∧n≤maxLen∧∀j,j<n→ns j≤maxLen:=by
 rcases open_slice ht hf with⟨hcs,_⟩|⟨a,len,cap,m,k,D,Pl,hcs,_,hl,hm,hmm,_,hel⟩
 ·simp at hcs
  subst hcs;exact⟨none,0,0,fun _=>0,fun _=>0,fun _=>none,fun _=>0,fun _=>0,fun _ _=>0,rfl,⟨fun h=>absurd h qo,fun j hj=>absurd hj qo⟩,by simp,fun j hj=>absurd hj qo⟩
 ·simp at hcs
  subst hcs;have hle:len≤m:=by rw[hmm];split<;>omega
  have hall:∀i,∃(r:Int×Int×Option Addr×Nat×Nat×(Nat→Int)),i<len→(∀j,j<3→W.cell? (a.add (i*3+j))=[Value.int .i64 r.1,.int .i64 r.2.1,.slice r.2.2.1 r.2.2.2.1 r.2.2.2.2.1][j]?)∧Rd W r.2.2.1 r.2.2.2.1 (fun j=>.int .i64 (r.2.2.2.2.2 j))∧r.2.2.2.1≤maxLen:=by
   intro i
   by_cases hil:i<len
   ·obtain⟨cs',hcells,htr⟩:=hel i qo
    obtain⟨r,hcs,hr,hrl⟩:=open_row he hone hC h0 h1 h2 hi hc htr;rw[hC]at hcells;obtain⟨_,_,hat⟩:=World.cells?_some hcells;refine⟨r,fun _=>⟨fun j hj=>?_,hr,hrl⟩⟩;rw[←Go.Deep.add_add,hat j hj,hcs]
   ·exact⟨(0,0,none,0,0,fun _=>0),fun h=>absurd h hil⟩
  obtain⟨r,hr⟩:=Classical.axiomOfChoice hall;refine⟨some a,len,cap,fun i=>(r i).1,fun i=>(r i).2.1,fun i=>(r i).2.2.1,fun i=>(r i).2.2.2.1,fun i=>(r i).2.2.2.2.1,fun i=>(r i).2.2.2.2.2,rfl,⟨fun hN=>?_,fun j hj=>(hr j hj).2.1⟩,by omega,fun j hj=>(hr j hj).2.2⟩;have h00:=(hr 0 qo).1 0 qo
  simp at h00
  obtain⟨g,o,rfl⟩:∃g o,a=⟨g,o,none⟩:=by
   rw[show a.add 0=a by simp[Addr.add]]at h00;exact IR h00
  refine⟨g,o,rfl,by simpa [Addr.add_lit]using World.block_lt_of_cell? W _ h00,fun q hq=>?_⟩;have hk:q/3<len:=qo;have:=(hr (q/3) hk).1 (q%3) qo;rw[show q/3*3+q%3=q by omega,Addr.add_lit]at this;rw[this];unfold wD
  rcases(show q%3=0∨q%3=1∨q%3=2 by omega)with h|h|h<;>simp[h]
theorem Yh {e en:TypeId}{f0 f1 f2 f3 f4 f5 g0 g1:Field}{m:Nat}{cs:List Value}{x:DataW H×List MemPlace}(he:P.underlying e=some (.struct #[f0,f1,f2,f3,f4,f5]))(hC:P.cellsOf e=8)
 (ho:[f0.offset,f1.offset,f2.offset,f3.offset,f4.offset,f5.offset]=[0,1,2,4,6,7]) (hk:[P.cellsOf f0.type,P.cellsOf f1.type,P.cellsOf en,P.cellsOf f4.type,P.cellsOf f5.type]=[1,1,2,1,1])
 (h0:P.underlying f0.type=some (.int .i64)) (h1:P.underlying f1.type=some (.int .i64)) (h2:f2.type=en) (h3:f3.type=en) (h4:P.underlying f4.type=some (.int .i64)) (h5:P.underlying f5.type=some (.int .i64))
 (hn:P.underlying en=some (.struct #[g0,g1])) (hon:oneCellFields P #[g0,g1]=true) (hg0:P.underlying g0.type=some (.int .i64)) (hg1:P.underlying g1.type=some (.int .i64))
 (h:DataW.trod enc P W 0 spare held m e cs=some x):
 ∃z0 z1 z2 z3 z4 z5 z6 z7:Int,cs=[.int .i64 z0,.int .i64 z1,.int .i64 z2,.int .i64 z3,.int .i64 z4,.int .i64 z5,.int .i64 z6,.int .i64 z7]:=by
 obtain⟨xs,n,_,_,hcl,hxl,hf⟩:=DataW.trod_struct he h
 simp only[List.cons.injEq,and_true]at ho hk
 obtain⟨o0,o1,o2,o3,o4,o5⟩:=ho;obtain⟨k0,k1,k2,k4,k5⟩:=hk;obtain⟨p0,q0⟩:=hone_of hon 0 g0 rfl;obtain⟨p1,q1⟩:=hone_of hon 1 g1 rfl
 match cs,hcl.trans hC,xs,hxl with
 |[c0,c1,c2,c3,c4,c5,c6,c7],_,[y0,y1,y2,y3,y4,y5],_=>
  have t0:=hf 0 f0 rfl;have t1:=hf 1 f1 rfl;have t2:=hf 2 f2 rfl;have t3:=hf 3 f3 rfl;have t4:=hf 4 f4 rfl;have t5:=hf 5 f5 rfl;rw[o0,k0]at t0;rw[o1,k1]at t1;rw[o2,h2,k2]at t2;rw[o3,h3,k2]at t3;rw[o4,k4]at t4;rw[o5,k5]at t5;obtain⟨u0,u1,n2,_,_,s0,s1⟩:=trod_struct2 hn (show DataW.trod enc P W 0 spare held n en [c2,c3]=some y2 from t2);obtain⟨v0,v1,n3,_,_,r0,r1⟩:=trod_struct2 hn (show DataW.trod enc P W 0 spare held n en [c4,c5]=some y3 from t3);rw[p0,q0]at s0 r0;rw[p1,q1]at s1 r1;obtain⟨z0,e0,_,_⟩:=DataW.trod_int h0 (show DataW.trod enc P W 0 spare held n f0.type [c0]=some y0 from t0);obtain⟨z1,e1,_,_⟩:=DataW.trod_int h1 (show DataW.trod enc P W 0 spare held n f1.type [c1]=some y1 from t1);obtain⟨z2,e2,_,_⟩:=DataW.trod_int hg0 (show DataW.trod enc P W 0 spare held n2 g0.type [c2]=some u0 from s0);obtain⟨z3,e3,_,_⟩:=DataW.trod_int hg1 (show DataW.trod enc P W 0 spare held n2 g1.type [c3]=some u1 from s1);obtain⟨z4,e4,_,_⟩:=DataW.trod_int hg0 (show DataW.trod enc P W 0 spare held n3 g0.type [c4]=some v0 from r0);obtain⟨z5,e5,_,_⟩:=DataW.trod_int hg1 (show DataW.trod enc P W 0 spare held n3 g1.type [c5]=some v1 from r1);obtain⟨z6,e6,_,_⟩:=DataW.trod_int h4 (show DataW.trod enc P W 0 spare held n f4.type [c6]=some y4 from t4);obtain⟨z7,e7,_,_⟩:=DataW.trod_int h5 (show DataW.trod enc P W 0 spare held n f5.type [c7]=some y5 from t5)
  simp at e0 e1 e2 e3 e4 e5 e6 e7
  subst e0 e1 e2 e3 e4 e5 e6 e7;exact⟨z0,z1,z2,z3,z4,z5,z6,z7,rfl⟩
theorem dh {t e en:TypeId}{f0 f1 f2 f3 f4 f5 g0 g1:Field}{fuel:Nat}{u:Value}{x:DataW H×List MemPlace}(ht:P.underlying t=some (.slice e))(he:P.underlying e=some (.struct #[f0,f1,f2,f3,f4,f5]))(hC:P.cellsOf e=8)
 (ho:[f0.offset,f1.offset,f2.offset,f3.offset,f4.offset,f5.offset]=[0,1,2,4,6,7]) (hk:[P.cellsOf f0.type,P.cellsOf f1.type,P.cellsOf en,P.cellsOf f4.type,P.cellsOf f5.type]=[1,1,2,1,1])
 (h0:P.underlying f0.type=some (.int .i64)) (h1:P.underlying f1.type=some (.int .i64)) (h2:f2.type=en) (h3:f3.type=en) (h4:P.underlying f4.type=some (.int .i64)) (h5:P.underlying f5.type=some (.int .i64))
 (hn:P.underlying en=some (.struct #[g0,g1])) (hon:oneCellFields P #[g0,g1]=true) (hg0:P.underlying g0.type=some (.int .i64)) (hg1:P.underlying g1.type=some (.int .i64))
 (hf:DataW.trod enc P W 0 spare held fuel t [u]=some x):
 ∃(A:OA) (n q:Nat) (z:Nat→Int),u=.slice A n q∧Rd W A (n*8) (fun j=>.int .i64 (z j))∧n≤maxLen:=by
 rcases open_slice ht hf with⟨hcs,_⟩|⟨a,len,cap,m,k,D,Pl,hcs,_,hl,hm,hmm,_,hel⟩
 ·simp at hcs
  subst hcs;exact⟨none,0,0,fun _=>0,rfl,fun h=>absurd h qo,by simp⟩
 ·simp at hcs
  subst hcs;have hle:len≤m:=by rw[hmm];split<;>omega
  have hall:∀q,∃z:Int,q<len*8→W.cell? (a.add q)=some (.int .i64 z):=by
   intro q
   by_cases hq:q<len*8
   ·obtain⟨cs',hcells,htr⟩:=hel (q/8) qo
    obtain⟨z0,z1,z2,z3,z4,z5,z6,z7,rfl⟩:=Yh he hC ho hk h0 h1 h2 h3 h4 h5 hn hon hg0 hg1 htr;rw[hC]at hcells;obtain⟨_,_,hat⟩:=World.cells?_some hcells;have:=hat (q%8) qo;rw[Go.Deep.add_add,show q/8*8+q%8=q by omega]at this;rw[this]
    rcases(show q%8=0∨q%8=1∨q%8=2∨q%8=3∨q%8=4∨q%8=5∨q%8=6∨q%8=7 by omega)with h|h|h|h|h|h|h|h<;>rw[h]<;>exact⟨_,fun _=>rfl⟩
   ·exact⟨0,fun h=>absurd h hq⟩
  obtain⟨z,hz⟩:=Classical.axiomOfChoice hall;refine⟨some a,len,cap,z,rfl,fun hN=>?_,by omega⟩;have h00:=hz 0 qo;obtain⟨g,o,rfl⟩:∃g o,a=⟨g,o,none⟩:=by
   rw[show a.add 0=a by simp[Addr.add]]at h00;exact IR h00
  refine⟨g,o,rfl,by simpa [Addr.add_lit]using World.block_lt_of_cell? W _ h00,fun q hq=>?_⟩;have:=hz q hq;rw[Addr.add_lit]at this;exact this
end Go.Proofs.YtimlpmbabbbcaaaGreat
namespace Go.Proofs.YtimlpmbabbbcaaaGreat
open Go.ChangeShapes Go.WideShapes Go.ChangeAt Go.RowKit Go.Deep Go.Joins
section
variable {H:Type}{enc:TypeId×Value→H}{P:Program}{W:World}{spare:Nat→Bool}{held:Bool}
theorem VS {r:Reach}{b0:Nat}{t e en:TypeId}{f0 f1 f2 f3 f4 f5 g0 g1:Field}{v:Value}{d:DataW H}{p:List MemPlace}(ht:P.underlying t=some (.slice e))(he:P.underlying e=some (.struct #[f0,f1,f2,f3,f4,f5]))(hC:P.cellsOf e=8)
 (ho:[f0.offset,f1.offset,f2.offset,f3.offset,f4.offset,f5.offset]=[0,1,2,4,6,7]) (hk:[P.cellsOf f0.type,P.cellsOf f1.type,P.cellsOf en,P.cellsOf f4.type,P.cellsOf f5.type]=[1,1,2,1,1])
 (h0:P.underlying f0.type=some (.int .i64)) (h1:P.underlying f1.type=some (.int .i64)) (h2:f2.type=en) (h3:f3.type=en) (h4:P.underlying f4.type=some (.int .i64)) (h5:P.underlying f5.type=some (.int .i64))
 (hn:P.underlying en=some (.struct #[g0,g1])) (hon:oneCellFields P #[g0,g1]=true) (hg0:P.underlying g0.type=some (.int .i64)) (hg1:P.underlying g1.type=some (.int .i64))
 (hv:Value.okWide P W r b0 t v) (h:DataW.Trod enc P W 0 spare held t v d p):
 ∃(A:OA) (n q:Nat) (z:Nat→Int),v=.slice A n q∧Rd W A (n*8) (fun j=>.int .i64 (z j))∧n≤maxLen:=by
 obtain⟨a0,afj,cap0,rfl⟩:=okWide_slice ht hv;obtain⟨fuel,hf⟩:=h;exact dh ht he hC ho hk h0 h1 h2 h3 h4 h5 hn hon hg0 hg1 (show DataW.trod enc P W 0 spare held fuel t [.slice a0 afj cap0]=some _ by simpa [Value.cells]using hf)
end
end Go.Proofs.YtimlpmbabbbcaaaGreat
