/- Walks and plain lemmas. -/
import Derived.Test.YtmnbgjnipbpiaaaGreatP10
set_option linter.unusedVariables false
set_option linter.unusedSimpArgs false
set_option maxRecDepth 20000
namespace Go.Proofs.YtmnbgjnipbpiaaaGreat
open Go.RowKit
theorem rS {n:Nat}(p:G.PM n)(A:OA)(c:Nat)(w:World)(ha:aG w A (G.pl p))(hn:n≤1000):Calls Tryz.prog 89 #[.slice A n c] w (dA w (G.bN p.g n)):=by
 have HA:=qh ha;clear ha
 go_enter Tryz.func89,Tryz.ntmps89
 go_wp2_with fail
 refine(pK p A c _ HA.o hn).mono ?_;rintro e w1 h1;obtain⟨A1,c1,rfl,_,hr1,hb1⟩:=h1.rd;have HR1:=qh hr1;have HB1:=qh hb1;clear h1 hr1 hb1;rw[G.a6]
 go_wp2_with fail
 refine(lU p.inv A1 c1 _ HR1.o hn).mono ?_;rintro e w2 ⟨v2,rfl,ho2,hb2⟩;have a9:=qh ho2;have HB2:=HB1.st hb2;have HZ:=qh HB1.o.size;clear ho2 hb2
 go_wp2
 go_ret
 exact⟨_,rfl,eK a9.o HZ.o,HB2.o⟩
def bH {n:Nat}(p:G.PM n)(k:Nat):List Int:=(List.range n).map fun j=>if j<k then(p.flip.f j:Int)else 0
theorem oN {n:Nat}(p:G.PM n):bH p 0=List.replicate n 0:=by
 apply List.ext_getElem?
 intro j
 by_cases hj:j<n
 ·simp[bH,hj]
 ·simp[bH,hj]
theorem oO {n:Nat}(p:G.PM n){k:Nat}(hk:k<n):(bH p k).set k (p.flip.f k:Int)=bH p (k+1):=by
 apply List.ext_getElem?
 intro j;rw[List.getElem?_set]
 by_cases hjk:k=j
 ·subst hjk
  rw[if_pos rfl,if_pos (by simp[bH];omega)]
  simp[bH,hk]
 ·rw[if_neg hjk]
  by_cases hj:j<n
  ·simp only[bH,List.getElem?_map,List.getElem?_range hj,Option.map_some]
   by_cases h:j<k
   ·rw[if_pos h,if_pos qo]
   ·rw[if_neg h,if_neg qo]
  ·simp[bH,hj]
theorem qM {n:Nat}(p:G.PM n):bH p n=G.pl p.flip:=by
 refine List.map_congr_left fun j hj=>?_;rw[if_pos (List.mem_range.1 hj)]
theorem wZ {n:Nat}(p:G.PM n)(A:OA)(c:Nat)(w:World)(ha:aG w A (G.pl p))(hn:n≤1000):Calls Tryz.prog 91 #[.slice A n c] w (dA w (G.pl p.flip)):=by
 obtain⟨cs,hcs,hcv,hmk⟩:=kA n qo;have HO:=qh (gI w cs n qo hcs hcv);have HB:=qh ((Below.refl w.heap.size w).alloc ql (.cells cs 2));have HA:=qh ha;clear hcv ha
 go_enter Tryz.func91,Tryz.ntmps91
 go_wp2_with fail
 clear hmk
 go_loopw [5] (fun x wr=>∃k:Nat,k≤n∧x=.int .i64 k∧Hq (wr.ownsRow w.heap.size 2 1 (.slice (some ⟨w.heap.size,0,none⟩) n n) n (ints (bH p k)))∧Hq (Below w.heap.size w wr)) (fun x _=>n-(intOf x).toNat)
 case atStart=>exact⟨0,Nat.zero_le _,rfl,qh (by rw[oN];exact HO.o),HB⟩
 case round=>
  obtain⟨k,hk,rfl,a9,HB2⟩:=hrel
  by_cases hlt:k<n
  ·obtain⟨ga,o,rfl,hg,hr⟩:=HA.o (by rw[G.a6];omega)
   have hm:n-1-k<n:=qo;have hc:=a7 HB2.o hg (hr (n-1-k) (by rw[G.a6];exact hm))
   simp only[G.bO p hm]at hc
   have hp:=p.lt hm;have aL:=qh (oO p hlt);have vZ:=qh (show(p.flip.f k:Int)=(n:Int)-1-(p.f (n-1-k):Nat)by
    show((G.rev n (p.f (G.rev n k)):Nat):Int)=_;rw[G.aS hlt,G.aS hp];omega)
   obtain⟨P,hP⟩:=qx (p.f (n-1-k));obtain⟨m,hmm⟩:=qx (n-1-k);rw[←hP]at hp vZ
   simp only[←hP]at hc
   rw[←hmm]at hc hm;have gN:=qh (show(bH p k).set k ((n:Int)-1-P)=bH p (k+1)by rw[←vZ.o];exact aL.o);clear vZ aL;have hl:(ints (bH p k)).length=n:=by simp[ints,bH]
   have hcell:wr.cell? ⟨w.heap.size,k,none⟩=(ints (bH p k))[k]?:=a9.o.cellAt k qo;obtain⟨y,hy⟩:∃y,wr.cell? ⟨w.heap.size,k,none⟩=some y:=⟨_,hcell.trans (List.getElem?_eq_getElem qo)⟩;have hf:=a9.o.frozenAt k;have HST:=qh (a9.o.stored k (.int .i64 ((n:Int)-1-P))).1;have HB3:=qh (Below.setCell (p:=⟨w.heap.size,k,none⟩) HB2.o ql (.int .i64 ((n:Int)-1-P)));have e1:(n:Int)-1-(k:Int)=(m:Int):=qo;have b1:(0:Int)≤(k:Int):=qo;have b2:(k:Int)<(n:Int):=qo;have b3:(0:Int)≤(m:Int):=qo;have b4:(m:Int)<(n:Int):=qo;clear hr hP hcell hl hmm
   go_wp2
   go_roundw
   case rel=>exact⟨k+1,by omega,qg,qh (by
    have h:=HST.o;rw[show(ints (bH p k)).set k (.int .i64 ((n:Int)-1-P))=ints ((bH p k).set k ((n:Int)-1-P))by simp[ints,List.map_set],gN.o]at h;exact h),HB3⟩
   case measure=>exact qs
  ·obtain rfl:n=k:=qo
   go_wp2
   go_ret
   exact⟨_,rfl,by rw[G.a6,←qM];exact a9.o,HB2.o⟩
theorem sT {n:Nat}(p:G.PM n){k:Nat}(hk:1≤k)(hn:k<n):((G.pl p).set (k-1) (p.f k:Int)).set k (p.f (k-1):Int)=G.pl (p.aU k):=by
 refine G.zK (by simp[G.a6]) fun i hi=>?_;obtain⟨h1,h2,h3⟩:=G.l3 p hk hn
 simp only[List.getD,List.getElem?_set,List.length_set,G.a6]
 by_cases e1:k=i
 ·subst e1
  rw[if_pos rfl,if_pos hn,h2]
  rfl
 ·rw[if_neg e1]
  by_cases e2:k-1=i
  ·subst e2
   rw[if_pos rfl,if_pos hi,h1]
   rfl
  ·rw[if_neg e2,h3 i qo qo]
   have:=G.bO p hi
   simpa [List.getD]using this
theorem rT {n:Nat}(p:G.PM n)(k:Nat)(A:OA)(c:Nat)(w:World)(ha:aG w A (G.pl p))(hn:n≤1000)(hk:1≤k)(hkn:k<n):Calls Tryz.prog 92 #[.int .i64 k,.slice A n c] w (dA w (G.pl (p.aU k))):=by
 have HA:=qh ha;have hown:=jR A c (G.pl p) w ha (by rw[G.a6];omega);rw[G.a6]at hown;have HOWN:=qh hown;obtain⟨ga,o,rfl,hg,hr⟩:=ha (by rw[G.a6];omega);have HK:=qh (hr k (by rw[G.a6];exact hkn));have PT:=qh (hr (k-1) (by rw[G.a6];omega));clear hown ha hr
 go_enter Tryz.func92,Tryz.ntmps92
 go_wp2_with fail
 refine HOWN.o.mono ?_;rintro e w1 ⟨v1,rfl,ho1,hb1⟩;rw[G.a6]at ho1;obtain⟨g1,c1,rfl⟩:∃g1 c1,v1=.slice (some ⟨g1,0,none⟩) n c1:=by
  rcases ho1.2 with⟨_,h0⟩|⟨g1,cap,_,e,_⟩
  ·omega
  ·exact⟨g1,cap,e⟩
 have hg1:=ho1.lt g1 rfl;have k1:=a7 hb1 hg HK.o;have k2:=a7 hb1 hg PT.o
 simp only[G.bO p hkn]at k1
 simp only[G.bO p (show k-1<n by omega)]at k2
 obtain⟨j,rfl⟩:∃j,k=j+1:=⟨k-1,by omega⟩;rw[Nat.add_sub_cancel]at k2;have gE:=qh (sT p hk hkn);rw[Nat.add_sub_cancel]at gE;obtain⟨P,hP⟩:=qx (p.f (j+1));obtain⟨Q,hQ⟩:=qx (p.f j);rw[←hP,←hQ]at gE
 simp only[←hP]at k1
 simp only[←hQ]at k2
 have hl:(ints (G.pl p)).length=n:=by simp[ints,G.a6]
 obtain⟨y1,hy1⟩:∃y,w1.cell? ⟨g1,j,none⟩=some y:=⟨_,(ho1.cellAt j qo).trans (List.getElem?_eq_getElem qo)⟩;obtain⟨y2,hy2⟩:∃y,w1.cell? ⟨g1,j+1,none⟩=some y:=⟨_,(ho1.cellAt (j+1) qo).trans (List.getElem?_eq_getElem qo)⟩;have f1:=ho1.frozenAt j;have f2:=ho1.frozenAt (j+1);have dQ:=qh ((ho1.stored j (.int .i64 P)).1.stored (j+1) (.int .i64 Q)).1;have hB:=(hb1.setCell (p:=⟨g1,j,none⟩) hg1.1 (.int .i64 P)).setCell (p:=⟨g1,j+1,none⟩) hg1.1 (.int .i64 Q);have HB:=qh hB;have hne:ga≠g1:=qo;have e1:((j+1:Nat):Int)-1=(j:Int):=qo;have b1:(0:Int)≤(j:Int):=qo;have b2:(j:Int)<(n:Int):=qo;have b3:(0:Int)≤((j+1:Nat):Int):=qo;have b4:((j+1:Nat):Int)<(n:Int):=qo;clear hP hQ hl hB ho1 hb1
 go_wp2
 go_ret
 refine⟨_,rfl,?_,HB.o⟩;have h:=dQ.o;rw[show((ints (G.pl p)).set j (.int .i64 P)).set (j+1) (.int .i64 Q)=ints (((G.pl p).set j P).set (j+1) Q)by simp[ints,List.map_set],gE.o]at h;rw[G.a6];exact h
end Go.Proofs.YtmnbgjnipbpiaaaGreat
