/- Walks and plain lemmas. -/
import Derived.Test.YtdnmhhohcedjbaaGreatQ26
import Derived.Test.YtdnmhhohcedjbaaGreatQ28
set_option linter.unusedVariables false
set_option linter.unusedSimpArgs false
set_option maxHeartbeats 4000000
set_option maxRecDepth 20000
namespace Go.Proofs.YtdnmhhohcedjbaaGreat
open Go.RowKit
def IM (z:Nat→Int)(n:Int):Nat→Int
 |0=>n
 |k+1=>bD (z (k*6)) (z (k*6+2)) (IM z n k)
def Cx (L:List Int):Prop:=∃a,L.length=a*6∧∀t,t<a→T.evs L (t*6)=1∧ -1≤T.evs L (t*6+2)∧T.evs L (t*6+2)≤1
theorem Cx.nil:Cx []:=⟨0,rfl,fun t ht=>by omega⟩
theorem Cx.app {L M:List Int}(h:Cx L)(h':Cx M):Cx (L++M):=by
 obtain⟨a,ha,hc⟩:=h;obtain⟨b,hb,hc'⟩:=h';refine⟨a+b,by rw[List.length_append];omega,fun t ht=>?_⟩
 by_cases h:t<a
 ·have h1:=hc t h
  simp only[T.evs,List.getD,List.getElem?_append]at h1 ⊢
  rw[if_pos qo,if_pos qo];exact h1
 ·have h1:=hc' (t-a) qo
  simp only[T.evs,List.getD,List.getElem?_append]at h1 ⊢
  rw[if_neg qo,if_neg qo,show t*6-L.length=(t-a)*6 by omega,show t*6+2-L.length=(t-a)*6+2 by omega];exact h1
theorem Y0 (s:Int)(xs:List Int)(hs: -1≤s∧s≤1):Cx (cE s xs):=by
 induction xs with
 |nil=>exact Cx.nil
 |cons x xs ih=>
  have h1:Cx (jQ 1 x s 0 0 0):=⟨1,rfl,fun t ht=>by
   obtain rfl:t=0:=qo;exact⟨rfl,hs⟩⟩
  exact h1.app ih
theorem adC (W:Nat)(r G5:Int)(f k:Nat→Nat)(i:Nat):Cx (T.nW W r G5 f k i):=by
 unfold T.nW
 split
 ·split
  ·exact Y0 _ _ qo
  ·exact Cx.nil
 ·split
  ·exact Y0 _ _ qo
  ·exact Cx.nil
theorem yh (W:Nat)(r G5:Int)(f k:Nat→Nat)(i:Nat):Cx (T.fS W r G5 f k i):=by
 induction i with
 |zero=>exact Cx.nil
 |succ i ih=>exact ih.app (adC ..)
theorem abd (W:Nat)(r:Int)(f k:Nat→Nat)(n:Nat):Cx (T.qK W r f k n):=by
 induction n with
 |zero=>exact Cx.nil
 |succ n ih=>exact ih.app (yh ..)
theorem abe (W:Nat)(r:Int)(f k:Nat→Nat)(n:Nat):Cx (T.rJ W r f k n):=by
 induction n with
 |zero=>exact Cx.nil
 |succ n ih=>exact ih.app (yh ..)
theorem Nq (W:Nat)(r r':Int)(f k:Nat→Nat):Cx (T.xZ W r r' f k):=by
 unfold T.xZ
 split
 ·exact abd ..
 ·exact abe ..
theorem Ob {L:List Int}{a:Nat}(hl:L.length=a*6)(h:Cx L)(n:Int):∀t,t≤a→IM (T.evs L) n t=n:=by
 obtain⟨b,hb,hc⟩:=h;obtain rfl:a=b:=qo;intro t
 induction t with
 |zero=>intro _;rfl
 |succ t ih=>
  intro ht
  simp only[IM,ih qo,(hc t qo).1]
  unfold bD;rw[if_neg (by decide),if_neg (by decide),if_neg (by decide)]
theorem S8 (s:aI)(k d fb fa c r:Int):(k=7∧Cx (hZ s k d fb fa c r))∨(k≠7∧((hZ s k d fb fa c r).length=6∨hZ s k d fb fa c r=[])):=by
 unfold hZ
 by_cases h7:k=7
 ·rw[if_pos h7]
  exact .inl ⟨h7,Nq ..⟩
 ·rw[if_neg h7]
  refine .inr ⟨h7,?_⟩
  repeat' split
  all_goals first|exact .inl rfl|exact .inr rfl
theorem Uh {s:aI}{k d fb fa c r:Int}{a:Nat}(hl:(hZ s k d fb fa c r).length=a*6)(n:Int){t:Nat}(ht:t<a):IM (T.evs (hZ s k d fb fa c r)) n t=n:=by
 rcases S8 s k d fb fa c r with⟨_,h⟩|⟨_,h|h⟩
 ·exact Ob hl h n t qo
 ·obtain rfl:t=0:=qo
  rfl
 ·rw[h]at hl
  simp at hl
  omega
theorem aaH {s:aI}{D:Nat}(hs:bW s D){k d fb fa c r:Int}(f0:0≤fa)(f1:fa<s.W){a:Nat}(hl:(hZ s k d fb fa c r).length=a*6){t:Nat}(ht:t<a): -4≤T.evs (hZ s k d fb fa c r) (t*6+2)∧T.evs (hZ s k d fb fa c r) (t*6+2)≤4:=by
 have h4:=bT (b:=fb) hs f0 f1
 rcases S8 s k d fb fa c r with⟨_,b,hb,h⟩|⟨h7,h|h⟩
 ·have:=h t qo
  omega
 ·obtain rfl:t=0:=qo
  unfold hZ at h ⊢;rw[if_neg h7]at h ⊢
  repeat' split
  all_goals first
   |(show-4≤((aM s fb fa:Nat):Int)∧((aM s fb fa:Nat):Int)≤4;omega)
   |(show(-4:Int)≤0∧(0:Int)≤4;omega)
   |(exfalso;simp at h)
 ·rw[h]at hl
  simp at hl
  omega
theorem K4 (k p c b y d n:Int):IM (T.evs (jQ k p c b y d)) n 1=bD k c n:=rfl
theorem adM {s:aI}{D:Nat}(hs:bW s D){k d fb fa tb ta c r:Int}{j:Nat}(hp:fP s.W k d fb fa tb ta c r j)(hB:aW k d fb fa tb ta c r=true)(hc:aX s k d fb fa tb ta j=0){a:Nat}(hl:(hZ s k d fb fa c r).length=a*6):
 IM (T.evs (hZ s k d fb fa c r)) (live s) a=live (cV s k d fb fa tb ta r j):=by
 have hk1:=hp.k1;have zQ:=hp.k9;have f0:=hp.f0;have f1:=hp.f1;have t0:=hp.t0;have t1:=hp.t1;have h4:=bT (b:=fb) hs f0 f1
 by_cases h7:k=7
 ·subst h7
  rw[Ob hl (Nq ..) _ a ql];unfold cV;rw[if_neg qo,if_neg qo,if_neg qo,if_neg qo,if_pos rfl]
  rfl
 unfold aX at hc;unfold cV;unfold hZ at hl ⊢;rw[if_neg h7]at hl ⊢
 by_cases hform:k=1∨k=2∨k=5
 ·obtain⟨fB,hy⟩:=tW hform hB
  have hle:=oB fB f0 f1;rw[if_pos hform]at hc ⊢;unfold eH at hc;unfold mZ
  by_cases h1:k=1
  ·rw[if_pos h1]at hl ⊢
   rw[if_pos h1];have hl':live (gA (more (bM s d (aL fb fa s.rk) j)) fb fa 1)+aM s fb fa=live s+1:=kH (more (bM s d (aL fb fa s.rk) j)) fb fa 1 f0 f1;obtain rfl:a=1:=by simp[jQ]at hl;omega
   rw[K4];unfold bD;rw[if_pos rfl];omega
  ·rw[if_neg h1]at hl ⊢
   rw[if_neg h1]
   by_cases h2:k=2
   ·rw[if_pos h2]at hl ⊢
    rw[if_pos h2];have hl':live (gA (more (bM s d (aL fb fa s.rk) j)) fb fa (aM s fb fa+1))+aM s fb fa=live s+(aM s fb fa+1):=kH (more (bM s d (aL fb fa s.rk) j)) fb fa (aM s fb fa+1) f0 f1;obtain rfl:a=1:=by simp[jQ]at hl;omega
    rw[K4];unfold bD;rw[if_neg qo,if_pos qo];omega
   ·have h5:k=5:=qo
    rw[if_neg h2]at hl ⊢;rw[if_neg h2];rw[if_pos h5]at hl ⊢;have Ed:=EM (.inr h5) hB;have hm:live (aY (bM s d (aL fb fa s.rk) j) fb fa tb ta)=live s:=BV (s:=bM s d (aL fb fa s.rk) j) Ed f0 f1 t0 t1;have hl':=kH (more (aY (bM s d (aL fb fa s.rk) j) fb fa tb ta)) fb fa 1 f0 (by show fa<((aY (bM s d (aL fb fa s.rk) j) fb fa tb ta).W:Nat);rw[tX];exact f1);have e1:live (more (aY (bM s d (aL fb fa s.rk) j) fb fa tb ta))=live (aY (bM s d (aL fb fa s.rk) j) fb fa tb ta):=rfl;have e2:aM (more (aY (bM s d (aL fb fa s.rk) j) fb fa tb ta)) fb fa=0:=SL _ 0;rw[e1,e2,hm]at hl';obtain rfl:a=1:=by simp[jQ]at hl;omega
    rw[K4];unfold bD;rw[if_neg qo,if_pos qo];omega
 ·rw[if_neg (show¬k=1 by omega),if_neg (show¬k=2 by omega),if_neg (show¬k=5 by omega)]at hl ⊢
  rw[if_neg hform]at hc ⊢
  by_cases h6:k=6
  ·rw[if_neg (show¬k=3 by omega),if_neg (show¬k=4 by omega),if_pos h6]at hc ⊢
   rw[if_pos h6]at hl ⊢;subst h6;have fB:=LX hB;have hle:=oB fB f0 f1;have hl':live (gA {s with d:=s.d+aM s fb fa} fb fa 0)+aM s fb fa=live s+0:=kH {s with d:=s.d+aM s fb fa} fb fa 0 f0 f1;obtain rfl:a=1:=by simp[jQ]at hl;omega
   rw[K4];unfold bD;rw[if_neg qo,if_neg qo,if_pos rfl];omega
  ·rw[if_neg h6]at hl ⊢
   rw[if_neg h6,if_neg h7];obtain rfl:a=0:=by simp at hl;omega
   by_cases h3:k=3
   ·rw[if_pos h3]
    rfl
   ·rw[if_neg h3]
    by_cases h4:k=4
    ·rw[if_pos h4,BV (EM (.inl h4) hB) f0 f1 t0 t1]
     rfl
    ·rw[if_neg h4]
     rfl
def j4 (n:Nat)(F:Nat→Nat)(k:Nat):List Int:=(List.range n).map fun j=>if j<k then(F j:Int)else 0
theorem OW (n:Nat)(F:Nat→Nat):j4 n F 0=List.replicate n 0:=by
 apply List.ext_getElem?
 intro j
 by_cases hj:j<n
 ·simp[j4,hj]
 ·simp[j4,hj]
theorem OX (n:Nat)(F:Nat→Nat){k:Nat}(hk:k<n):(j4 n F k).set k (F k:Int)=j4 n F (k+1):=by
 apply List.ext_getElem?
 intro j;rw[List.getElem?_set]
 by_cases hjk:k=j
 ·subst hjk
  rw[if_pos rfl,if_pos (by simp[j4];omega)]
  simp[j4,hk]
 ·rw[if_neg hjk]
  by_cases hj:j<n
  ·simp only[j4,List.getElem?_map,List.getElem?_range hj,Option.map_some]
   by_cases h:j<k
   ·rw[if_pos h,if_pos qo]
   ·rw[if_neg h,if_neg qo]
  ·simp[j4,hj]
theorem T6 {n:Nat}(p:G.PM n):j4 n p.f n=G.pl p:=by
 refine List.map_congr_left fun j hj=>?_;rw[if_pos (List.mem_range.1 hj)]
theorem QW (n:Nat)(w:World)(hn:n≤1000):Calls Tryz.prog 169 #[.int .i64 n] w (lO w (G.pl (G.one:G.PM n))):=by
 obtain⟨cs,hcs,hcv,hmk⟩:=wJ n qo;have HO:=qh (p8 w cs n qo hcs hcv);have HB:=qh ((Below.refl w.heap.size w).alloc ql (.cells cs 2));clear hcv
 go_enter Tryz.func169,Tryz.ntmps169
 go_wp2_with fail
 clear hmk
 go_loopw [9] (fun x wr=>∃k:Nat,k≤n∧x=.int .i64 k∧Hq (wr.ownsRow w.heap.size 2 1 (.slice (some ⟨w.heap.size,0,none⟩) n n) n (ints (j4 n (fun j=>j) k)))∧Hq (Below w.heap.size w wr)) (fun x _=>n-(intOf x).toNat)
 case atStart=>exact⟨0,Nat.zero_le _,rfl,qh (by rw[OW];exact HO.o),HB⟩
 case round=>
  obtain⟨k,hk,rfl,aH,HB2⟩:=hrel
  by_cases hlt:k<n
  ·have bN:=qh (OX n (fun j=>j) hlt)
   have hl:(ints (j4 n (fun j=>j) k)).length=n:=by simp[ints,j4]
   obtain⟨y,hy⟩:∃y,wr.cell? ⟨w.heap.size,k,none⟩=some y:=⟨_,(aH.o.cellAt k qo).trans (List.getElem?_eq_getElem qo)⟩;have hf:=aH.o.frozenAt k;have HST:=qh (aH.o.stored k (.int .i64 k)).1;have HB3:=qh (Below.setCell (p:=⟨w.heap.size,k,none⟩) HB2.o ql (.int .i64 k));have b1:(0:Int)≤(k:Int):=qo;have b2:(k:Int)<(n:Int):=qo;clear hl
   go_wp2
   go_roundw
   case rel=>exact⟨k+1,by omega,qg,qh (by
    have h:=HST.o;rw[show(ints (j4 n (fun j=>j) k)).set k (.int .i64 k)=ints ((j4 n (fun j=>j) k).set k (k:Int))by simp[ints,List.map_set],bN.o]at h;exact h),HB3⟩
   case measure=>exact qs
  ·obtain rfl:n=k:=qo
   go_wp2
   go_ret
   exact⟨_,rfl,by rw[G.aC,←T6];exact aH.o,HB2.o⟩
theorem ng {n:Nat}(p q:G.PM n)(A B:OA)(c c':Nat)(w:World)(ha:cX w A (G.pl p))(hb:cX w B (G.pl q))(hn:n≤1000):Calls Tryz.prog 143 #[.slice A n c,.slice B n c'] w (lO w (G.pl (p.mul q))):=by
 obtain⟨cs,hcs,hcv,hmk⟩:=wJ n qo;have HO:=qh (p8 w cs n qo hcs hcv);have HB:=qh ((Below.refl w.heap.size w).alloc ql (.cells cs 2));have HA:=qh ha;have dX:=qh hb;clear hcv ha hb
 go_enter Tryz.func143,Tryz.ntmps143
 go_wp2_with fail
 clear hmk
 go_loopw [13] (fun x wr=>∃k:Nat,k≤n∧x=.int .i64 k∧Hq (wr.ownsRow w.heap.size 2 1 (.slice (some ⟨w.heap.size,0,none⟩) n n) n (ints (j4 n (p.mul q).f k)))∧Hq (Below w.heap.size w wr)) (fun x _=>n-(intOf x).toNat)
 case atStart=>exact⟨0,Nat.zero_le _,rfl,qh (by rw[OW];exact HO.o),HB⟩
 case round=>
  obtain⟨k,hk,rfl,aH,HB2⟩:=hrel
  by_cases hlt:k<n
  ·obtain⟨ga,o,rfl,hg,hr⟩:=HA.o (by rw[G.aC];omega)
   obtain⟨gb,o',rfl,hg',hr'⟩:=dX.o (by rw[G.aC];omega);have hp:=p.lt hlt;have hc:=aD HB2.o hg (hr k (by rw[G.aC];exact hlt));have hd:=aD HB2.o hg' (hr' (p.f k) (by rw[G.aC];exact hp))
   simp only[G.j6 p hlt]at hc
   simp only[G.j6 q hp]at hd
   have bN:=qh (show(j4 n (p.mul q).f k).set k (q.f (p.f k):Int)=j4 n (p.mul q).f (k+1)from OX n (p.mul q).f hlt);obtain⟨P,hP⟩:=qx (p.f k);rw[←hP]at hp bN
   simp only[←hP]at hc hd
   obtain⟨Q,hQ⟩:=qx (q.f P);rw[←hQ]at bN
   simp only[←hQ]at hd
   have hl:(ints (j4 n (p.mul q).f k)).length=n:=by simp[ints,j4]
   obtain⟨y,hy⟩:∃y,wr.cell? ⟨w.heap.size,k,none⟩=some y:=⟨_,(aH.o.cellAt k qo).trans (List.getElem?_eq_getElem qo)⟩;have hf:=aH.o.frozenAt k;have HST:=qh (aH.o.stored k (.int .i64 Q)).1;have HB3:=qh (Below.setCell (p:=⟨w.heap.size,k,none⟩) HB2.o ql (.int .i64 Q));have b1:(0:Int)≤(k:Int):=qo;have b2:(k:Int)<(n:Int):=qo;have b3:(0:Int)≤(P:Int):=qo;have b4:(P:Int)<(n:Int):=qo;clear hr hr' hP hQ hl
   go_wp2
   go_roundw
   case rel=>exact⟨k+1,by omega,qg,qh (by
    have h:=HST.o;rw[show(ints (j4 n (p.mul q).f k)).set k (.int .i64 Q)=ints ((j4 n (p.mul q).f k).set k (Q:Int))by simp[ints,List.map_set],bN.o]at h;exact h),HB3⟩
   case measure=>exact qs
  ·obtain rfl:n=k:=qo
   go_wp2
   go_ret
   exact⟨_,rfl,by rw[G.aC,←T6];exact aH.o,HB2.o⟩
theorem Dy {n:Nat}(p:G.PM n)(A:OA)(c:Nat)(w:World)(ha:cX w A (G.pl p))(hn:n≤1000):Calls Tryz.prog 210 #[.slice A n c] w (lO w (G.pl p.inv)):=by
 obtain⟨cs,hcs,hcv,hmk⟩:=wJ n qo;have HO:=qh (p8 w cs n qo hcs hcv);have HB:=qh ((Below.refl w.heap.size w).alloc ql (.cells cs 2));have HA:=qh ha;clear hcv ha
 go_enter Tryz.func210,Tryz.ntmps210
 go_wp2_with fail
 clear hmk
 go_loopw [11] (fun x wr=>∃k:Nat,k≤n∧x=.int .i64 k∧Hq (wr.ownsRow w.heap.size 2 1 (.slice (some ⟨w.heap.size,0,none⟩) n n) n (ints (mG p k)))∧Hq (Below w.heap.size w wr)) (fun x _=>n-(intOf x).toNat)
 case atStart=>exact⟨0,Nat.zero_le _,rfl,qh (by rw[SN];exact HO.o),HB⟩
 case round=>
  obtain⟨k,hk,rfl,aH,HB2⟩:=hrel
  by_cases hlt:k<n
  ·obtain⟨ga,o,rfl,hg,hr⟩:=HA.o (by rw[G.aC];omega)
   have hc:=aD HB2.o hg (hr k (by rw[G.aC];exact hlt))
   simp only[G.j6 p hlt]at hc
   have hp:=p.lt hlt;have bN:=qh (SO p hlt);obtain⟨P,hP⟩:=qx (p.f k);rw[←hP]at hp bN
   simp only[←hP]at hc
   have hl:(ints (mG p k)).length=n:=by simp[ints,mG]
   obtain⟨y,hy⟩:∃y,wr.cell? ⟨w.heap.size,P,none⟩=some y:=⟨_,(aH.o.cellAt P qo).trans (List.getElem?_eq_getElem qo)⟩;have hf:=aH.o.frozenAt P;have HST:=qh (aH.o.stored P (.int .i64 k)).1;have HB3:=qh (Below.setCell (p:=⟨w.heap.size,P,none⟩) HB2.o ql (.int .i64 k));have b1:(0:Int)≤(k:Int):=qo;have b2:(k:Int)<(n:Int):=qo;have b3:(0:Int)≤(P:Int):=qo;have b4:(P:Int)<(n:Int):=qo;clear hr hP hl
   go_wp2
   go_roundw
   case rel=>exact⟨k+1,by omega,qg,qh (by
    have h:=HST.o;rw[show(ints (mG p k)).set P (.int .i64 k)=ints ((mG p k).set P k)by simp[ints,List.map_set],bN.o]at h;exact h),HB3⟩
   case measure=>exact qs
  ·obtain rfl:n=k:=qo
   go_wp2
   go_ret
   exact⟨_,rfl,by rw[G.aC,←WP];exact aH.o,HB2.o⟩
theorem ab0 {n k:Nat}(hk:1≤k)(hn:k<n):((G.pl (G.one:G.PM n)).set (k-1) (k:Int)).set k ((k-1:Nat):Int)=G.pl (G.sig n k):=(VW (G.one:G.PM n) hk hn).trans rfl
theorem DL (n k:Nat)(w:World)(hn:n≤1000)(hk:1≤k)(hkn:k<n):Calls Tryz.prog 140 #[.int .i64 n,.int .i64 k] w (lO w (G.pl (G.sig n k))):=by
 go_enter Tryz.func140,Tryz.ntmps140
 go_wp2_with fail
 refine(QW n _ hn).mono ?_;rintro e w1 ⟨v1,rfl,ho1,hb1⟩;rw[G.aC]at ho1;obtain⟨g1,c1,rfl⟩:∃g1 c1,v1=.slice (some ⟨g1,0,none⟩) n c1:=by
  rcases ho1.2 with⟨_,h0⟩|⟨g1,cap,_,e,_⟩
  ·omega
  ·exact⟨g1,cap,e⟩
 have hg1:=ho1.lt g1 rfl;obtain⟨j,rfl⟩:∃j,k=j+1:=⟨k-1,by omega⟩;have HPB:=qh (ab0 (n:=n) hk hkn);rw[Nat.add_sub_cancel]at HPB;have hl:(ints (G.pl (G.one:G.PM n))).length=n:=by simp[ints,G.aC]
 obtain⟨y1,hy1⟩:∃y,w1.cell? ⟨g1,j,none⟩=some y:=⟨_,(ho1.cellAt j qo).trans (List.getElem?_eq_getElem qo)⟩;obtain⟨y2,hy2⟩:∃y,w1.cell? ⟨g1,j+1,none⟩=some y:=⟨_,(ho1.cellAt (j+1) qo).trans (List.getElem?_eq_getElem qo)⟩;have f1:=ho1.frozenAt j;have f2:=ho1.frozenAt (j+1);have jM:=qh ((ho1.stored j (.int .i64 ((j+1:Nat):Int))).1.stored (j+1) (.int .i64 (j:Int))).1;have hB:=(hb1.setCell (p:=⟨g1,j,none⟩) hg1.1 (.int .i64 ((j+1:Nat):Int))).setCell (p:=⟨g1,j+1,none⟩) hg1.1 (.int .i64 (j:Int));have HB:=qh hB;have e1:((j+1:Nat):Int)-1=(j:Int):=qo;have b1:(0:Int)≤(j:Int):=qo;have b2:(j:Int)<(n:Int):=qo;have b3:(0:Int)≤((j+1:Nat):Int):=qo;have b4:((j+1:Nat):Int)<(n:Int):=qo;clear hl hB ho1 hb1
 go_wp2
 go_ret
 refine⟨_,rfl,?_,HB.o⟩;have h:=jM.o;rw[show((ints (G.pl (G.one:G.PM n))).set j (.int .i64 ((j+1:Nat):Int))).set (j+1) (.int .i64 (j:Int))=ints (((G.pl (G.one:G.PM n)).set j ((j+1:Nat):Int)).set (j+1) (j:Int))by simp[ints,List.map_set],HPB.o]at h;rw[G.aC];exact h
def sT (f:Nat→Nat)(k:Nat):List Int:=(G.gO f k).map fun x=>x-1
theorem Tp (f:Nat→Nat)(k:Nat):sT f (k+1)=sT f k++(if 1≤k∧f k<f (k-1)then [(k:Int)-1]else []):=by
 have h:G.gO f (k+1)=G.gO f k++(if 1≤k∧f k<f (k-1)then [(k:Int)]else []):=rfl;rw[sT,h,List.map_append]
 congr 1
 split<;>rfl
theorem P4 (f:Nat→Nat)(k:Nat):(sT f k).length≤k:=by
 rw[sT,List.length_map];exact G.pV f k
theorem XY {n:Nat}(p:G.PM n)(A:OA)(c:Nat)(w:World)(ha:cX w A (G.pl p))(hn:n≤1000):Calls Tryz.prog 215 #[.slice A n c] w (lO w (sT p.f n)):=by
 obtain⟨i0,hi,iz,is,ib⟩:=info_parts info64;have HO:=qh (World.ownsRow_made (e:=2) (size:=1) w #[] 0 ql qm rfl);have HB:=qh ((Below.refl w.heap.size w).alloc ql (.cells #[] 2));have HA:=qh ha;clear ha
 go_enter Tryz.func215,Tryz.ntmps215
 go_wp2_with fail
 go_loopw [3,4] (fun v x wr=>∃k:Nat,(k<n∨k=0)∧x=.int .i64 k∧Hq (wr.ownsRow w.heap.size 2 1 v (sT p.f (k+1)).length (ints (sT p.f (k+1))))∧Hq (Below w.heap.size w wr)) (fun _ x _=>n-(intOf x).toNat)
 case atStart=>exact⟨0,.inr rfl,rfl,HO,HB⟩
 case round=>
  obtain⟨k,hk,rfl,aH,HB2⟩:=hrel
  by_cases hlt:k+1<n
  ·obtain⟨ga,o,rfl,hg,hr⟩:=HA.o (by rw[G.aC];omega)
   have hc:=aD HB2.o hg (hr (k+1) (by rw[G.aC];exact hlt));have hc0:=aD HB2.o hg (hr k (by rw[G.aC];omega))
   simp only[G.j6 p hlt]at hc
   simp only[G.j6 p (show k<n by omega)]at hc0
   have bN:=qh (Tp p.f (k+1));rw[Nat.add_sub_cancel]at bN;have hll:=P4 p.f (k+1);obtain⟨P,hP⟩:=qx (p.f (k+1));obtain⟨Q,hQ⟩:=qx (p.f k);rw[←hP,←hQ]at bN
   simp only[←hP]at hc
   simp only[←hQ]at hc0
   have b0:(k:Int)+1<(n:Int):=qo;have b1:(0:Int)≤(k:Int)+1:=qo;have b3:(0:Int)≤(k:Int):=qo;have b4:(k:Int)<(n:Int):=qo;clear hr hP hQ
   by_cases hd:P<Q
   ·have eS:=qh (show sT p.f (k+1+1)=sT p.f (k+1)++[(k:Int)]by rw[bN.o,if_pos ⟨by omega,hd⟩,show((k+1:Nat):Int)-1=k by omega])
    have hdb:(P:Int)<(Q:Int):=qo
    go_wp2_with fail
    go_quiet (fail)
    have bP:=qh (own_drewN aH.o nq);have aR:=qh (Below.drewN' HB2.o nq)
    go_wp2_with (at_builtin;go_must (refine bV (wr.drewN nq) rfl (.tmp 23) (.tmp 25) _ rfl w.heap.size 2 i0 _ 1 8 Tryz.underlying34 hi iz is ib rfl qo u3 _ _ rfl bP.o _ 1 1 _ rfl rfl (by simp[Value.oneCell']) qm qo aR.o.size ?_);intro v' w' hown' hb';have bS:=qh hown';have HB3:=qh (aR.o.trans hb');clear hown' hb')
    go_roundw
    case rel=>exact⟨k+1,.inl qo,qg,qh (by rw[eS.o,aT,List.length_append];exact bS.o),HB3⟩
    case measure=>exact qs
   ·have eS:=qh (show sT p.f (k+1+1)=sT p.f (k+1)by rw[bN.o,if_neg (fun h=>hd h.2),List.append_nil])
    have hdb:¬(P:Int)<(Q:Int):=qo
    go_wp2_with fail
    go_quiet (fail)
    go_wp2_with fail
    go_roundw
    case rel=>exact⟨k+1,.inl qo,qg,qh (by rw[eS.o];exact own_drewN aH.o nq),qh (Below.drewN' HB2.o nq)⟩
    case measure=>exact qs
  ·have b0:¬(k:Int)+1<(n:Int):=qo
   go_wp2
   go_ret
   have e:sT p.f (k+1)=sT p.f n:=by
    rcases hk with hk|rfl
    ·rw[show k+1=n by omega]
    ·rcases(show n=0∨n=1 by omega)with rfl|rfl
     ·rfl
     ·rfl
   exact⟨_,rfl,by rw[←e];exact aH.o,HB2.o⟩
def tZ (L:List Int)(k:Nat):List Int:=(L.take k).map (fun x=>x+1)++L.drop k
theorem kr (L:List Int)(k:Nat):(tZ L k).length=L.length:=by simp[tZ];omega
theorem Sc {L:List Int}{k:Nat}(hk:k<L.length):(tZ L k)[k]?=L[k]?:=by
 simp only[tZ]
 rw[List.getElem?_append_right (by simp;omega),List.getElem?_drop]
 congr 1
 simp
 omega
theorem La {L:List Int}{k:Nat}(hk:k<L.length):(tZ L k).set k (L.getD k 0+1)=tZ L (k+1):=by
 simp only[tZ]
 rw[List.set_append,if_neg (by simp;omega)];have e:((L.take k).map fun x=>x+1).length=k:=by simp;omega
 rw[e,Nat.sub_self,List.drop_eq_getElem_cons hk,List.set_cons_zero,List.take_succ_eq_append_getElem hk,List.map_append,List.append_assoc]
 simp[List.getD,hk]
theorem Sd (f:Nat→Nat)(n:Nat):tZ (sT f n) (sT f n).length=G.gO f n:=by
 simp only[tZ]
 rw[List.take_length,List.drop_length,List.append_nil,sT,List.map_map]
 conv=>rhs;rw[←List.map_id (G.gO f n)]
 exact List.map_congr_left fun x _=>by simp
theorem Nj (f:Nat→Nat)(n:Nat)(x:Int)(h:x∈sT f n): -1≤x∧x≤n:=by
 obtain⟨y,hy,rfl⟩:=List.mem_map.1 h;obtain⟨k,rfl,_,h2,_⟩:=G.yY.1 hy;omega
theorem zE {n:Nat}(p:G.PM n)(A:OA)(c:Nat)(w:World)(ha:cX w A (G.pl p))(hn:n≤1000):Calls Tryz.prog 209 #[.slice A n c] w (lO w (G.gO p.f n)):=by
 go_enter Tryz.func209,Tryz.ntmps209
 go_wp2_with fail
 refine(XY p A c w ha hn).mono ?_;clear ha;rintro e w1 h1;obtain⟨A1,c1,rfl,ho1,hr1,hb1⟩:=h1.rd;have iX:=qh (Sd p.f n);have BI:=qh (Nj p.f n);have hll:=P4 p.f n;obtain⟨L,hL⟩:=qx (sT p.f n);rw[←hL]at iX BI hll ho1 hr1 ⊢;have aO:=qh ho1;have HB1:=qh hb1;clear h1 ho1 hr1 hb1 hL;obtain⟨m,hm⟩:=qx (L.length);rw[←hm]at aO iX hll ⊢;have HM:=qh hm;clear hm
 go_wp2_with fail
 go_loopw [9] (fun x wr=>∃k:Nat,k≤m∧x=.int .i64 k∧Hq (wr.ownsRow w.heap.size 2 1 (.slice A1 m c1) m (ints (tZ L k)))∧Hq (Below w.heap.size w wr)) (fun x _=>m-(intOf x).toNat)
 case atStart=>exact⟨0,Nat.zero_le _,rfl,qh (by simp only[tZ,List.take_zero,List.map_nil,List.drop_zero,List.nil_append];exact aO.o),HB1⟩
 case round=>
  obtain⟨k,hk,rfl,aH,HB2⟩:=hrel
  by_cases hlt:k<m
  ·obtain⟨g1,rfl⟩:∃g1,A1=some ⟨g1,0,none⟩:=by
    rcases aH.o.2 with⟨_,h0⟩|⟨g1,cap,_,e,_⟩
    ·omega
    ·injection e with e _ _
     exact⟨g1,e⟩
   have hkl:k<L.length:=by rw[←HM.o];exact hlt
   have hc:wr.cell? ⟨g1,k,none⟩=some (.int .i64 (L.getD k 0)):=by
    rw[aH.o.cellAt k qo]
    simp[ints,Sc hkl,List.getD,hkl]
   have bN:=qh (La hkl);have hbd:=BI.o (L.getD k 0) (by simp[List.getD,hkl]);obtain⟨x,hx⟩:=qx (L.getD k 0);rw[←hx]at hbd bN
   simp only[←hx]at hc
   have hf:=aH.o.frozenAt k;have s1:IntKind.i64.wrap (x+1)=x+1:=IntWalk.i64_in _ qo;have HST:=qh (aH.o.stored k (.int .i64 (x+1))).1;have HB3:=qh (Below.setCell (p:=⟨g1,k,none⟩) HB2.o (aH.o.lt g1 rfl).1 (.int .i64 (x+1)));have b1:(0:Int)≤(k:Int):=qo;have b2:(k:Int)<(m:Int):=qo;clear hx
   go_wp2
   go_roundw
   case rel=>exact⟨k+1,by omega,qg,qh (by
    have h:=HST.o;rw[show(ints (tZ L k)).set k (.int .i64 (x+1))=ints ((tZ L k).set k (x+1))by simp[ints,List.map_set],bN.o]at h;exact h),HB3⟩
   case measure=>exact qs
  ·obtain rfl:m=k:=qo
   go_wp2
   go_ret
   have h:=aH.o;rw[iX.o]at h;refine⟨_,rfl,?_,HB2.o⟩;have e:(G.gO p.f n).length=m:=by rw[←iX.o,kr];exact HM.o.symm
   rw[e];exact h
def RdN (w:World)(n:Nat)(L:List Int)(e:Ending)(w':World):Prop:=∃A c,e=.returned (.slice A n c)∧cX w' A L∧Below w.heap.size w w'∧∀m b,Fb A m b→w.heap.size≤b
theorem dS.ahp {w:World}{B g n c:Nat}{xs:List Value}(ho:w.ownsRow B 2 1 (.slice (some ⟨g,0,none⟩) n c) n xs):dS w g 0 n:=by
 have h:=dS.kM ho;rwa[Nat.mul_one]at h
theorem FZ (n:Nat)(w:World)(hn:n≤1000)(h0:1≤n):Calls Tryz.prog 144 #[.int .i64 n] w (RdN w n (G.pl (G.del:G.PM n))):=by
 go_enter Tryz.func144,Tryz.ntmps144
 go_wp2_with fail
 refine(QW n _ hn).mono ?_;rintro e w1 ⟨v1,rfl,ho1,hb1⟩;rw[G.aC]at ho1;obtain⟨g1,c1,rfl⟩:∃g1 c1,v1=.slice (some ⟨g1,0,none⟩) n c1:=by
  rcases ho1.2 with⟨_,h0⟩|⟨g1,cap,_,e,_⟩
  ·omega
  ·exact⟨g1,cap,e⟩
 have hg1:=ho1.lt g1 rfl;have hw:=dS.ahp ho1;have hr:bI w1 g1 0 n (fun j=>.int .i64 ((fun(i:Nat)=>(i:Int)) j)):=fun j hj=>by
  rw[Nat.zero_add,ho1.cellAt j qo]
  simp[ints,G.pl,hj,G.one]
 have aee:=qh (U4 g1 n c1 (fun(i:Nat)=>(i:Int)) w1 hw hr qo);have HB1:=qh hb1;clear hw hr ho1 hb1
 go_wp2_with fail
 refine aee.o.mono ?_;rintro e w2 ⟨rfl,ho,hw,hr⟩;have HB2:=qh (HB1.o.trans ((Fr.QK (F:=fun x=>x=g1) ho rfl).below (B:=w.heap.size) qo (fun b hb=>by rw[hb];exact hg1.1)));have HR:=qh (show cX w2 (some ⟨g1,0,none⟩) (G.pl (G.del:G.PM n))from fun _=>by
  refine⟨g1,0,rfl,Nat.lt_of_lt_of_le hg1.2 (Fr.QK (F:=fun x=>x=g1) ho rfl).size,fun j hj=>?_⟩;rw[G.aC]at hj;rw[hr j hj]
  simp only[G.j6 _ hj]
  show some (Value.int .i64 ((n-1-j:Nat):Int))=some (.int .i64 ((G.rev n j:Nat):Int));rw[G.dZ hj])
 clear ho hw hr aee
 go_wp2_with fail
 go_ret
 exact⟨_,_,rfl,HR.o,HB2.o,fun m b ⟨_,a,ha,hb⟩=>by injection ha with ha;rw[←hb,←ha];exact hg1.1⟩
def ah3 (w:World)(b:Bool)(e:Ending)(w':World):Prop:=∃i:Int,e=.returned (.int .i64 i)∧ -1≤i∧i≤2000000∧decide (0≤i)=b∧w=w'
theorem Ea (A:OA)(c:Nat)(L:List Int)(x:Int)(w:World)(ha:cX w A L)(hn:L.length≤1048576):
 Calls Tryz.prog 216 #[.slice A L.length c,.int .i64 x] w (ah3 w (decide (x∈L))):=by
 have HA:=qh ha;clear ha
 go_enter Tryz.func216,Tryz.ntmps216
 go_wp2
 go_loop [8] (fun i=>∃k:Nat,k≤L.length∧i=.int .i64 k∧Hq (x∉L.take k)) (fun i=>L.length-(intOf i).toNat)
 case atStart=>exact⟨0,Nat.zero_le _,rfl,qh qj⟩
 case round=>
  obtain⟨k,hk,rfl,HX⟩:=hrel
  by_cases hlt:k<L.length
  ·obtain⟨ga,o,rfl,hg,hr⟩:=HA.o qo
   have hc:=hr k hlt;have HM:=qh (FW hlt x);obtain⟨y,hy⟩:=qx (L.getD k 0)
   simp only[←hy]at hc HM
   have HY:=qh (show y∈L by rw[hy];simp[List.getD,hlt]);have b1:(0:Int)≤(k:Int):=qo;have b2:(k:Int)<(L.length:Int):=qo;clear hr hy
   by_cases hxy:x=y
   ·subst hxy
    have HD:=qh (show decide (x∈L)=true from decide_eq_true HY.o)
    go_wp2
    go_ret
    exact⟨k,rfl,by omega,by omega,by rw[HD.o];exact decide_eq_true qo,rfl⟩
   ·have hxb:(x==y)=false:=by simpa using hxy
    go_wp2
    go_round
    case rel=>exact⟨k+1,by omega,qg,qh (by rw[HM.o];rintro(h|h);exact HX.o h;exact hxy h)⟩
    case measure=>exact qs
  ·obtain rfl:L.length=k:=qo
   have HD:=qh (show decide (x∈L)=false from decide_eq_false (by have:=HX.o;rwa[List.take_length]at this))
   go_wp2
   go_ret
   exact⟨-1,rfl,by omega,by omega,by rw[HD.o];rfl,rfl⟩
theorem UU (A:OA)(c:Nat)(L:List Int)(x:Int)(w:World)(ha:cX w A L)(hn:L.length≤1048576):
 Calls Tryz.prog 211 #[.slice A L.length c,.int .i64 x] w fun e w'=>e=.returned (.bool (decide (x∈L)))∧w=w':=by
 go_enter Tryz.func211,Tryz.ntmps211
 go_wp2_with fail
 refine(Ea A c L x w ha hn).mono ?_;rintro e w1 ⟨i,rfl,h1,h2,h3,rfl⟩;have H3:=qh h3;clear h3
 go_wp2_with fail
 go_ret
 exact⟨by rw[←H3.o];first|rfl|simp,rfl⟩
theorem ji {n:Nat}(p q:G.PM n)(A B:OA)(c c':Nat)(w:World)(ha:cX w A (G.pl p))(hb:cX w B (G.pl q))(hn:n≤1000):
 Calls Tryz.prog 195 #[.slice A n c,.slice B n c'] w fun e w'=>e=.returned (.int .i64 (G.ext p q))∧Below w.heap.size w w':=by
 have HA:=qh ha;have HB:=qh hb;clear ha hb
 go_enter Tryz.func195,Tryz.ntmps195
 go_wp2_with fail
 refine(Dy p A c _ HA.o hn).mono ?_;rintro e w0 h0;obtain⟨A0,c0,rfl,_,hr0,hb0⟩:=h0.rd;have HR0:=qh hr0;have HB0:=qh hb0;have ae1:=qh (Rd.below HB.o hb0);rw[G.aC];clear h0 hr0 hb0
 go_wp2_with fail
 refine(zE p.inv A0 c0 _ HR0.o hn).mono ?_;rintro e w1 h1;obtain⟨A1,c1,rfl,_,hr1,hb1⟩:=h1.rd;have HR1:=qh (show cX w1 A1 (G.gO p.g n)from hr1);have HB1:=HB0.st hb1;have dX:=qh (Rd.below ae1.o hb1);have e1:(G.gO p.inv.f n).length=(G.gO p.g n).length:=rfl;rw[e1];clear h1 hr1 hb1 e1 HR0 HB0 ae1
 go_wp2_with fail
 refine(zE q B c' _ dX.o hn).mono ?_;rintro e w2 h2;obtain⟨A2,c2,rfl,_,hr2,hb2⟩:=h2.rd;have HR2:=qh hr2;have HB2:=HB1.st hb2;have HR3:=qh (Rd.below HR1.o hb2);have hs1:=G.pV p.g n;have hs2:=G.pV q.f n;have tA:=qh (show G.ext p q=G.fm (G.gO p.g n) (G.gO q.f n)from rfl);clear h2 hr2 hb2 HR1 HB dX;obtain⟨E,hE⟩:=qx (G.gO p.g n);obtain⟨S,hS⟩:=qx (G.gO q.f n)
 simp only[←hE,←hS]at HR2 HR3 tA hs1 hs2 ⊢
 clear hE hS
 go_wp2_with fail
 go_loopw [14] (fun x wr=>∃i:Nat,i≤S.length∧x=.int .i64 i∧wr=w2∧Hq (∀y∈S.take i,y∈E)) (fun x _=>S.length-(intOf x).toNat)
 case atStart=>exact⟨0,Nat.zero_le _,rfl,rfl,qh qj⟩
 case round=>
  obtain⟨i,hi,rfl,rfl,HX⟩:=hrel
  by_cases hlt:i<S.length
  ·obtain⟨gs,o,rfl,hg,hr⟩:=HR2.o qo
   have hc:=hr i hlt;have HT:=qh (show S.take (i+1)=S.take i++[S.getD i 0]by rw[List.take_succ_eq_append_getElem hlt];simp[List.getD,hlt]);have HD:=qh (show S.drop i=S.getD i 0::S.drop (i+1)by rw[List.drop_eq_getElem_cons hlt];simp[List.getD,hlt]);obtain⟨y,hy⟩:=qx (S.getD i 0)
   simp only[←hy]at hc HT HD
   have b1:(0:Int)≤(i:Int):=qo;have b2:(i:Int)<(S.length:Int):=qo;clear hr hy
   go_wp2_with fail
   refine(UU A1 c1 E y _ HR3.o qo).mono ?_;rintro e w3 ⟨rfl,rfl⟩
   by_cases hm:y∈E
   ·rw[decide_eq_true hm]
    go_wp2
    go_roundw
    case rel=>exact⟨i+1,by omega,qg,by trivial,qh (by
     rw[HT.o];intro z hz
     rcases List.mem_append.1 hz with h|h
     ·exact HX.o z h
     ·rw[List.mem_singleton.1 h]
      exact hm)⟩
    case measure=>exact qs
   ·rw[decide_eq_false hm]
    have HXY:=qh (show G.ext p q=y by
     have h1:=tA.o;rw[←List.take_append_drop i S,G.OT _ _ _ HX.o,HD.o]at h1;rw[h1]
     simp only[G.fm]
     rw[if_neg hm])
    go_wp2
    go_ret
    exact⟨by rw[HXY.o];rfl,HB2.o⟩
  ·obtain rfl:S.length=i:=qo
   have HX0:=qh (show G.ext p q=0 by
    have h1:=tA.o;have h2:=HX.o;rw[List.take_length]at h2;rw[h1,←List.append_nil S,G.OT _ _ _ h2]
    rfl)
   go_wp2
   go_ret
   exact⟨by rw[HX0.o];rfl,HB2.o⟩
def OwnAt (w:World)(B:Nat)(e:TypeId)(v:Value)(n:Nat)(xs:List Value):Prop:=
 xs.length=n∧((v=.slice none 0 0∧n=0)∨∃g o cap cur,v=.slice (some ⟨g,o,none⟩) n cap∧B≤g∧w.heap[g]?=some (.cells cur e (0,0))∧n≤cap∧cap≤maxLen∧o+cap≤cur.size∧(cur.toList.drop o).take n=xs)
section
variable {B:Nat}{e:TypeId}{v:Value}{n:Nat}{xs:List Value}{w w':World}
theorem OwnAt.of (h:w.ownsRow B e 1 v n xs):OwnAt w B e v n xs:=by
 refine⟨by have:=h.1;omega,?_⟩
 rcases h.2 with hn|⟨g,cap,cur,hv,hB,hg,h1,h2,h3,h4⟩
 ·exact .inl hn
 ·exact .inr ⟨g,0,cap,cur,hv,hB,hg,h1,h2,by omega,by simpa using h4⟩
theorem OwnAt.lt (h:OwnAt w B e v n xs):∀b,v.ownBlock=some b→B≤b∧b<w.heap.size:=fun b hb=>by
 rcases h.2 with⟨rfl,_⟩|⟨g,o,cap,cur,rfl,hB,hg,_⟩
 ·cases hb
 ·injection hb with hb
  subst hb;exact⟨hB,(Array.getElem?_eq_some_iff.1 hg).1⟩
theorem OwnAt.blk (h:OwnAt w B e v n xs)(hk:∀b,v.ownBlock=some b→w'.heap[b]?=w.heap[b]?):OwnAt w' B e v n xs:=by
 refine⟨h.1,?_⟩
 rcases h.2 with hn|⟨g,o,cap,cur,rfl,hB,hg,rest⟩
 ·exact .inl hn
 ·exact .inr ⟨g,o,cap,cur,rfl,hB,(hk g rfl).trans hg,rest⟩
theorem OwnAt.base {B':Nat}(h:OwnAt w B e v n xs)(hB:B'≤B):OwnAt w B' e v n xs:=by
 refine⟨h.1,?_⟩
 rcases h.2 with hn|⟨g,o,cap,cur,rfl,hb,rest⟩
 ·exact .inl hn
 ·exact .inr ⟨g,o,cap,cur,rfl,Nat.le_trans hB hb,rest⟩
theorem OwnAt.form (h:OwnAt w B e v n xs)(hn:0<n):∃g o cap,v=.slice (some ⟨g,o,none⟩) n cap∧(n≤cap∧cap≤maxLen)∧B≤g∧g<w.heap.size:=by
 rcases h.2 with⟨_,h0⟩|⟨g,o,cap,cur,rfl,hB,hg,h1,h2,_⟩
 ·omega
 ·exact⟨g,o,cap,rfl,⟨h1,h2⟩,hB,(Array.getElem?_eq_some_iff.1 hg).1⟩
theorem OwnAt.sl (h:OwnAt w B e v n xs):∃A c,v=.slice A n c:=by
 rcases h.2 with⟨rfl,rfl⟩|⟨g,o,cap,cur,rfl,_⟩
 ·exact⟨_,_,rfl⟩
 ·exact⟨_,_,rfl⟩
theorem OwnAt.cellAt {g o cap:Nat}(h:OwnAt w B e (.slice (some ⟨g,o,none⟩) n cap) n xs){j:Nat}(hj:j<n):w.cell? ⟨g,o+j,none⟩=xs[j]?:=by
 rcases h.2 with⟨h',_⟩|⟨g',o',cap',cur,h',_,hg,h1,_,h3,h4⟩
 ·cases h'
 ·injection h' with h' _ _
  injection h' with h';injection h' with h5 h6;subst h5 h6;rw[cell_of_row w g (o+j) cur e (0,0) hg,←h4,List.getElem?_take,if_pos hj,List.getElem?_drop]
  simp
theorem OwnAt.frozenAt {g o cap:Nat}(h:OwnAt w B e (.slice (some ⟨g,o,none⟩) n cap) n xs)(j:Nat):w.frozen? ⟨g,j,none⟩=false:=by
 rcases h.2 with⟨h',_⟩|⟨g',o',cap',cur,h',_,hg,_⟩
 ·cases h'
 ·injection h' with h' _ _
  injection h' with h';injection h' with h5 _;subst h5
  simp[World.frozen?,hg]
theorem OwnAt.stored {g o cap:Nat}(h:OwnAt w B e (.slice (some ⟨g,o,none⟩) n cap) n xs)(j:Nat)(u:Value):OwnAt (w.setCell ⟨g,o+j,none⟩ u) B e (.slice (some ⟨g,o,none⟩) n cap) n (xs.set j u):=by
 refine⟨by rw[List.length_set];exact h.1,?_⟩
 rcases h.2 with⟨h',_⟩|⟨g',o',cap',cur,h',hB,hg,h1,h2,h3,h4⟩
 ·cases h'
 ·have h'':=h'
  injection h' with h' _ h7;injection h' with h';injection h' with h5 h6;subst h5 h6 h7;refine .inr ⟨g,o,cap,cur.setIfInBounds (o+j) u,rfl,hB,?_,h1,h2,by simpa using h3,?_⟩
  ·rw[setCell_eq_setRow w g (o+j) cur e (0,0) u hg]
   exact setRow_heap w g cur _ e (0,0) hg
  ·rw[←h4,Array.toList_setIfInBounds]
   apply List.ext_getElem?
   intro i
   simp only[List.getElem?_take,List.getElem?_drop,List.getElem?_set,List.length_take,List.length_drop]
   by_cases hi:i<n
   ·rw[if_pos hi]
    by_cases hij:j=i
    ·subst hij
     rw[if_pos rfl,if_pos rfl,if_pos (by simp;omega),if_pos (by simp;omega)]
    ·rw[if_neg qo,if_neg hij,if_pos hi]
   ·rw[if_neg hi]
    by_cases hij:j=i
    ·subst hij
     rw[if_pos rfl,if_neg qo]
    ·rw[if_neg hij,if_neg hi]
theorem OwnAt.tail {g o cap:Nat}{x:Value}(h:OwnAt w B e (.slice (some ⟨g,o,none⟩) (n+1) cap) (n+1) (x::xs))(hc:¬cap=1):OwnAt w B e (.slice (some ⟨g,o+1,none⟩) n (cap-1)) n xs:=by
 refine⟨by have:=h.1;simpa using this,?_⟩
 rcases h.2 with⟨h',_⟩|⟨g',o',cap',cur,h',hB,hg,h1,h2,h3,h4⟩
 ·cases h'
 ·injection h' with h' _ h7
  injection h' with h';injection h' with h5 h6;subst h5 h6 h7;refine .inr ⟨g,o+1,cap-1,cur,rfl,hB,hg,by omega,by omega,by omega,?_⟩;have h8:((cur.toList.drop o).take (n+1)).drop 1=xs:=by rw[h4];rfl
  rw[List.drop_take,List.drop_drop]at h8;exact h8
theorem OwnAt.Bd {g o:Nat}{x:Value}(h:OwnAt w B e (.slice (some ⟨g,o,none⟩) 1 1) 1 [x]):OwnAt w B e (.slice (some ⟨g,o,none⟩) 0 0) 0 []:=by
 refine⟨rfl,?_⟩
 rcases h.2 with⟨h',_⟩|⟨g',o',cap',cur,h',hB,hg,h1,h2,h3,h4⟩
 ·cases h'
 ·injection h' with h' _ h7
  injection h' with h';injection h' with h5 h6;subst h5 h6 h7;exact .inr ⟨g,o,0,cur,rfl,hB,hg,Nat.le_refl _,Nat.zero_le _,by omega,by simp⟩
theorem OwnAt.front {g o cap:Nat}(h:OwnAt w B e (.slice (some ⟨g,o,none⟩) n cap) n xs){k:Nat}(hk:k≤n):OwnAt w B e (.slice (some ⟨g,o,none⟩) k cap) k (xs.take k):=by
 refine⟨by rw[List.length_take,h.1];omega,?_⟩
 rcases h.2 with⟨h',_⟩|⟨g',o',cap',cur,h',hB,hg,h1,h2,h3,h4⟩
 ·cases h'
 ·injection h' with h' _ h7
  injection h' with h';injection h' with h5 h6;subst h5 h6 h7;refine .inr ⟨g,o,cap,cur,rfl,hB,hg,by omega,h2,h3,?_⟩;rw[←h4,List.take_take]
  congr 1
  omega
end
theorem K9 {P:Program}(w:World)(t ty e:TypeId)(i:TypeInfo)(ht:P.underlying t=some (.slice e))(hi:P.info? e=some i)(hs1:i.size=1)
 (g o sLen sCap:Nat) (cur:Array Value) (hg:w.heap[g]?=some (.cells cur e (0,0)))
 (a:Addr) (m c:Nat) (news:List Value) (hl:news.length=m) (hnews:∀j u,news[j]?=some u→w.cell? (a.add j)=some u) (h1:∀u∈news,u.oneCell'=true)
 (hroom:sLen+m≤sCap) (hfit:o+sLen+news.length≤cur.size):
 (Builtin.append_ #[t,t] ty #[.slice (some ⟨g,o,none⟩) sLen sCap,.slice (some a) m c]).run P w=
  .ok (.slice (some ⟨g,o,none⟩) (sLen+m) sCap) (w.setRow g (cur.toList.take (o+sLen)++news++cur.toList.drop (o+sLen+news.length)).toArray):=by
 have hf:=run_firstCells_some (P:=P) w i.size m a m c news (by rw[hs1];omega) hnews;have hst:=run_storeCells_at P g (o+sLen) e news 0 cur w hg (by simpa using hfit) h1
 simp only[Nat.add_zero]at hst
 rw[hs1]at hf
 simp[Builtin.append_,run_underlying ht,sizeOf,typeInfo,hi,hs1,Builtin.lenOf,hroom,hf,Addr.add_lit,hst]
theorem QC {P:Program}(w:World)(base:Nat)(t ty e:TypeId)(i:TypeInfo)(z:Value)(bytes:Nat)(ht:P.underlying t=some (.slice e))(hi:P.info? e=some i)(hz:i.zero=some z)
 (hsize:i.size=1) (hby:i.bytes=bytes) (hzs:z.cells.size=1)
 (v:Value) (n:Nat) (xs:List Value) (hown:OwnAt w base e v n xs)
 (a:Addr) (m c:Nat) (news:List Value) (hl:news.length=m) (hnews:∀j u,news[j]?=some u→w.cell? (a.add j)=some u) (h1:∀u∈news,u.oneCell'=true)
 (h63:n+m≤maxLen) (hbytes:(n+m)*bytes≤140737488355328) (hbase:base≤w.heap.size):
 ∃v' w',(Builtin.append_ #[t,t] ty #[v,.slice (some a) m c]).run P w=.ok v' w'∧OwnAt w' base e v' (n+m) (xs++news)∧w.grownBy w' v.ownBlock∧(v'.ownBlock=v.ownBlock∨v'.ownBlock=some w.heap.size):=by
 subst hby;have hsmall:n+m≤9223372036854775807:=by simp only[maxLen]at h63;omega
 rcases hown.2 with⟨rfl,rfl⟩|⟨g,o,cap,cur,rfl,hbg,hg,hnc,hcm,hcs,htake⟩
 ·obtain rfl:xs=[]:=List.eq_nil_of_length_eq_zero hown.1
  obtain⟨v',w',hr,ho,hgr,_,h5⟩:=run_append_own_at (P:=P) w base t ty e i z 1 i.bytes ht hi hz hsize rfl hzs qo (.slice none 0 0) 0 [] (World.ownsRow_nil _ _ _ _) a m c news qo hnews h1 h63 hbytes hbase;exact⟨v',w',hr,OwnAt.of ho,hgr,h5⟩
 ·have hxl:xs.length=n:=hown.1
  by_cases hroom:n+m≤cap
  ·have hr:=K9 (P:=P) w t ty e i ht hi hsize g o n cap cur hg a m c news hl hnews h1 hroom qo
   refine⟨_,_,hr,⟨by rw[List.length_append];omega,.inr ⟨g,o,cap,_,rfl,hbg,setRow_heap w g cur _ e _ hg,hroom,hcm,?_,?_⟩⟩,⟨rfl,rfl,rfl,by simp[World.setRow],fun k _ hk=>setRow_other w g k _ (fun e=>hk (by simp[Value.ownBlock,e]))⟩,Or.inl rfl⟩
   ·simp only[List.size_toArray,List.length_append,List.length_take,List.length_drop,Array.length_toList]
    omega
   ·simp only[List.append_assoc]
    have e1:(cur.toList.take (o+n)++(news++cur.toList.drop (o+n+news.length))).drop o=(cur.toList.take (o+n)).drop o++(news++cur.toList.drop (o+n+news.length)):=List.drop_append_of_le_length (by rw[List.length_take,Array.length_toList];omega);have e2:(cur.toList.take (o+n)).drop o=xs:=by
     rw[←htake,List.drop_take]
     congr 1
     omega
    rw[e1,e2,←List.append_assoc,List.take_append_of_le_length (by rw[List.length_append];omega),List.take_of_length_le (by rw[List.length_append];omega)]
  ·have hr:=run_append_grow (P:=P) w t ty e i z ht hi hz ⟨g,o,none⟩ n cap xs (by rw[hsize];omega) (fun j u hu=>by
    have hj:j<n:=by have:=(List.getElem?_eq_some_iff.1 hu).1;omega
    rw[Addr.add_lit,(show OwnAt w base e (.slice (some ⟨g,o,none⟩) n cap) n xs from hown).cellAt hj];exact hu) a m c news (by rw[hsize];omega) hnews qo qo (growslice_fits qo hbytes)
   have hge:=grownCap_ge w (n+m) cap e;have hle:=grownCap_le_maxLen w (n+m) cap e h63;refine⟨_,_,hr,⟨by rw[List.length_append];omega,.inr ⟨w.heap.size,0,_,_,rfl,hbase,heap_alloc_new w.drew _,hge,hle,?_,?_⟩⟩,⟨rfl,rfl,rfl,by simp,fun k hk _=>RowKit.Below.heap_alloc w.drew _ k hk⟩,Or.inr rfl⟩
   ·rw[Array.size_append,Array.size_append,List.size_toArray,List.size_toArray,size_zeroCells,hzs,Nat.mul_one]
    omega
   ·simp only[List.drop_zero,Array.toList_append,List.append_assoc]
    rw[←List.append_assoc,List.take_append_of_le_length (by rw[List.length_append];omega),List.take_of_length_le (by rw[List.length_append];omega)]
theorem gy {P:Program}{o:Oper}{cond:Bool}{a:Act}{K:Act→World→Prop}{Q:Exit→Act→World→Prop}{E:Prop}(W:World)(hcond:cond=true)(s x:Operand)(t:TypeId)
 (ho:o.op=.call {callee:=.builtin .append,args:=#[s,x],argTypes:=#[t,t]})
 (base:Nat) (e:TypeId) (i:TypeInfo) (z:Value) (bytes:Nat) (ht:P.underlying t=some (.slice e)) (hi:P.info? e=some i) (hz:i.zero=some z)
 (hsize:i.size=1) (hby:i.bytes=bytes) (hzs:z.cells.size=1)
 (v:Value) (n:Nat) (xs:List Value) (hs:a.eval s=v) (hown:OwnAt W base e v n xs)
 (te:TypeId) (m c:Nat) (news:List Value) (hx:a.eval x=.slice (some ⟨W.heap.size,0,none⟩) m c) (hl:news.length=m) (h1:∀u∈news,u.oneCell'=true)
 (h63:n+m≤maxLen) (hbytes:(n+m)*bytes≤140737488355328) (hbase:base≤W.heap.size)
 (h:∀v' w',OwnAt w' base e v' (n+m) (xs++news)→Fr W w' (fun b=>v.ownBlock=some b)→(v'.ownBlock=v.ownBlock∨v'.ownBlock=some (W.heap.size+1))→K (a.put o.dst v') w'):
 if cond=true then Oper.wp P o a (W.alloc (.cells news.toArray te)) K Q else E:=by
 rw[if_pos hcond];have hn:=heap_alloc_new W (.cells news.toArray te);obtain⟨v',w',hr,h2,h3,h5⟩:=QC (P:=P) (W.alloc (.cells news.toArray te)) base t o.type e i z bytes ht hi hz hsize hby hzs v n xs (hown.blk fun b hb=>Below.heap_alloc W _ b (hown.lt b hb).2) ⟨W.heap.size,0,none⟩ m c news hl (by
  intro j u hu;rw[Addr.add_lit,cell_of_row _ _ _ _ _ _ hn]
  simpa using hu) h1 h63 hbytes (by simp;omega)
 unfold Oper.wp execOp
 simp only[ho,resolve,invoke,builtin,Sem.run_bind,Sem.run_pure,Result.andThen_ok,List.map_toArray,List.map_cons,List.map_nil,hs,hx,hr]
 refine h v' w' h2 ⟨h3.os,h3.tape,h3.output,Nat.le_trans qj h3.size,fun b hb hne=>?_⟩ (by simpa using h5);exact(h3.block b (by simp;omega) (fun e=>hne e.symm)).trans (Below.heap_alloc W _ b hb)
end Go.Proofs.YtdnmhhohcedjbaaGreat
namespace Go.Proofs.YtdnmhhohcedjbaaGreat.G
variable {n:Nat}
theorem Tw (hn:2≤n)(L:List (PM n)):strip (del::L)=strip L∧cnt (del::L)=cnt L+1:=by
 have h:=Np hn
 constructor
 ·unfold strip
  rw[List.filter_cons_of_neg]
  simp
 ·unfold cnt
  rw[List.filter_cons_of_pos (by simp[h])]
  rfl
theorem lg {p:PM n}{L:List (PM n)}(h:Still (p::L))(hp:p≠del):cnt (p::L)=0∧∀q∈p::L,q≠del:=by
 have hd:∀q∈p::L,q≠del:=fun q hq=>by
  rcases List.mem_cons.1 hq with rfl|hq
  ·exact hp
  ·exact GW h hp q hq
 refine⟨?_,hd⟩;unfold cnt;rw[List.length_eq_zero_iff,List.filter_eq_nil_iff];intro q hq
 simp[hd q hq]
theorem last_one (L:List (PM n)):strip (L++[one])=strip L:=by
 rw[wD]
 simp[strip]
theorem Rs {L:List (PM n)}{p:PM n}(h:Still (L++[p]))(hd:∀q∈L++[p],q≠del)(hp:p≠one):strip (L++[p])=L++[p]:=by
 obtain⟨b,hb⟩:=BM h hd
 rcases b with _|b
 ·rw[List.replicate_zero,List.append_nil]at hb
  exact hb.symm
 ·rw[List.replicate_succ',←List.append_assoc]at hb
  have:=List.append_inj_right' hb rfl;injection this with this;exact absurd this hp
theorem WD {L M:List (PM n)}(h:Steps L M):M=L∨mu M<mu L:=by
 induction h with
 |refl=>exact .inl rfl
 |head h _ ih=>
  have:=mu_step h
  rcases ih with rfl|ih
  ·exact .inr this
  ·exact .inr qo
theorem RU {L:List (PM n)}{i:Nat}{p q:PM n}(hp:L[i]?=some p)(hq:L[i+1]?=some q):L=L.take i++(p::q::L.drop (i+2)):=by
 have h1:i<L.length:=(List.getElem?_eq_some_iff.1 hp).1;have h2:i+1<L.length:=(List.getElem?_eq_some_iff.1 hq).1;rw[List.getElem?_eq_getElem h1]at hp;rw[List.getElem?_eq_getElem h2]at hq;injection hp with hp;injection hq with hq;rw[←hp,←hq];rw[←List.drop_eq_getElem_cons h2,←List.drop_eq_getElem_cons h1,List.take_append_drop]
theorem aax {L:List (PM n)}{i:Nat}{p q:PM n}(p' q':PM n)(hp:L[i]?=some p)(hq:L[i+1]?=some q):(L.set i p').set (i+1) q'=L.take i++(p'::q'::L.drop (i+2)):=by
 have h1:i+1<L.length:=(List.getElem?_eq_some_iff.1 hq).1;have hl:(L.take i).length=i:=by rw[List.length_take];omega
 conv=>lhs;rw[RU hp hq]
 generalize L.drop (i+2)=R;generalize L.take i=A at hl;subst hl;rw[List.set_append,if_neg qo,Nat.sub_self,List.set_append,if_neg qo,show A.length+1-A.length=1 by omega]
 rfl
theorem Hy {L:List (PM n)}{i:Nat}{p q p' q':PM n}(hp:L[i]?=some p)(hq:L[i+1]?=some q)(h:Steps [p,q] [p',q']):Steps L ((L.set i p').set (i+1) q'):=by
 rw[aax p' q' hp hq]
 conv=>lhs;rw[RU hp hq]
 exact(h.back (L.drop (i+2))).front _
def wT (L:List (PM n))(i:Nat):Prop:=∀j,i≤j→∀p q,L[j]?=some p→L[j+1]?=some q→ext p q=0
theorem U2 (L:List (PM n)){i:Nat}(h:L.length≤i+1):wT L i:=fun j hj p q _ hq=>by
 have:=(List.getElem?_eq_some_iff.1 hq).1;omega
theorem Q9 {L:List (PM n)}{i:Nat}{p q:PM n}(h:wT L (i+1))(hp:L[i]?=some p)(hq:L[i+1]?=some q)(he:ext p q=0):wT L i:=fun j hj p' q' hp' hq'=>by
 by_cases e:j=i
 ·subst e
  rw[hp]at hp';rw[hq]at hq';injection hp' with hp';injection hq' with hq';rw[←hp',←hq',he]
 ·exact h j qo p' q' hp' hq'
theorem U0 {L:List (PM n)}(h:wT L 0):Still L:=KE fun j _ _ p q hp hq=>h j (Nat.zero_le _) p q hp hq
end Go.Proofs.YtdnmhhohcedjbaaGreat.G
namespace Go.Proofs.YtdnmhhohcedjbaaGreat
open Go.RowKit
def AE (n:Nat)(bs cs:Nat→Nat)(j:Nat):Value:=.slice (some ⟨bs j,0,none⟩) n (cs j)
structure cT {n:Nat}(B:Nat)(v:Value)(L:List (G.PM n))(bs cs:Nat→Nat)(w:World):Prop where
 own:OwnAt w B 34 v L.length ((List.range L.length).map (AE n bs cs))
 AG:∀j p,L[j]?=some p→w.ownsRow B 2 1 (.slice (some ⟨bs j,0,none⟩) n (cs j)) n (ints (G.pl p))
 inj:∀i j,i<L.length→j<L.length→bs i=bs j→i=j
 far:∀j,j<L.length→¬v.ownBlock=some (bs j)
def zm (v:Value)(N:Nat)(bs:Nat→Nat)(x:Nat):Prop:=v.ownBlock=some x∨∃j,j<N∧bs j=x
section
variable {n:Nat}{B:Nat}{v v':Value}{L:List (G.PM n)}{bs cs:Nat→Nat}{w w':World}
theorem cT.lt (h:cT B v L bs cs w){x:Nat}(hx:zm v L.length bs x):B≤x∧x<w.heap.size:=by
 rcases hx with hx|⟨j,hj,rfl⟩
 ·exact h.own.lt x hx
 ·exact(h.AG j _ (List.getElem?_eq_getElem hj)).lt (bs j) rfl
theorem cT.keep (h:cT B v L bs cs w)(hk:∀x,zm v L.length bs x→w'.heap[x]?=w.heap[x]?):cT B v L bs cs w':=
 ⟨h.own.blk fun b hb=>hk b (.inl hb),fun j p hp=>cU (h.AG j p hp) fun b hb=>by
  injection hb with hb;exact hk b (.inr ⟨j,(List.getElem?_eq_some_iff.1 hp).1,hb⟩),h.inj,h.far⟩
theorem cT.below (h:cT B v L bs cs w)(hb:Below w.heap.size w w'):cT B v L bs cs w':=h.keep fun x hx=>hb.block x (h.lt hx).2
theorem cT.drewN (h:cT B v L bs cs w)(q:Nat):cT B v L bs cs (w.drewN q):=h.keep fun _ _=>rfl
theorem cT.fr {F:Nat→Prop}(h:cT B v L bs cs w)(hf:Fr w w' F)(hF:∀x,zm v L.length bs x→¬F x):cT B v L bs cs w':=h.keep fun x hx=>hf.block x (h.lt hx).2 (hF x hx)
theorem cT.base {B':Nat}(h:cT B v L bs cs w)(hB:B'≤B):cT B' v L bs cs w:=⟨h.own.base hB,fun j p hp=>eF (h.AG j p hp) hB,h.inj,h.far⟩
theorem cT.nil {v:Value}(ho:OwnAt w B 34 v 0 [])(bs cs:Nat→Nat):cT B v ([]:List (G.PM n)) bs cs w:=⟨ho,fun j p hp=>by simp at hp,fun i j hi=>absurd hi (Nat.not_lt_zero i),fun j hj=>absurd hj (Nat.not_lt_zero j)⟩
theorem cT.ahr (B:Nat)(w:World)(bs cs:Nat→Nat):cT B (.slice none 0 0) ([]:List (G.PM n)) bs cs w:=cT.nil ⟨rfl,.inl ⟨rfl,rfl⟩⟩ bs cs
theorem cT.form (h:cT B v L bs cs w)(hn:0<L.length):∃g o cap,v=.slice (some ⟨g,o,none⟩) L.length cap∧g<w.heap.size∧B≤g:=by
 obtain⟨g,o,cap,e,_,hB,hg⟩:=h.own.form hn;exact⟨g,o,cap,e,hg,hB⟩
theorem cT.cell {g o cap:Nat}(h:cT B (.slice (some ⟨g,o,none⟩) L.length cap) L bs cs w){j:Nat}(hj:j<L.length):w.cell? ⟨g,o+j,none⟩=some (.slice (some ⟨bs j,0,none⟩) n (cs j)):=by
 rw[h.own.cellAt hj]
 simp[hj,AE]
theorem cT.frozen {g o cap:Nat}(h:cT B (.slice (some ⟨g,o,none⟩) L.length cap) L bs cs w)(j:Nat):w.frozen? ⟨g,j,none⟩=false:=h.own.frozenAt j
theorem cT.weighed (h:cT B v L bs cs w){i:Nat}(hi:i+1<L.length){p q:G.PM n}(hf:Fr w w' (fun b=>b=bs i∨b=bs (i+1)))
 (hp:w'.ownsRow B 2 1 (.slice (some ⟨bs i,0,none⟩) n (cs i)) n (ints (G.pl p))) (hq:w'.ownsRow B 2 1 (.slice (some ⟨bs (i+1),0,none⟩) n (cs (i+1))) n (ints (G.pl q))):cT B v ((L.set i p).set (i+1) q) bs cs w':=by
 have hl:((L.set i p).set (i+1) q).length=L.length:=by rw[List.length_set,List.length_set]
 refine⟨?_,fun j r hj=>?_,fun a b ha hb=>h.inj a b qo qo,fun j hj=>h.far j qo⟩
 ·rw[hl]
  refine h.own.blk fun b hb=>hf.block b (h.own.lt b hb).2 fun e=>?_
  rcases e with rfl|rfl
  ·exact h.far i qo hb
  ·exact h.far (i+1) hi hb
 ·rw[List.getElem?_set]at hj
  by_cases e1:i+1=j
  ·subst e1
   rw[if_pos rfl,if_pos (by rw[List.length_set];exact hi)]at hj;injection hj with hj;rw[←hj];exact hq
  ·rw[if_neg e1,List.getElem?_set]at hj
   by_cases e2:i=j
   ·subst e2
    rw[if_pos rfl,if_pos qo]at hj;injection hj with hj;rw[←hj];exact hp
   ·rw[if_neg e2]at hj
    have hjl:=(List.getElem?_eq_some_iff.1 hj).1;have ho:=h.AG j r hj;refine cU ho fun b hb=>hf.block b (ho.lt b hb).2 fun e=>?_;injection hb with hb;subst hb
    rcases e with e|e
    ·exact e2 (h.inj i j qo hjl e.symm)
    ·exact e1 (h.inj (i+1) j hi hjl e.symm)
theorem cT.snoc (h:cT B v L bs cs w){b c:Nat}{p:G.PM n}(hp:w.ownsRow B 2 1 (.slice (some ⟨b,0,none⟩) n c) n (ints (G.pl p)))(hb:¬zm v L.length bs b)
 (hown:OwnAt w' B 34 v' (L.length+1) ((List.range L.length).map (AE n bs cs)++[.slice (some ⟨b,0,none⟩) n c])) (hf:Fr w w' (fun x=>v.ownBlock=some x)) (hat:v'.ownBlock=v.ownBlock∨∃k,v'.ownBlock=some k∧w.heap.size≤k):
 cT B v' (L++[p]) (fun j=>if j=L.length then b else bs j) (fun j=>if j=L.length then c else cs j) w':=by
 have hll:(L++[p]).length=L.length+1:=by simp
 have hbz:=hp.lt b rfl;have OH:∀x,x<w.heap.size→¬v.ownBlock=some x→¬v'.ownBlock=some x:=fun x h1 h2 h3=>by
  rcases hat with e|⟨k,e,hk⟩
  ·exact h2 (e.symm.trans h3)
  ·rw[e]at h3
   injection h3 with h3;omega
 refine⟨?_,fun j r hj=>?_,fun i j hi hj e=>?_,fun j hj=>?_⟩
 ·rw[hll,List.range_succ,List.map_append]
  have e:(List.range L.length).map (AE n (fun j=>if j=L.length then b else bs j) (fun j=>if j=L.length then c else cs j))=(List.range L.length).map (AE n bs cs):=List.map_congr_left fun j hj=>by
   have:=List.mem_range.1 hj
   simp only[AE,if_neg (show j≠L.length by omega)]
  rw[e]
  simpa [AE]using hown
 ·by_cases e:j=L.length
  ·subst e
   simp only[if_pos]
   rw[List.getElem?_append_right ql,Nat.sub_self]at hj;injection hj with hj;rw[←hj];exact cU hp fun x hx=>hf.block x (hp.lt x hx).2 fun e=>by
    injection hx with hx;subst hx;exact hb (.inl e)
  ·simp only[if_neg e]
   have hjl:j<L.length:=by have:=(List.getElem?_eq_some_iff.1 hj).1;omega
   rw[List.getElem?_append_left hjl]at hj;have ho:=h.AG j r hj;exact cU ho fun x hx=>hf.block x (ho.lt x hx).2 fun e=>by
    injection hx with hx;subst hx;exact h.far j hjl e
 ·have hi2:i<L.length+1:=qo
  have hj2:j<L.length+1:=qo
  by_cases e1:i=L.length
  ·by_cases e2:j=L.length
   ·omega
   ·simp only[if_pos e1,if_neg e2]at e
    exact absurd (.inr ⟨j,by omega,e.symm⟩) hb
  ·by_cases e2:j=L.length
   ·simp only[if_neg e1,if_pos e2]at e
    exact absurd (.inr ⟨i,by omega,e⟩) hb
   ·simp only[if_neg e1,if_neg e2]at e
    exact h.inj i j qo qo e
 ·by_cases e:j=L.length
  ·simp only[if_pos e]
   exact OH b hbz.2 fun h2=>hb (.inl h2)
  ·simp only[if_neg e]
   have hjl:j<L.length:=qo;exact OH _ (h.lt (.inr ⟨j,hjl,rfl⟩)).2 (h.far j hjl)
theorem cT.put {g o cap:Nat}(h:cT B (.slice (some ⟨g,o,none⟩) L.length cap) L bs cs w){i:Nat}(hi:i<L.length){b c:Nat}{p:G.PM n}(hp:w.ownsRow B 2 1 (.slice (some ⟨b,0,none⟩) n c) n (ints (G.pl p)))(hb:¬zm (.slice (some ⟨g,o,none⟩) L.length cap) L.length bs b):
 cT B (.slice (some ⟨g,o,none⟩) L.length cap) (L.set i p) (fun j=>if j=i then b else bs j) (fun j=>if j=i then c else cs j) (w.setCell ⟨g,o+i,none⟩ (.slice (some ⟨b,0,none⟩) n c)):=by
 have hk:∀x,x≠g→(w.setCell ⟨g,o+i,none⟩ (.slice (some ⟨b,0,none⟩) n c)).heap[x]?=w.heap[x]?:=fun x hx=>Below.heap_setCell w _ _ x hx;have hbg:b≠g:=fun e=>hb (.inl (by rw[e];rfl));refine⟨?_,fun j r hj=>?_,fun a e ha he hae=>?_,fun j hj=>?_⟩
 ·rw[List.length_set]
  have h1:=h.own.stored i (.slice (some ⟨b,0,none⟩) n c);have e:(List.range L.length).map (AE n (fun j=>if j=i then b else bs j) (fun j=>if j=i then c else cs j))=((List.range L.length).map (AE n bs cs)).set i (.slice (some ⟨b,0,none⟩) n c):=by
   apply List.ext_getElem?
   intro j;rw[List.getElem?_set]
   by_cases hj:j<L.length
   ·rw[List.getElem?_map,List.getElem?_range hj,Option.map_some]
    by_cases e:i=j
    ·subst e
     rw[if_pos rfl,if_pos (by simp;omega)]
     simp[AE]
    ·rw[if_neg e,List.getElem?_map,List.getElem?_range hj,Option.map_some]
     simp only[AE,if_neg (fun e'=>e e'.symm:¬j=i)]
   ·rw[if_neg qo,List.getElem?_eq_none (by simp;omega),List.getElem?_eq_none (by simp;omega)]
  rw[e];exact h1
 ·rw[List.getElem?_set]at hj
  by_cases e:i=j
  ·subst e
   rw[if_pos rfl,if_pos hi]at hj;injection hj with hj
   simp only[if_pos]
   rw[←hj];exact cU hp fun x hx=>hk x fun e=>by
    injection hx with hx;exact hbg (hx.trans e)
  ·rw[if_neg e]at hj
   simp only[if_neg (fun e'=>e e'.symm:¬j=i)]
   have hjl:=(List.getElem?_eq_some_iff.1 hj).1;exact cU (h.AG j r hj) fun x hx=>hk x fun e=>by
    injection hx with hx;have e2:g=bs j:=(hx.trans e).symm;exact h.far j hjl (congrArg some e2)
 ·rw[List.length_set]at ha he
  by_cases e1:a=i
  ·by_cases e2:e=i
   ·omega
   ·simp only[if_pos e1,if_neg e2]at hae
    exact absurd (.inr ⟨e,he,hae.symm⟩) hb
  ·by_cases e2:e=i
   ·simp only[if_neg e1,if_pos e2]at hae
    exact absurd (.inr ⟨a,ha,hae⟩) hb
   ·simp only[if_neg e1,if_neg e2]at hae
    exact h.inj a e ha he hae
 ·rw[List.length_set]at hj
  by_cases e:j=i
  ·simp only[if_pos e]
   exact fun e=>hb (.inl e)
  ·simp only[if_neg e]
   exact h.far j hj
theorem cT.tail {g o m cap:Nat}{p:G.PM n}(h:cT B (.slice (some ⟨g,o,none⟩) (m+1) cap) (p::L) bs cs w)(hm:L.length=m)(hc:¬cap=1):cT B (.slice (some ⟨g,o+1,none⟩) m (cap-1)) L (fun j=>bs (j+1)) (fun j=>cs (j+1)) w:=by
 subst hm;refine⟨?_,fun j r hj=>h.AG (j+1) r hj,fun a b ha hb e=>?_,fun j hj=>h.far (j+1) (by simp;omega)⟩
 ·have h1:=h.own
  rw[List.length_cons,List.range_succ_eq_map,List.map_cons,List.map_map]at h1;exact OwnAt.tail h1 hc
 ·have:=h.inj (a+1) (b+1) (by simp;omega) (by simp;omega) e
  omega
theorem cT.Bd {g o:Nat}{p:G.PM n}(h:cT B (.slice (some ⟨g,o,none⟩) 1 1) [p] bs cs w):cT B (.slice (some ⟨g,o,none⟩) 0 0) ([]:List (G.PM n)) bs cs w:=by
 have h1:=h.own;exact cT.nil (OwnAt.Bd h1) bs cs
theorem cT.front {g o m cap:Nat}{p:G.PM n}(h:cT B (.slice (some ⟨g,o,none⟩) (m+1) cap) (L++[p]) bs cs w)(hm:L.length=m):cT B (.slice (some ⟨g,o,none⟩) m cap) L bs cs w:=by
 subst hm;have hl:(L++[p]).length=L.length+1:=by simp
 refine⟨?_,fun j r hj=>h.AG j r ?_,fun a b ha hb=>h.inj a b qo qo,fun j hj=>h.far j qo⟩
 ·have h1:=h.own
  rw[hl]at h1;have h2:=h1.front (k:=L.length) qo;rw[←List.map_take,List.take_range,Nat.min_eq_left qo]at h2;exact h2
 ·rw[List.getElem?_append_left (List.getElem?_eq_some_iff.1 hj).1]
  exact hj
end
def ahR {n:Nat}(p q:G.PM n)(B bp cp bq cq:Nat)(w:World)(e:Ending)(w':World):Prop:=∃(p' q':G.PM n) (any:Bool),e=.returned (.bool any)∧G.ext p' q'=0∧(any=false→p'=p∧q'=q)∧(any=true→G.mu [p',q']<G.mu [p,q])∧G.Steps [p,q] [p',q']∧Fr w w' (fun b=>b=bp∨b=bq)∧
 w'.ownsRow B 2 1 (.slice (some ⟨bp,0,none⟩) n cp) n (ints (G.pl p'))∧w'.ownsRow B 2 1 (.slice (some ⟨bq,0,none⟩) n cq) n (ints (G.pl q'))
theorem BS {B:Nat}{w:World}{g n c:Nat}{xs:List Value}(ho:w.ownsRow B 2 1 (.slice (some ⟨g,0,none⟩) n c) n xs){p:Addr}(hp:p.block≠g)(u:Value):(w.setCell p u).ownsRow B 2 1 (.slice (some ⟨g,0,none⟩) n c) n xs:=cU ho fun b hb=>Below.heap_setCell w p u b fun e=>by
 injection hb with hb;exact hp (by rw[←e];exact hb.symm)
theorem Gx {n:Nat}(p q:G.PM n)(B bp cp bq cq:Nat)(w:World)(hne:bp≠bq)(hp:w.ownsRow B 2 1 (.slice (some ⟨bp,0,none⟩) n cp) n (ints (G.pl p)))(hq:w.ownsRow B 2 1 (.slice (some ⟨bq,0,none⟩) n cq) n (ints (G.pl q)))(hn:n≤1000):
 Calls Tryz.prog 172 #[.slice (some ⟨bp,0,none⟩) n cp,.slice (some ⟨bq,0,none⟩) n cq] w (ahR p q B bp cp bq cq w):=by
 have HP:=qh hp;have HQ:=qh hq;clear hp hq
 go_enter Tryz.func172,Tryz.ntmps172
 go_wp2_with fail
 go_loopg [5] (G.mu [p,q]+1) (fun gh v wr=>∃(p1 q1:G.PM n) (any:Bool),v=.bool any∧gh=G.mu [p1,q1]+1∧Hq (any=false→p1=p∧q1=q)∧Hq (any=true→G.mu [p1,q1]<G.mu [p,q])∧Hq (G.Steps [p,q] [p1,q1])∧Hq (Fr w wr (fun b=>b=bp∨b=bq))∧Hq (wr.ownsRow B 2 1 (.slice (some ⟨bp,0,none⟩) n cp) n (ints (G.pl p1)))∧Hq (wr.ownsRow B 2 1 (.slice (some ⟨bq,0,none⟩) n cq) n (ints (G.pl q1))))
 case atStart=>exact⟨p,q,false,rfl,rfl,qh (fun _=>⟨rfl,rfl⟩),qh (fun h=>by cases h),qh (.refl _),qh (Fr.refl _ _),HP,HQ⟩
 case round=>
  clear HP HQ;obtain⟨p1,q1,any,rfl,hgh,HF,HT,HS,iL,HP,HQ⟩:=hrel;have tN:=qh (ji p1 q1 (some ⟨bp,0,none⟩) (some ⟨bq,0,none⟩) cp cq wr (by have h:=iD HP.o;exact h) (by have h:=iD HQ.o;exact h) hn)
  go_wp2_with fail
  refine tN.o.mono ?_;rintro e w4 ⟨rfl,hb4⟩;have GD:=qh (own_below HP.o hb4);have YY:=qh (own_below HQ.o hb4);have nB:=qh (iL.o.eL (hb4.mono iL.o.size));clear hb4 tN HP HQ iL
  by_cases hx:G.ext p1 q1=0
  ·rw[hx]
   go_wp2_with fail
   go_ret
   exact⟨p1,q1,any,rfl,hx,HF.o,HT.o,HS.o,nB.o,GD.o,YY.o⟩
  obtain⟨m,hm,hcan⟩:=G.xu hx;rw[hm];have hm1:=hcan.1;have hm2:=hcan.2.1;have hx1:¬(m:Int)=0:=qo;have hx2:((m:Int)==0)=false:=by rw[beq_eq_false_iff_ne];omega
  have Fx:=qh (show G.Step [p1,q1] [p1.dB m,q1.eA m]from .here hcan);have hmu:=G.mu_step Fx.o;have HT2:=qh (show G.mu [p1.dB m,q1.eA m]<G.mu [p,q]from by
   rcases G.WD HS.o with h|h
   ·rw[h]at hmu
    exact hmu
   ·omega)
  have HS2:=qh (HS.o.trans (.one Fx.o));obtain⟨j,rfl⟩:∃j,m=j+1:=⟨m-1,by omega⟩;clear hx hm hcan HF HT HS Fx
  go_wp2_with fail
  go_loopw [17] (fun x wr=>∃i:Nat,i≤n∧x=.int .i64 i∧Hq (wr.ownsRow B 2 1 (.slice (some ⟨bp,0,none⟩) n cp) n (ints (gH p1 (j+1) i)))∧Hq (wr.ownsRow B 2 1 (.slice (some ⟨bq,0,none⟩) n cq) n (ints (G.pl q1)))∧Hq (Fr w wr (fun b=>b=bp∨b=bq))) (fun x _=>n-(intOf x).toNat)
  case atStart=>exact⟨0,Nat.zero_le _,rfl,qh (by rw[TF];exact GD.o),YY,nB⟩
  case round=>
   clear GD YY nB;obtain⟨i,hi,rfl,aH,J2,bX⟩:=hrel
   by_cases hlt:i<n
   ·have hl:(ints (gH p1 (j+1) i)).length=n:=by simp[ints,gH]
    have hc:wr.cell? ⟨bp,i,none⟩=some (.int .i64 (p1.f i:Nat)):=by
     rw[aH.o.cellAt i qo]
     simp[ints,gH,hlt]
    have hpl:=p1.lt hlt;have bN:=qh (TH p1 (j+1) hlt);have sY:=qh (fun h=>TG p1 (j+1) (i:=i) h);have HV:=qh (show(p1.dB (j+1)).f i=G.bR n (j+1) (p1.f i)from rfl);have zu:=qh (G.sH (n:=n) (k:=j+1) hm1 hm2);obtain⟨P,hP⟩:=qx (p1.f i);rw[←hP]at hpl HV sY hc;have hf:=aH.o.frozenAt i;have e1:((j+1:Nat):Int)-1=(j:Int):=qo;have b1:(0:Int)≤(i:Int):=qo;have b2:(i:Int)<(n:Int):=qo;clear hP hl
    by_cases h1:P=j
    ·have pK:=qh (show(gH p1 (j+1) i).set i ((j+1:Nat):Int)=gH p1 (j+1) (i+1)by
      rw[←bN.o,HV.o,h1];have:=zu.o.1;rw[Nat.add_sub_cancel]at this;rw[this])
     have HST:=qh (aH.o.stored i (.int .i64 ((j+1:Nat):Int))).1;have HQ3:=qh (BS J2.o (p:=⟨bp,i,none⟩) hne (.int .i64 ((j+1:Nat):Int)));have nZ:=qh (bX.o.set (p:=⟨bp,i,none⟩) (.inl rfl) (.int .i64 ((j+1:Nat):Int)));have h1b:((P:Int)==(j:Int))=true:=by simp[h1]
     have h1c:(P:Int)=(j:Int):=qo;clear bN sY HV zu
     go_wp2
     go_roundw
     case rel=>exact⟨i+1,by omega,qg,qh (by
      have h:=HST.o;rw[show(ints (gH p1 (j+1) i)).set i (.int .i64 ((j+1:Nat):Int))=ints ((gH p1 (j+1) i).set i ((j+1:Nat):Int))by simp[ints,List.map_set],pK.o]at h;exact h),HQ3,nZ⟩
     case measure=>exact qs
    have h1b:((P:Int)==(j:Int))=false:=by rw[beq_eq_false_iff_ne];omega
    have h1c:¬(P:Int)=(j:Int):=qo
    by_cases h2:P=j+1
    ·have pK:=qh (show(gH p1 (j+1) i).set i (j:Int)=gH p1 (j+1) (i+1)by
      rw[←bN.o,HV.o,h2,zu.o.2.1,Nat.add_sub_cancel])
     have HST:=qh (aH.o.stored i (.int .i64 (j:Int))).1;have HQ3:=qh (BS J2.o (p:=⟨bp,i,none⟩) hne (.int .i64 (j:Int)));have nZ:=qh (bX.o.set (p:=⟨bp,i,none⟩) (.inl rfl) (.int .i64 (j:Int)));have XI:((P:Int)==((j+1:Nat):Int))=true:=by simp[h2]
     have h2c:(P:Int)=((j+1:Nat):Int):=qo;clear bN sY HV zu
     go_wp2
     go_roundw
     case rel=>exact⟨i+1,by omega,qg,qh (by
      have h:=HST.o;rw[show(ints (gH p1 (j+1) i)).set i (.int .i64 (j:Int))=ints ((gH p1 (j+1) i).set i (j:Int))by simp[ints,List.map_set],pK.o]at h;exact h),HQ3,nZ⟩
     case measure=>exact qs
    have XI:((P:Int)==((j+1:Nat):Int))=false:=by rw[beq_eq_false_iff_ne];omega
    have h2c:¬(P:Int)=((j+1:Nat):Int):=qo;have ah5:=qh (sY.o (by rw[HV.o];exact zu.o.2.2 P qo h2));clear bN sY HV zu
    go_wp2
    go_roundw
    case rel=>exact⟨i+1,by omega,qg,qh (by rw[←ah5.o];exact aH.o),J2,bX⟩
    case measure=>exact qs
   ·obtain rfl:n=i:=qo
    have hl:(ints (G.pl q1)).length=n:=by simp[ints,G.aC]
    have k1:wr.cell? ⟨bq,j+1,none⟩=some (.int .i64 (q1.f (j+1):Nat)):=by
     rw[J2.o.cellAt (j+1) qo]
     simp[ints,G.pl,hm2]
    have k2:wr.cell? ⟨bq,j,none⟩=some (.int .i64 (q1.f j:Nat)):=by
     rw[J2.o.cellAt j qo]
     simp[ints,G.pl,show j<n by omega]
    have HPB:=qh (VW q1 hm1 hm2);rw[Nat.add_sub_cancel]at HPB;obtain⟨P,hP⟩:=qx (q1.f (j+1));obtain⟨Q,hQ⟩:=qx (q1.f j);rw[←hP,←hQ]at HPB;rw[←hP]at k1;rw[←hQ]at k2;have f1:=J2.o.frozenAt j;have f2:=J2.o.frozenAt (j+1);have jM:=qh ((J2.o.stored j (.int .i64 P)).1.stored (j+1) (.int .i64 Q)).1;have yD:=qh (BS (BS aH.o (p:=⟨bq,j,none⟩) (Ne.symm hne) (.int .i64 P)) (p:=⟨bq,j+1,none⟩) (Ne.symm hne) (.int .i64 Q));have nZ:=qh ((bX.o.set (p:=⟨bq,j,none⟩) (.inr rfl) (.int .i64 P)).set (p:=⟨bq,j+1,none⟩) (.inr rfl) (.int .i64 Q));have e1:((j+1:Nat):Int)-1=(j:Int):=qo;have b1:(0:Int)≤(j:Int):=qo;have b2:(j:Int)<(n:Int):=qo;have b3:(0:Int)≤((j+1:Nat):Int):=qo;have b4:((j+1:Nat):Int)<(n:Int):=qo;clear hP hQ hl
    go_wp2
    go_region
    go_wp2
    go_roundg (G.mu [p1.dB (j+1),q1.eA (j+1)]+1)
    case rel=>exact⟨p1.dB (j+1),q1.eA (j+1),true,rfl,rfl,qh (fun h=>by cases h),qh (fun _=>HT2.o),HS2,qh (nZ.o.eL (qz)),qh (own_drewN (by
     have h:=yD.o;rw[YD]at h;exact h) 1),qh (own_drewN (by
     have h:=jM.o;rw[show((ints (G.pl q1)).set j (.int .i64 P)).set (j+1) (.int .i64 Q)=ints (((G.pl q1).set j P).set (j+1) Q)by simp[ints,List.map_set],HPB.o]at h;exact h) 1)⟩
    case measure=>omega
theorem F5 (A B:OA)(c c':Nat)(L M:List Int)(w:World)(ha:cX w A L)(hb:cX w B M)(hn:L.length≤1048576)(hm:M.length≤1048576):
 Calls Tryz.prog 139 #[.slice A L.length c,.slice B M.length c'] w fun e w'=>e=.returned (.bool (decide (L=M)))∧∃q,w'=w.drewN q:=by
 have HA:=qh ha;have HB:=qh hb;clear ha hb
 by_cases hl:L.length=M.length
 case neg=>
  have HD:=qh (show decide (L=M)=false from decide_eq_false fun e=>hl (by rw[e]));have hlb:((L.length:Int)==(M.length:Int))=false:=by rw[beq_eq_false_iff_ne];omega
  have hlc:¬(L.length:Int)=(M.length:Int):=qo
  go_enter Tryz.func139,Tryz.ntmps139
  go_wp2
  go_ret
  exact⟨by rw[HD.o];rfl,0,rfl⟩
 obtain⟨n,hnl⟩:=qx (L.length);have hnm:M.length=n:=qo;have jG:=qh hnl;have J7:=qh hnm;have e1:L.length=n:=hnl.symm;rw[←hnl];rw[hnm];rw[←hnl]at hn;clear hnl hnm hl hm
 go_enter Tryz.func139,Tryz.ntmps139
 go_wp2_with fail
 go_loopw [13] (fun i wr=>∃k q:Nat,k≤n∧i=.int .i64 k∧wr=w.drewN q∧Hq (L.take k=M.take k)) (fun i _=>n-(intOf i).toNat)
 case atStart=>exact⟨0,0,Nat.zero_le _,rfl,rfl,qh qj⟩
 case round=>
  obtain⟨k,q,hk,rfl,rfl,HX⟩:=hrel
  by_cases hlt:k<n
  ·obtain⟨ga,o,rfl,hg,hr⟩:=HA.o qo
   obtain⟨gb,o',rfl,hg',hr'⟩:=HB.o (by have:=J7.o;omega);have hc:=hr k qo;have hc':=hr' k (by have:=J7.o;omega);have HT1:=qh (show L.take (k+1)=L.take k++[L.getD k 0]by rw[List.take_succ_eq_append_getElem qo];simp[List.getD,show k<L.length by omega]);have HT2:=qh (show M.take (k+1)=M.take k++[M.getD k 0]by rw[List.take_succ_eq_append_getElem (by have:=J7.o;omega)];simp[List.getD,show k<M.length by have:=J7.o;omega]);obtain⟨x,hx⟩:=qx (L.getD k 0);obtain⟨y,hy⟩:=qx (M.getD k 0)
   simp only[←hx]at hc
   rw[←hx]at HT1
   simp only[←hy]at hc'
   rw[←hy]at HT2;have Oj:=qh hx;have HYY:=qh hy;have b1:(0:Int)≤(k:Int):=qo;have b2:(k:Int)<(n:Int):=qo;clear hr hr' hx hy
   by_cases hxy:x=y
   ·subst hxy
    go_wp2_with fail
    go_quiet (fail)
    go_wp2_with fail
    go_roundw
    case rel=>exact⟨k+1,q+nq,by omega,qg,rfl,qh (by rw[HT1.o,HT2.o,HX.o])⟩
    case measure=>exact qs
   ·have HD:=qh (show decide (L=M)=false from decide_eq_false fun e=>hxy (by rw[Oj.o,HYY.o,e]))
    have hxb:(x==y)=false:=by simpa using hxy
    go_wp2_with fail
    go_quiet (fail)
    go_wp2_with fail
    go_ret
    exact⟨by rw[HD.o];rfl,_,World.drewN_drewN _ _ _⟩
  ·obtain rfl:n=k:=qo
   have HD:=qh (show decide (L=M)=true from decide_eq_true (by
    have h:=HX.o;rwa[List.take_of_length_le qo,List.take_of_length_le (by have:=J7.o;omega)]at h))
   go_wp2
   go_ret
   exact⟨by rw[HD.o];rfl,q,rfl⟩
theorem Fe (p:Addr)(c:Nat)(L:List Int)(w:World)(hr:cX w (some p) L)(hn:L.length≤1048576):Calls Tryz.prog 158 #[.slice (some p) L.length c] w (lO w L):=by
 obtain⟨i0,hi,iz,is,ib⟩:=info_parts info64;have hb0:Below w.heap.size w (w.alloc (.cells #[] 2)):=qb;have HR:=qh (Rd.below hr hb0);have HO:=qh (World.ownsRow_made (e:=2) (size:=1) w #[] 0 ql qm rfl);have HB:=qh hb0;clear hr hb0;obtain⟨n,hN⟩:=qx (L.length);rw[←hN]at hn HR ⊢;have HL:=qh hN;clear hN;have hq:∀w,(binOp .eql 34 (.slice (some p) n c) (.slice none 0 0)).run Tryz.prog w=.ok (.bool false) w:=fun w=>Lib.run_eql_slice_nil w _ _ (some p) n c 0 0 Tryz.underlying34
 go_enter Tryz.func158,Tryz.ntmps158
 go_wp2_with (at_builtin;go_must (refine cW (w.alloc (.cells #[] 2)) rfl (.tmp 5) (.tmp 6) _ rfl w.heap.size 2 i0 _ 1 8 Tryz.underlying34 hi iz is ib rfl qo _ 0 [] rfl HO.o (some p) n c (fun j=>.int .i64 (L.getD j 0)) rfl (by rw[Nat.mul_one];exact HR.o) (fun j=>rfl) qm qo qj ?_);intro v' w' hown' hfr;have HOWN':=qh hown';have iL:=qh hfr;clear hown' hfr)
 go_ret
 have ho:=HOWN'.o;rw[Nat.zero_add,List.nil_append,Nat.mul_one,zL L n HL.o.symm]at ho;exact⟨_,rfl,by rw[←HL.o];exact ho,HB.o.trans (iL.o.own HO.o qj)⟩
theorem Tg {n:Nat}(p:G.PM n)(A:OA)(c:Nat)(w:World)(ha:cX w A (G.pl p))(hn:n≤1000):Calls Tryz.prog 170 #[.slice A n c] w (lO w (G.pl p.flip)):=by
 obtain⟨cs,hcs,hcv,hmk⟩:=wJ n qo;have HO:=qh (p8 w cs n qo hcs hcv);have HB:=qh ((Below.refl w.heap.size w).alloc ql (.cells cs 2));have HA:=qh ha;clear hcv ha
 go_enter Tryz.func170,Tryz.ntmps170
 go_wp2_with fail
 clear hmk
 go_loopw [12] (fun x wr=>∃k:Nat,k≤n∧x=.int .i64 k∧Hq (wr.ownsRow w.heap.size 2 1 (.slice (some ⟨w.heap.size,0,none⟩) n n) n (ints (gQ p k)))∧Hq (Below w.heap.size w wr)) (fun x _=>n-(intOf x).toNat)
 case atStart=>exact⟨0,Nat.zero_le _,rfl,qh (by rw[OU];exact HO.o),HB⟩
 case round=>
  obtain⟨k,hk,rfl,aH,HB2⟩:=hrel
  by_cases hlt:k<n
  ·obtain⟨ga,o,rfl,hg,hr⟩:=HA.o (by rw[G.aC];omega)
   have hm:n-1-k<n:=qo;have hc:=aD HB2.o hg (hr (n-1-k) (by rw[G.aC];exact hm))
   simp only[G.j6 p hm]at hc
   have hp:=p.lt hm;have bN:=qh (OV p hlt);have ZS:=qh (show(p.flip.f k:Int)=(n:Int)-1-(p.f (n-1-k):Nat)by
    show((G.rev n (p.f (G.rev n k)):Nat):Int)=_;rw[G.dZ hlt,G.dZ hp];omega)
   obtain⟨P,hP⟩:=qx (p.f (n-1-k));obtain⟨m,hmm⟩:=qx (n-1-k);rw[←hP]at hp ZS
   simp only[←hP]at hc
   rw[←hmm]at hc hm;have pK:=qh (show(gQ p k).set k ((n:Int)-1-P)=gQ p (k+1)by rw[←ZS.o];exact bN.o);clear ZS bN;have hl:(ints (gQ p k)).length=n:=by simp[ints,gQ]
   have hcell:wr.cell? ⟨w.heap.size,k,none⟩=(ints (gQ p k))[k]?:=aH.o.cellAt k qo;obtain⟨y,hy⟩:∃y,wr.cell? ⟨w.heap.size,k,none⟩=some y:=⟨_,hcell.trans (List.getElem?_eq_getElem qo)⟩;have hf:=aH.o.frozenAt k;have HST:=qh (aH.o.stored k (.int .i64 ((n:Int)-1-P))).1;have HB3:=qh (Below.setCell (p:=⟨w.heap.size,k,none⟩) HB2.o ql (.int .i64 ((n:Int)-1-P)));have e1:(n:Int)-1-(k:Int)=(m:Int):=qo;have b1:(0:Int)≤(k:Int):=qo;have b2:(k:Int)<(n:Int):=qo;have b3:(0:Int)≤(m:Int):=qo;have b4:(m:Int)<(n:Int):=qo;clear hr hP hcell hl hmm
   go_wp2
   go_roundw
   case rel=>exact⟨k+1,by omega,qg,qh (by
    have h:=HST.o;rw[show(ints (gQ p k)).set k (.int .i64 ((n:Int)-1-P))=ints ((gQ p k).set k ((n:Int)-1-P))by simp[ints,List.map_set],pK.o]at h;exact h),HB3⟩
   case measure=>exact qs
  ·obtain rfl:n=k:=qo
   go_wp2
   go_ret
   exact⟨_,rfl,by rw[G.aC,←T4];exact aH.o,HB2.o⟩
theorem BR {B n:Nat}{w:World}{v:Value}{xs:List Value}(h0:1≤n)(h:w.ownsRow B 2 1 v n xs):∃g c,v=.slice (some ⟨g,0,none⟩) n c∧B≤g∧g<w.heap.size:=by
 rcases h.2 with⟨_,h1⟩|⟨g,cap,_,e,hB,hc,_⟩
 ·omega
 ·exact⟨g,cap,e,hB,(Array.getElem?_eq_some_iff.1 hc).1⟩
def NfP {n:Nat}(g:Nat)(P:Int)(L:List (G.PM n))(B:Nat)(w:World)(e:Ending)(w':World):Prop:=e=.returned (.tuple #[])∧Fr w w' (fun x=>x=g∨B≤x)∧∃v bs cs,aB w' g 141 #[.int .i64 n,.int .i64 P,v]∧cT B v L bs cs w'
def NfQ {n:Nat}(g:Nat)(P:Int)(L:List (G.PM n))(B:Nat)(v0:Value)(w:World)(e:Ending)(w':World):Prop:=e=.returned (.tuple #[])∧Fr w w' (fun x=>v0.ownBlock=some x)∧∃v bs cs,aB w' g 141 #[.int .i64 n,.int .i64 P,v]∧cT B v L bs cs w'
def zZ {n:Nat}(L:List (G.PM n))(i:Nat):List (G.PM n):=(L.take i).map G.PM.flip++L.drop i
theorem Eo {n:Nat}(L:List (G.PM n))(i:Nat):(zZ L i).length=L.length:=by simp[zZ];omega
theorem aa3 {n:Nat}{L:List (G.PM n)}{i:Nat}(hi:i<L.length):(zZ L i)[i]?=L[i]?:=by
 simp only[zZ]
 rw[List.getElem?_append_right (by simp;omega),List.getElem?_drop]
 congr 1
 simp
 omega
theorem Ti {n:Nat}{L:List (G.PM n)}{i:Nat}{p:G.PM n}(hp:L[i]?=some p):(zZ L i).set i p.flip=zZ L (i+1):=by
 have hi:i<L.length:=(List.getElem?_eq_some_iff.1 hp).1;rw[List.getElem?_eq_getElem hi]at hp;injection hp with hp
 simp only[zZ]
 rw[List.set_append,if_neg (by simp;omega)];have e:((L.take i).map G.PM.flip).length=i:=by simp;omega
 rw[e,Nat.sub_self,List.drop_eq_getElem_cons hi,List.set_cons_zero,List.take_succ_eq_append_getElem hi,List.map_append,List.append_assoc,hp]
 rfl
theorem lq {n:Nat}(g:Nat)(P:Int)(v:Value)(L:List (G.PM n))(bs cs:Nat→Nat)(B:Nat)(w:World)(h:cT B v L bs cs w)(hb:aB w g 141 #[.int .i64 n,.int .i64 P,v])(hgB:g<B)(hB:B≤w.heap.size)(hn:n≤1000)(hn1:1≤n)(hl:L.length≤1000000):
 Calls Tryz.prog 142 #[.pointer (some ⟨g,0,none⟩)] w (NfQ g P (L.map G.PM.flip) B v w):=by
 obtain⟨A0,c0,rfl⟩:=h.own.sl;have HF:=qh h;have rE:=qh hb;have m2:w.cell? ⟨g,2,none⟩=some (.slice A0 L.length c0):=qc hb 2 rfl;have jG:=qh (Eo L);have bN:=qh (fun i p hp=>Ti (L:=L) (i:=i) (p:=p) hp);have ZO:=qh (fun i hi=>aa3 (L:=L) (i:=i) hi);have iX:=qh (show zZ L L.length=L.map G.PM.flip by simp[zZ]);have HZ:=qh (show zZ L 0=L by simp[zZ]);obtain⟨N,hN⟩:=qx (L.length)
 simp only[←hN]at HF rE m2 jG iX ZO hl ⊢
 have qZ:=qh hN;clear h hb hN
 go_enter Tryz.func142,Tryz.ntmps142
 go_wp2_with fail
 clear m2
 go_loopw [9] (fun x wr=>∃(k:Nat) (nX cs1:Nat→Nat),k≤N∧x=.int .i64 k∧Hq (cT B (.slice A0 N c0) (zZ L k) nX cs1 wr)∧Hq (aB wr g 141 #[.int .i64 n,.int .i64 P,.slice A0 N c0])∧Hq (Fr w wr (fun x=>(Value.slice A0 N c0).ownBlock=some x))) (fun x _=>N-(intOf x).toNat)
 case atStart=>exact⟨0,bs,cs,Nat.zero_le _,rfl,qh (by rw[HZ.o];exact HF.o),rE,qh (Fr.refl _ _)⟩
 case round=>
  obtain⟨k,nX,cs1,hk,rfl,gW,HB1,iL⟩:=hrel
  by_cases hlt:k<N
  ·have PV:=qh (jG.o k)
   obtain⟨g0,o0,cap,he,hg0,hBg0⟩:=gW.o.form (by have:=PV.o;omega);injection he with e1 e2 e3;clear e2;subst e1 e3;obtain⟨p,hp⟩:∃p,L[k]?=some p:=⟨_,List.getElem?_eq_getElem (by have:=qZ.o;omega)⟩;have hpk:(zZ L k)[k]?=some p:=(ZO.o k qo).trans hp;have pK:=qh (bN.o k p hp);have bX:=qh (show cT B (.slice (some ⟨g0,o0,none⟩) (zZ L k).length c0) (zZ L k) nX cs1 wr by rw[PV.o];exact gW.o);have kc:=bX.o.cell (j:=k) (by rw[PV.o];exact hlt);have hfk:=bX.o.frozen (o0+k);have QX:=gW.o.AG k p hpk;have Qd:=qh (Tg p (some ⟨nX k,0,none⟩) (cs1 k) wr.drew (Rd.drewN (iD QX) 1) hn);have m2:wr.cell? ⟨g,2,none⟩=some (.slice (some ⟨g0,o0,none⟩) N c0):=HB1.o.cell 2;have hgz:=HB1.o.lt;have hne1:g≠g0:=qo;have hne2:g0≠g:=qo;have b1:(0:Int)≤(k:Int):=qo;have b2:(k:Int)<(N:Int):=qo;clear QX hp hpk
   go_wp2_with fail
   go_region_held3 (fun w'=>w'.cell? ⟨g,2,none⟩=some (.slice (some ⟨g0,o0,none⟩) N c0)) (go_keep) ((go_at_call 170;refine Qd.o.mono ?_;rintro e w4 h4;obtain⟨A4,c4,rfl,eN,_,IH⟩:=h4.rd;rw[G.aC]at eN ⊢;obtain⟨g4,c5,Md,hg4,jF⟩:=BR hn1 eN;injection Md with X6 Mc X5;clear Mc;subst X6 X5;have hb4:Below wr.heap.size wr w4:=(Below.refl wr.heap.size wr).drew.trans IH;have bP:=qh eN;have HG4:=qh hg4;have nB:=qh (bX.o.below hb4);have aR:=qh (HB1.o.below hb4 hgz);have D9:=qh (iL.o.eL (hb4.mono iL.o.size));have m2:=aD hb4 hgz m2;have kc:=aD hb4 hg0 kc;have hfk:=(World.frozen?_of_block (a:=⟨g0,o0+k,none⟩) (hb4.block _ hg0)).trans hfk;clear h4 eN hb4 IH hg4))
   rename_i hHeld
   clear hHeld m2
   rename World=>w4
   go_wp2_with fail
   go_roundw
   case rel=>exact⟨k+1,_,_,by omega,qg,qh (by
    have h1:=nB.o.put (i:=k) (by rw[PV.o];exact hlt) (eF bP.o (by have:=iL.o.size;simp;omega)) (fun hx=>by
     have:=(bX.o.lt hx).2;have h5:=HG4.o
     simp at h5
     omega)
    rw[pK.o,PV.o]at h1;exact h1),qh (aR.o.far (by simp;omega) _),qh (D9.o.set (p:=⟨g0,o0+k,none⟩) rfl _)⟩
   case measure=>exact qs
  ·obtain rfl:N=k:=qo
   go_wp2_with fail
   go_end0
   exact⟨rfl,iL.o,_,nX,cs1,HB1.o,by rw[←iX.o];exact gW.o⟩
theorem cT.oC {n:Nat}{B:Nat}{v:Value}{L:List (G.PM n)}{bs cs:Nat→Nat}{w:World}(h:cT B v L bs cs w){g:Nat}(i:Nat)(hg:g<B)(u:Value):cT B v L bs cs (w.setCell ⟨g,i,none⟩ u):=h.keep fun x hx=>Below.heap_setCell w _ _ x (by have:=(h.lt hx).1;simp;omega)
theorem o9 {w:World}{A:Option Addr}{L:List Int}(h:cX w A L){p:Addr}(hp:∀b,Fb A L.length b→b≠p.block)(u:Value):cX (w.setCell p u) A L:=(aQ _ _ _).1 _ _ h fun b hb=>Below.heap_setCell w p u b (hp b hb)
theorem Qr {n:Nat}(g:Nat)(P:Int)(v:Value)(L:List (G.PM n))(bs cs:Nat→Nat)(B:Nat)(w:World)(h:cT B v L bs cs w)(hb:aB w g 141 #[.int .i64 n,.int .i64 P,v])(hgB:g<B)(hB:B≤w.heap.size)(hn:n≤1000)(hn2:2≤n)(hl:L.length≤100000)(hs:G.Still L)(hP: -1000000≤P∧P≤1000000):
 Calls Tryz.prog 173 #[.pointer (some ⟨g,0,none⟩)] w (NfP g (P+G.cnt L) (G.strip L) B w):=by
 have HF:=qh h;have rE:=qh hb;have HS:=qh hs;have m0:=qc hb 0 rfl;have hgz:=hb.lt;have gT:=qh (fun W=>FZ n W hn qo);have TS:=qh (fun W=>QW n W hn);clear h hb hs
 go_enter Tryz.func173,Tryz.ntmps173
 go_wp2_with fail
 go_region_held3 (fun w'=>w'.cell? ⟨g,0,none⟩=some (.int .i64 n)) (go_keep)
  (
   first
   |(go_at_call 144;refine(gT.o _).mono ?_;rintro e w4 ⟨A4,c4,rfl,hr4,hb4,hap⟩;have IH:Below w.heap.size w w4:=(Below.refl w.heap.size w).drew.trans hb4;have nB:=qh (HF.o.below IH);have aR:=qh (rE.o.below IH hgz);have HR4:=qh hr4;have HAT:=qh (show∀b,Fb A4 (G.pl (G.del:G.PM n)).length b→b≠g from fun b hb e=>by have h1:=hap _ b hb;simp at h1;omega);clear hap;have CF:=qh IH;have m0:=aD IH hgz m0;clear hb4 IH hr4)
   |(go_at_call 169;refine(TS.o _).mono ?_;rintro e w5 h5;obtain⟨A5,c5,rfl,vw,qW,hb5⟩:=h5.rd;have Qj:=qh (show∀b,Fb A5 (G.pl (G.one:G.PM n)).length b→b≠g from fun b hb e=>by have h1:=(qU vw hb).1;have h2:=CF.o.size;omega);rw[G.aC];clear vw;have eJ:=qh (nB.o.below hb5);have jF:=aR.o.lt;have aZ:=qh (aR.o.below hb5 jF);have HT5:=qh (Rd.below HR4.o hb5);have Zy:=qh qW;have Zj:=CF.st hb5;have m0:=aD hb5 jF m0;clear h5 qW hb5 nB aR HR4 CF jF))
 rename_i hHeld
 clear hHeld m0 HF rE gT TS
 rename World=>w5
 go_wp2_with fail
 go_loopg [19] L.length (fun gh _ wr=>∃(M:List (G.PM n)) (P1:Int) (v1:Value) (nX cs1:Nat→Nat),gh=M.length∧M.length≤L.length∧Hq (G.Still M)∧Hq (G.strip M=G.strip L)∧Hq (P1+G.cnt M=P+G.cnt L)∧(-1000000≤P1∧P1+M.length≤1000000+L.length)∧Hq (cT B v1 M nX cs1 wr)∧Hq (aB wr g 141 #[.int .i64 n,.int .i64 P1,v1])∧Hq (Fr w wr (fun x=>x=g∨B≤x))∧Hq (cX wr A4 (G.pl (G.del:G.PM n)))∧Hq (cX wr A5 (G.pl (G.one:G.PM n))))
 case atStart=>exact⟨L,P,v,bs,cs,rfl,Nat.le_refl _,HS,qh rfl,qh rfl,by omega,eJ,aZ,qh (Fr.of_below Zj.o _),HT5,Zy⟩
 case round=>
  clear HS eJ aZ Zj HT5 Zy;obtain⟨M,P1,v1,nX,cs1,hgh,XA,jM,D8,Gg,hP1,gW,HB1,rN,HT1,HI1⟩:=hrel
  rcases M with _|⟨p,M⟩
  ·obtain⟨A1,c1,rfl⟩:=gW.o.own.sl
   have aiH:=qh (show P1=P+G.cnt L by have h1:=Gg.o;have h2:(G.cnt ([]:List (G.PM n)))=0:=rfl;rw[h2]at h1;omega);have Uo:=qh (show G.strip L=[]from D8.o.symm.trans rfl);have m2:wr.cell? ⟨g,2,none⟩=some (.slice A1 0 c1):=HB1.o.cell 2
   go_wp2_with fail
   go_loopg [57] 0 (fun gh _ w2=>gh=0∧w2=wr)
   case atStart=>exact⟨rfl,rfl⟩
   case round=>
    obtain⟨_,rfl⟩:=hrel;have e5:decide ((0:Nat)<0)=false:=rfl
    go_wp2_with fail
    go_quiet (fail)
    go_wp2_with fail
    go_end0
    have xF:=qh (gW.o.drewN nq);refine⟨rfl,Fr.eL rN.o (Below.drewN' (Below.refl _ _) nq),.slice A1 0 c1,nX,cs1,?_,?_⟩
    ·rw[←aiH.o]
     exact HB1.o
    ·rw[Uo.o]
     exact xF.o
  ·obtain⟨gv,ov,cap,rfl,hgv,hBv⟩:=gW.o.form qj
   have bX:=qh (show cT B (.slice (some ⟨gv,ov,none⟩) (M.length+1) cap) (p::M) nX cs1 wr from gW.o);have HB2:=qh (show aB wr g 141 #[.int .i64 n,.int .i64 P1,.slice (some ⟨gv,ov,none⟩) (M.length+1) cap]from HB1.o);have kc:wr.cell? ⟨gv,ov,none⟩=some (.slice (some ⟨nX 0,0,none⟩) n (cs1 0)):=gW.o.cell (j:=0) qj;have hr0:=qh (iD (gW.o.AG 0 p rfl));have m0:wr.cell? ⟨g,0,none⟩=some (.int .i64 n):=HB2.o.cell 0;have m1:wr.cell? ⟨g,1,none⟩=some (.int .i64 P1):=HB2.o.cell 1;have m2:wr.cell? ⟨g,2,none⟩=some (.slice (some ⟨gv,ov,none⟩) (M.length+1) cap):=HB2.o.cell 2;have f1:=HB2.o.frozen 1;have f2:=HB2.o.frozen 2;have ac5:=HB2.o.lt;have hM2:M.length+1≤100000:=by simp at XA;omega
   obtain⟨m,hm⟩:=qx (M.length);have HM:=qh hm;have adk:m+1≤L.length:=by simp at XA;omega
   have hP2:P1+((m:Int)+1)≤1000000+L.length:=by have h1:=hP1.2;simp at h1;omega
   have Sj:gk=m+1:=by simp at hgh;omega
   rw[←hm]at bX HB2 m2 hM2;clear hm XA gW HB1 hgh;have zX:=F5 (some ⟨nX 0,0,none⟩) A4 (cs1 0) c4 (G.pl p) (G.pl (G.del:G.PM n)) wr hr0.out HT1.o (by rw[G.aC];omega) (by rw[G.aC];omega);rw[G.aC,G.aC]at zX;have b1:(0:Int)<(m:Int)+1:=qo;have b2:(1:Int)<(n:Int):=qo;have b3:(0:Nat)<m+1:=qo
   by_cases hp:p=G.del
   ·subst hp
    rw[decide_eq_true rfl]at zX;have mO:=qh zX;clear zX;have hpw:IntKind.i64.wrap (P1+1)=P1+1:=IntWalk.i64_in _ qo;obtain⟨hcd,hcn⟩:=G.Tw hn2 M;have Fy:=qh (show G.strip M=G.strip L by rw[←hcd];exact D8.o);have ah:=qh (show P1+1+G.cnt M=P+G.cnt L by have h1:=Gg.o;rw[hcn]at h1;omega);have TN:=qh jM.o.tail;clear hcd hcn
    by_cases hc1:cap=1
    ·subst hc1
     have hm0:m=0:=by
      have h1:=bX.o.own.2
      rcases h1 with⟨h1,_⟩|⟨_,_,_,_,h1,_,_,h2,_⟩
      ·cases h1
      ·injection h1 with _ h3 h4
       simp at h2
       have:=HM.o;omega
     subst hm0;have hMn:M=[]:=List.eq_nil_of_length_eq_zero HM.o.symm;subst hMn
     go_wp2_with (go_at_call 139;refine mO.o.mono ?_;rintro e w6 ⟨rfl,q,rfl⟩)
     go_roundg 0
     case rel=>exact⟨[],P1+1,_,nX,cs1,rfl,Nat.zero_le _,TN,Fy,ah,by simp;omega,qh ((((bX.o.Bd).drewN q).oC 1 hgB _).oC 2 hgB _),qh (((HB2.o.drewN q).bJ 1 _).bJ 2 _),qh (((rN.o.eL (Below.drewN' (Below.refl _ _) q)).set (.inl rfl) _).set (.inl rfl) _),qh (o9 (o9 (Rd.drewN HT1.o q) (fun b hb=>HAT.o b hb) _) (fun b hb=>HAT.o b hb) _),qh (o9 (o9 (Rd.drewN HI1.o q) (fun b hb=>Qj.o b hb) _) (fun b hb=>Qj.o b hb) _)⟩
     case measure=>omega
    ·go_wp2_with (go_at_call 139;refine mO.o.mono ?_;rintro e w6 ⟨rfl,q,rfl⟩)
     go_roundg m
     case rel=>exact⟨M,P1+1,_,_,_,HM.o,by have:=HM.o;omega,TN,Fy,ah,by have:=HM.o;omega,qh ((((bX.o.tail HM.o.symm hc1).drewN q).oC 1 hgB _).oC 2 hgB _),qh (((HB2.o.drewN q).bJ 1 _).bJ 2 _),qh (((rN.o.eL (Below.drewN' (Below.refl _ _) q)).set (.inl rfl) _).set (.inl rfl) _),qh (o9 (o9 (Rd.drewN HT1.o q) (fun b hb=>HAT.o b hb) _) (fun b hb=>HAT.o b hb) _),qh (o9 (o9 (Rd.drewN HI1.o q) (fun b hb=>Qj.o b hb) _) (fun b hb=>Qj.o b hb) _)⟩
     case measure=>omega
   ·have Li:¬(G.pl p=G.pl (G.del:G.PM n)):=fun e=>hp (G.NN e)
    rw[decide_eq_false Li]at zX;have mO:=qh zX;clear zX Li;obtain⟨hcz,hnd⟩:=G.lg jM.o hp;have ah:=qh (show P1=P+G.cnt L by have h1:=Gg.o;rw[hcz]at h1;omega);have eR:=qh hnd;clear hcz hnd hp;obtain⟨M0,hM0⟩:=qx (p::M);have B7:=qh (show M0.length=m+1 by rw[hM0,List.length_cons,←HM.o]);rw[←hM0]at bX jM D8 eR;clear hM0 HM Gg hP1
    go_wp2_with (go_at_call 139;refine mO.o.mono ?_;rintro e w6 ⟨rfl,q,rfl⟩)
    have nZ:=qh (bX.o.drewN q);have HB3:=qh (HB2.o.drewN q);have RG:=qh (rN.o.eL (Below.drewN' (Below.refl _ _) q));have HI3:=qh (Rd.drewN HI1.o q);obtain⟨w7,hw7⟩:=qx (wr.drewN q);rw[←hw7]at nZ HB3 RG HI3 ⊢;clear hw7 m0 m1 m2 f1 f2 kc hr0 bX HB2 rN HI1 HT1 mO
    rename World=>w7
    go_loopg [57] (m+1) (fun gh _ wr=>∃(M:List (G.PM n)) (v1:Value) (nX cs1:Nat→Nat),gh=M.length∧M.length≤L.length∧Hq (G.Still M)∧Hq (G.strip M=G.strip L)∧Hq (∀q∈M,q≠G.del)∧Hq (cT B v1 M nX cs1 wr)∧Hq (aB wr g 141 #[.int .i64 n,.int .i64 P1,v1])∧Hq (Fr w wr (fun x=>x=g∨B≤x))∧Hq (cX wr A5 (G.pl (G.one:G.PM n))))
    case atStart=>exact⟨M0,_,nX,cs1,B7.o.symm,by have:=B7.o;omega,jM,D8,eR,nZ,HB3,RG,HI3⟩
    case round=>
     clear jM D8 eR nZ HB3 RG HI3 B7;obtain⟨M,v1,nX,cs1,hgh,XA,jM,D8,eR,gW,HB1,rN,HI1⟩:=hrel
     rcases List.eq_nil_or_concat M with rfl|⟨M,p,rfl⟩
     ·obtain⟨A1,c1,rfl⟩:=gW.o.own.sl
      have Uo:=qh (show G.strip L=[]from D8.o.symm.trans rfl);have m2:wr.cell? ⟨g,2,none⟩=some (.slice A1 0 c1):=HB1.o.cell 2;have e5:decide ((0:Nat)<0)=false:=rfl
      go_wp2_with fail
      go_quiet (fail)
      go_wp2_with fail
      go_end0
      refine⟨rfl,Fr.eL rN.o (Below.drewN' (Below.refl _ _) nq),.slice A1 0 c1,nX,cs1,?_,?_⟩
      ·rw[←ah.o]
       exact HB1.o
      ·rw[Uo.o]
       exact gW.o.drewN nq
     ·rw[List.concat_eq_append]at jM D8 eR gW hgh XA
      obtain⟨gv,ov,cap,rfl,hgv,hBv⟩:=gW.o.form qj;have Sj:gk=M.length+1:=by simp at hgh;omega
      have adk:M.length+1≤L.length:=by simp at XA;omega
      have bX:=qh (show cT B (.slice (some ⟨gv,ov,none⟩) (M.length+1) cap) (M++[p]) nX cs1 wr by have h1:=gW.o;rw[List.length_append,List.length_singleton]at h1;exact h1);have HB2:=qh (show aB wr g 141 #[.int .i64 n,.int .i64 P1,.slice (some ⟨gv,ov,none⟩) (M.length+1) cap]by have h1:=HB1.o;rw[List.length_append,List.length_singleton]at h1;exact h1);have kc:wr.cell? ⟨gv,ov+M.length,none⟩=some (.slice (some ⟨nX M.length,0,none⟩) n (cs1 M.length)):=gW.o.cell (j:=M.length) qj;have hr0:=qh (iD (gW.o.AG M.length p qj));have hc1:M.length+1≤cap:=by
       rcases bX.o.own.2 with⟨h1,_⟩|⟨_,_,_,_,h1,_,_,h2,_⟩
       ·cases h1
       ·injection h1 with _ _ h4
        simp at h2
        omega
      have hc2:cap≤maxLen:=by
       rcases bX.o.own.2 with⟨h1,_⟩|⟨_,_,_,_,h1,_,_,_,h2,_⟩
       ·cases h1
       ·injection h1 with _ _ h4
        omega
      have m2:wr.cell? ⟨g,2,none⟩=some (.slice (some ⟨gv,ov,none⟩) (M.length+1) cap):=HB2.o.cell 2;have f2:=HB2.o.frozen 2;clear gW HB1 hgh XA;obtain⟨m,hm⟩:=qx (M.length);have HM:=qh hm;rw[←hm]at bX HB2 kc hr0 hc1 m2 Sj adk;clear hm;have zX:=fun q=>F5 (some ⟨nX m,0,none⟩) A5 (cs1 m) c5 (G.pl p) (G.pl (G.one:G.PM n)) (wr.drewN q) (Rd.drewN hr0.out q) (Rd.drewN HI1.o q) (by rw[G.aC];omega) (by rw[G.aC];omega)
      simp only[G.aC]at zX
      have b1:(0:Int)<(m:Int)+1:=qo;have b3:decide ((0:Nat)<m+1)=true:=decide_eq_true qo;have b4:decide ((0:Int)<(m:Int)+1)=true:=decide_eq_true qo;have b5:(0:Int)≤(m:Int):=qo;have b6:(m:Int)<(m:Int)+1:=qo
      by_cases hp:p=G.one
      ·subst hp
       simp only[decide_true]at zX
       have mO:=qh zX;clear zX;have Fy:=qh (show G.strip M=G.strip L by rw[←G.last_one M];exact D8.o);have TN:=qh jM.o.front;have ain:=qh (fun q hq=>eR.o q (List.mem_append_left _ hq))
       go_wp2_with fail
       go_quiet ((go_at_call 139;exact Calls.quiet_of (mO.o _)))
       obtain⟨w8,hw8⟩:=qx (wr.drewN nq);have nZ:=qh (bX.o.drewN nq);have HB3:=qh (HB2.o.drewN nq);have RG:=qh (rN.o.eL (Below.drewN' (Below.refl _ _) nq));have HI3:=qh (Rd.drewN HI1.o nq);rw[←hw8]at nZ HB3 RG HI3 ⊢;clear hw8 m2 f2 kc hr0 bX HB2 rN HI1 mO;have m2:w8.cell? ⟨g,2,none⟩=some (.slice (some ⟨gv,ov,none⟩) (m+1) cap):=HB3.o.cell 2;have f2:=HB3.o.frozen 2
       go_wp2_with fail
       go_region
       go_wp2_with fail
       go_roundg m
       case rel=>exact⟨M,_,nX,cs1,HM.o,by have:=HM.o;omega,TN,Fy,ain,qh (((nZ.o.front HM.o.symm).oC 2 hgB _).drewN 1),qh (((HB3.o.bJ 2 _)).drewN 1),qh ((RG.o.set (.inl rfl) _).eL (Below.drewN' (Below.refl _ _) 1)),qh (Rd.drewN (o9 HI3.o (fun b hb=>Qj.o b hb) _) 1)⟩
       case measure=>omega
      ·have Li:¬(G.pl p=G.pl (G.one:G.PM n)):=fun e=>hp (G.NN e)
       simp only[decide_eq_false Li]at zX
       have mO:=qh zX;have aip:=qh (G.Rs jM.o eR.o hp);clear zX Li hp
       go_wp2_with fail
       go_quiet ((go_at_call 139;exact Calls.quiet_of (mO.o _)))
       go_wp2_with fail
       go_end0
       refine⟨rfl,Fr.eL rN.o (Below.drewN' (Below.refl _ _) nq),.slice (some ⟨gv,ov,none⟩) (m+1) cap,nX,cs1,?_,?_⟩
       ·rw[←ah.o]
        exact HB2.o
       ·rw[←D8.o,aip.o]
        exact bX.o.drewN nq
theorem RP {n:Nat}(g:Nat)(P:Int)(v:Value)(L:List (G.PM n))(bs cs:Nat→Nat)(B:Nat)(p:G.PM n)(a:Addr)(c:Nat)(w:World)(h:cT B v L bs cs w)(hb:aB w g 141 #[.int .i64 n,.int .i64 P,v])(hgB:g<B)(hB:B≤w.heap.size)(ha:cX w (some a) (G.pl p))(hn:n≤1000)(hn2:2≤n)(hl:L.length≤10000)(hP: -100000≤P∧P≤100000):
 Calls Tryz.prog 145 #[.pointer (some ⟨g,0,none⟩),.slice (some a) n c] w (NfP g (G.nor P (L++[p])).1 (G.nor P (L++[p])).2 B w):=by
 obtain⟨i0,hi,iz,is,ib⟩:=info_parts OC;obtain⟨A0,c0,rfl⟩:=h.own.sl;have HF:=qh h;have rE:=qh hb;have m2:=qc hb 2 rfl;have hgz:=hb.lt;have X7:=Fe a c (G.pl p) w.drew (Rd.drewN ha 1) (by rw[G.aC];omega);rw[G.aC]at X7;have L9:=qh X7;clear h hb X7 ha
 go_enter Tryz.func145,Tryz.ntmps145
 go_wp2_with fail
 refine cN (S:=fun w'=>w'.cell? ⟨g,2,none⟩=some (.slice A0 L.length c0)) _ qj qk qk m2 (fun hHeld=>?_)
 simp only[List.dropLast,List.getLast_cons_cons,List.getLast_singleton,List.length_cons,List.length_nil]
 refine qt 0 hHeld ?_;refine qt 1 hHeld ?_;refine qt 2 hHeld ?_;refine qt 3 hHeld ?_;refine qt 4 hHeld ?_;refine qt 5 hHeld ?_
 simp only[List.getElem_toArray,List.getElem_cons_succ,List.getElem_cons_zero,Act.put,List.setIfInBounds_toArray,List.set_cons_zero,List.set_cons_succ]
 refine wpAnyH_ready (rs:=[6]) qk qj ?_;refine AllReadyH.cons rfl (fun K hK=>?_) AllReadyH.nil
 simp only[List.getElem_toArray,List.getElem_cons_succ,List.getElem_cons_zero]
 go_simp
 refine L9.o.mono ?_;rintro e w3 h3;obtain⟨A3,c3,rfl,ho3,_,hb3⟩:=h3.rd;rw[G.aC]at ho3 ⊢;obtain⟨g3,c4,he3,hg3,hz3⟩:=BR qo ho3;injection he3 with Md X6 X5;clear X6;subst Md X5;have hb4:Below w.heap.size w w3:=(Below.refl w.heap.size w).drew.trans hb3;have bS:=qh ho3;have HG3:=qh (show w.heap.size≤g3 from hg3);have nZ:=qh (HF.o.below hb4);have HB3:=qh (rE.o.below hb4 hgz);have HW3:=qh hb4;have m3:w3.cell? ⟨g,2,none⟩=some (.slice A0 L.length c0):=HB3.o.cell 2;have hBz:B≤w3.heap.size:=by have:=hb4.size;omega
 refine hK.out _ _ m3 (fun jL=>?_);clear hK K hHeld m2 h3 ho3 hb3 hb4 hg3;refine wpAnyH_ready (rs:=[7]) qk qj ?_;refine AllReadyH.cons rfl (fun K hK=>?_) AllReadyH.nil
 simp only[List.getElem_toArray,List.getElem_cons_succ,List.getElem_cons_zero]
 go_simp
 refine hK.out _ _ (by go_keep) (fun fY=>?_);clear hK K jL;refine wpAnyH_ready (rs:=[8]) qk qj ?_;refine AllReadyH.cons rfl (fun K hK=>?_) AllReadyH.nil
 simp only[List.getElem_toArray,List.getElem_cons_succ,List.getElem_cons_zero]
 refine gy w3 (by rfl) (.tmp 10) (.tmp 13) _ (by rfl) B 34 i0 _ 24 Tryz.underlying54 hi iz is ib rfl (.slice A0 L.length c0) L.length _ (by rfl) nZ.o.own _ 1 1 [.slice (some ⟨g3,0,none⟩) n c3] (by rfl) rfl (by simp[Value.oneCell']) qm qo hBz ?_;intro v5 w5 hown5 qL mY;have aia:=qh hown5;obtain⟨A5,c5,rfl⟩:=hown5.sl;have hgv:¬(Value.slice A0 L.length c0).ownBlock=some g:=fun e=>by have:=(nZ.o.own.lt g e).1;omega
 have iQ:=qh (show¬zm (.slice A0 L.length c0) L.length bs g3 from fun hx=>by
  have h1:=(HF.o.lt hx).2;have h2:=HG3.o;omega)
 have eJ:=qh (nZ.o.snoc (eF bS.o (by simp;omega)) iQ.o hown5 qL (by
  rcases mY with h1|h1
  ·exact .inl h1
  ·exact .inr ⟨_,h1,by omega⟩))
 have aZ:=qh (HB3.o.fr qL hgv);have ZU:=qh ((Fr.of_below HW3.o (fun x=>x=g∨B≤x)).trans (qL.mono (fun b hb=>.inr (nZ.o.own.lt b hb).1)));have m5:w5.cell? ⟨g,2,none⟩=some (.slice A0 L.length c0):=aZ.o.cell 2;have f5:=aZ.o.frozen 2;refine hK.out _ _ m5 (fun bU=>?_);clear hK K fY m3 hown5 qL mY aia iQ nZ HB3 bS HG3 L9;refine qt 9 bU ?_;refine qt 10 bU ?_
 simp only[List.getElem_toArray,List.getElem_cons_succ,List.getElem_cons_zero,Act.put,List.setIfInBounds_toArray,List.set_cons_zero,List.set_cons_succ]
 refine wpAnyH_done qk ?_ _;refine d8.of ?_
 go_simp
 clear bU m5 f5;have bG:=qh (aZ.o.bJ 2 (.slice A5 (L.length+1) c5));have t8:=qh (eJ.o.oC 2 hgB (.slice A5 (L.length+1) c5));have Vk:=qh (ZU.o.set (p:=⟨g,2,none⟩) (.inl rfl) (.slice A5 (L.length+1) c5));obtain⟨w6,jU⟩:=qx (w5.setCell ⟨g,2,none⟩ (.slice A5 (L.length+1) c5));rw[←jU]at bG t8 Vk ⊢;have bG:=qh (show aB w6 g 141 #[.int .i64 n,.int .i64 P,.slice A5 (L.length+1) c5]from bG.o);obtain⟨sV,hbs⟩:∃b,b=(fun j=>if j=L.length then g3 else bs j):=⟨_,rfl⟩;obtain⟨DV,hcs⟩:∃b,b=(fun j=>if j=L.length then c3 else cs j):=⟨_,rfl⟩;rw[←hbs,←hcs]at t8;obtain⟨M0,hM0⟩:=qx (L++[p]);have CJ:=qh (show M0.length=L.length+1 by rw[hM0];simp);have aii:=qh (show G.nor P (L++[p])=(P+(G.cnt (G.nf M0):Nat),G.strip (G.nf M0))by rw[hM0];rfl);rw[←hM0]at t8;clear jU hbs hcs hM0 eJ aZ ZU HF rE HW3;obtain⟨N,hN⟩:=qx (L.length+1)
 simp only[←hN]at t8 bG CJ ⊢
 have hN1:1≤N:=qo;have Yp:N≤10001:=qo;clear hN hl
 go_wp2_with fail
 go_loopg [4,5] (G.mu M0+1) (fun gh b _ wr=>∃(M:List (G.PM n)) (ch:Bool),b=.bool ch∧gh=(if ch then G.mu M+1 else 0)∧Hq (ch=false→G.Still M)∧Hq (G.Steps M0 M)∧Hq (cT B (.slice A5 N c5) M sV DV wr)∧Hq (aB wr g 141 #[.int .i64 n,.int .i64 P,.slice A5 N c5])∧Hq (Fr w wr (fun x=>x=g∨B≤x)))
 case atStart=>exact⟨M0,true,rfl,rfl,qh (fun h=>by cases h),qh (.refl _),t8,bG,Vk⟩
 case round=>
  clear t8 bG Vk;obtain⟨M1,ch,rfl,hgh,HST,jM,gW,HB1,rN⟩:=hrel;have rA:=qh (jM.o.length.trans CJ.o)
  cases ch with
  |false=>
   have iQ:=qh (G.EP jM.o (HST.o rfl));have Zu:=qh (show G.nor P (L++[p])=(P+(G.cnt M1:Nat),G.strip M1)from by rw[aii.o,iQ.o]);have HTI:=qh (Qr g P (.slice A5 N c5) M1 sV DV B wr gW.o HB1.o hgB (by have:=rN.o.size;omega) hn hn2 (by have:=rA.o;omega) (HST.o rfl) qo)
   go_wp2_with fail
   refine HTI.o.mono ?_;rintro e w7 ⟨rfl,wN,v7,bs7,cs7,bQ,X4⟩;have Qf:=qh (rN.o.trans wN);have aS:=qh bQ;have RH:=qh X4;clear wN bQ X4
   go_wp2_with fail
   go_end0
   refine⟨rfl,Qf.o,v7,bs7,cs7,?_,?_⟩
   ·rw[Zu.o]
    exact aS.o
   ·rw[Zu.o]
    exact RH.o
  |true=>
   have m2:wr.cell? ⟨g,2,none⟩=some (.slice A5 N c5):=HB1.o.cell 2;have Sj:gk=G.mu M1+1:=hgh;clear hgh HST
   go_wp2_with fail
   clear m2
   go_loopg [4,5] (N-1) (fun q b i wr=>∃(k:Nat) (M2:List (G.PM n)) (ch:Bool),k+1≤N∧q=k∧i=.int .i64 ((k:Int)-1)∧b=.bool ch∧Hq (G.Steps M1 M2)∧Hq ((ch=false∧M2=M1∧G.wT M1 k)∨(ch=true∧G.mu M2<G.mu M1))∧Hq (cT B (.slice A5 N c5) M2 sV DV wr)∧Hq (aB wr g 141 #[.int .i64 n,.int .i64 P,.slice A5 N c5])∧Hq (Fr w wr (fun x=>x=g∨B≤x)))
   case atStart=>exact⟨N-1,M1,false,by omega,rfl,congrArg (Value.int .i64) qo,rfl,qh (.refl _),qh (.inl ⟨rfl,rfl,G.U2 M1 (by have:=rA.o;omega)⟩),gW,HB1,rN⟩
   case round=>
    clear gW HB1 rN;obtain⟨k,M2,ch,hk,hq,rfl,rfl,HS2,j9,bX,HB2,vU⟩:=hrel;have eS:=qh (HS2.o.length.trans rA.o)
    by_cases h0:0<k
    ·obtain⟨j,rfl⟩:∃j,k=j+1:=⟨k-1,by omega⟩
     have e1:((j+1:Nat):Int)-1=(j:Int):=qo;rw[e1];obtain⟨p1,hp1⟩:∃p,M2[j]?=some p:=⟨_,List.getElem?_eq_getElem (by have:=eS.o;omega)⟩;obtain⟨q1,hq1⟩:∃p,M2[j+1]?=some p:=⟨_,List.getElem?_eq_getElem (by have:=eS.o;omega)⟩;obtain⟨gv,ov,cap,he,hgv,hBv⟩:=bX.o.form (by have:=eS.o;omega);injection he with e2 e3 e4;clear e3;subst e2 e4;have wu:cT B (.slice (some ⟨gv,ov,none⟩) M2.length c5) M2 sV DV wr:=by rw[eS.o];exact bX.o
     have kj:=wu.cell (j:=j) (by have:=eS.o;omega);have kj1:=wu.cell (j:=j+1) (by have:=eS.o;omega);have m2:wr.cell? ⟨g,2,none⟩=some (.slice (some ⟨gv,ov,none⟩) N c5):=HB2.o.cell 2;have hbj:=bX.o.lt (.inr ⟨j,by have:=eS.o;omega,rfl⟩);have ahO:=bX.o.lt (.inr ⟨j+1,by have:=eS.o;omega,rfl⟩);have hvj:gv≠sV j:=fun e=>bX.o.far j (by have:=eS.o;omega) (congrArg some e);have hvj1:gv≠sV (j+1):=fun e=>bX.o.far (j+1) (by have:=eS.o;omega) (congrArg some e);have ac5:=HB2.o.lt;have hbb:sV j≠sV (j+1):=fun e=>by
      have:=bX.o.inj j (j+1) (by have:=eS.o;omega) (by have:=eS.o;omega) e;omega
     have HW:=qh (Gx p1 q1 B (sV j) (DV j) (sV (j+1)) (DV (j+1)) wr.drew hbb (own_drewN (bX.o.AG j p1 hp1) 1) (own_drewN (bX.o.AG (j+1) q1 hq1) 1) hn);have Zp:=qh hp1;have Pe:=qh hq1;have b1:(0:Int)≤(j:Int):=qo;have b2:(j:Int)<(N:Int):=qo;have b3:(0:Int)≤(j:Int)+1:=qo;have b4:(j:Int)+1<(N:Int):=qo;clear wu hp1 hq1 hbb
     go_wp2_with fail
     have s1:IntKind.i64.wrap ((j:Int)+1)=(j:Int)+1:=IntWalk.i64_in _ qo
     go_region_held3 (fun w'=>w'.cell? ⟨g,2,none⟩=some (.slice (some ⟨gv,ov,none⟩) N c5)∧w'.cell? ⟨gv,ov+j,none⟩=some (.slice (some ⟨sV j,0,none⟩) n (DV j))∧w'.cell? ⟨gv,ov+(j+1),none⟩=some (.slice (some ⟨sV (j+1),0,none⟩) n (DV (j+1)))) (go_keep) ((go_at_call 172;refine HW.o.mono ?_;rintro e w4 ⟨p',q',any,rfl,hx,hany,hmu,hst,ac6,hop,hoq⟩;have hfr:Fr wr w4 (fun b=>b=sV j∨b=sV (j+1)):=(Fr.of_below ((Below.refl _ wr).drew) _).trans ac6;have m2:w4.cell? ⟨g,2,none⟩=some (.slice (some ⟨gv,ov,none⟩) N c5):=(hfr.cells ac5 qo 2).trans m2;have kj:w4.cell? ⟨gv,ov+j,none⟩=some (.slice (some ⟨sV j,0,none⟩) n (DV j)):=(hfr.cells hgv qo _).trans kj;have kj1:w4.cell? ⟨gv,ov+(j+1),none⟩=some (.slice (some ⟨sV (j+1),0,none⟩) n (DV (j+1))):=(hfr.cells hgv qo _).trans kj1;have nB:=qh (bX.o.weighed (i:=j) (by have:=eS.o;omega) hfr hop hoq);have aR:=qh (HB2.o.fr hfr qo);have D9:=qh (vU.o.trans (hfr.mono (F':=fun x=>x=g∨B≤x) (fun b hb=>by rcases hb with rfl|rfl;exact .inr hbj.1;exact .inr ahO.1)));have HX:=qh hx;have ae7:=qh hany;have HMU:=qh hmu;have HST:=qh (G.Hy Zp.o Pe.o hst);clear hx hany hmu hst ac6 hop hoq hfr))
     rename_i hHeld
     clear hHeld m2 kj kj1 s1 bX HB2 vU HW
     rename World=>w4
     rename Bool=>any
     cases any with
     |false=>
      obtain⟨h5,h6⟩:=ae7.o rfl;subst h5 h6;have hset:(M2.set j p').set (j+1) q'=M2:=by
       have h7:=Zp.o;have h8:=Pe.o
       apply List.ext_getElem?
       intro i;rw[List.getElem?_set,List.length_set,List.getElem?_set];have hlj:j+1<M2.length:=(List.getElem?_eq_some_iff.1 h8).1
       by_cases c1:j+1=i
       ·rw[if_pos c1,if_pos hlj,←c1,h8]
       ·rw[if_neg c1]
        by_cases c2:j=i
        ·rw[if_pos c2,if_pos qo,←c2,h7]
        ·rw[if_neg c2]
      have eJ:=qh (show cT B (.slice (some ⟨gv,ov,none⟩) N c5) M2 sV DV w4 from by have h7:=nB.o;rw[hset]at h7;exact h7);clear hset nB ae7 HMU HST
      go_wp2_with fail
      go_roundg j
      case rel=>exact⟨j,M2,ch,by omega,rfl,qg,rfl,HS2,qh (by
       rcases j9.o with⟨h1,h2,h3⟩|h
       ·exact .inl ⟨h1,h2,by subst h2;exact G.Q9 h3 Zp.o Pe.o HX.o⟩
       ·exact .inr h),eJ,aR,D9⟩
      case measure=>omega
     |true=>
      have nH:=qh (show G.mu ((M2.set j p').set (j+1) q')<G.mu M1 from by
       have h1:=HMU.o rfl
       rcases G.WD HST.o with h|h
       ·exfalso
        have hlj:j+1<M2.length:=(List.getElem?_eq_some_iff.1 Pe.o).1;have h2:((M2.set j p').set (j+1) q')[j]?=some p':=by rw[List.getElem?_set_ne qo,List.getElem?_set_self qo]
        have h3:((M2.set j p').set (j+1) q')[j+1]?=some q':=by rw[List.getElem?_set_self (by rw[List.length_set];omega)]
        rw[h,Zp.o]at h2;rw[h,Pe.o]at h3;injection h2 with h2;injection h3 with h3;rw[h2,h3]at h1;exact Nat.lt_irrefl _ h1
       ·rcases j9.o with⟨_,h2,_⟩|⟨_,h2⟩
        ·rw[←h2]
         exact h
        ·exact Nat.lt_trans h h2)
      go_wp2_with fail
      go_roundg j
      case rel=>exact⟨j,_,true,by omega,rfl,qg,rfl,qh (HS2.o.trans HST.o),qh (.inr ⟨rfl,nH.o⟩),nB,aR,D9⟩
      case measure=>omega
    ·obtain rfl:k=0:=qo
     have b1:¬(0:Int)≤((0:Nat):Int)-1:=qo
     go_wp2_with fail
     cases ch with
     |false=>
      go_roundg 0
      case rel=>exact⟨M2,false,rfl,rfl,qh (fun _=>by
       rcases j9.o with⟨_,h2,h3⟩|⟨h1,_⟩
       ·subst h2
        exact G.U0 h3
       ·cases h1),qh (jM.o.trans HS2.o),bX,HB2,vU⟩
      case measure=>omega
     |true=>
      have hmu:G.mu M2<G.mu M1:=by
       rcases j9.o with⟨h1,_⟩|⟨_,h1⟩
       ·cases h1
       ·exact h1
      go_roundg (G.mu M2+1)
      case rel=>exact⟨M2,true,rfl,rfl,qh (fun h=>by cases h),qh (jM.o.trans HS2.o),bX,HB2,vU⟩
      case measure=>omega
theorem Ib (x:Int)(w:World)(h: -100000≤x∧x≤100000):Calls Tryz.prog 141 #[.int .i64 x] w fun e w'=>e=.returned (.int .i64 x.natAbs)∧w=w':=by
 have s1:IntKind.i64.wrap (-x)= -x:=IntWalk.i64_in _ qo
 by_cases h0:0≤x
 ·have e1:(x.natAbs:Int)=x:=qo
  rw[e1];have b1:(-x:Int)≤x:=qo
  go_enter Tryz.func141,Tryz.ntmps141
  go_wp2
  all_goals go_ret
  all_goals first|exact⟨rfl,rfl⟩|(exact⟨by congr 2;omega,rfl⟩)|(exact⟨congrArg (fun y=>Ending.returned (.int .i64 y)) (Int.max_eq_left qo),rfl⟩)
 ·have e1:(x.natAbs:Int)= -x:=qo
  rw[e1];have b1:¬(-x:Int)≤x:=qo
  go_enter Tryz.func141,Tryz.ntmps141
  go_wp2
  all_goals go_ret
  all_goals first|exact⟨rfl,rfl⟩|(exact⟨by congr 2;omega,rfl⟩)|(exact⟨congrArg (fun y=>Ending.returned (.int .i64 y)) (Int.max_eq_right qo),rfl⟩)
theorem ru {n:Nat}(P:Int)(L:List (G.PM n)):(G.nor P L).1+(G.nor P L).2.length≤P+L.length∧P≤(G.nor P L).1∧(G.nor P L).2.length≤L.length:=by
 have h1:G.cnt (G.nf L)+(G.strip (G.nf L)).length≤(G.nf L).length:=by
  generalize G.nf L=M;unfold G.cnt G.strip
  induction M with
  |nil=>simp
  |cons p M ih=>
   rw[List.filter_cons,List.filter_cons]
   split
   ·rename_i h1
    split
    ·rename_i h2
     simp at h1 h2
     exact absurd h1.2 h2.2
    ·simp only[List.length_cons]
     omega
   ·split
    ·simp only[List.length_cons]
     omega
    ·simp only[List.length_cons]
     omega
 rw[G.S9]at h1;show P+(G.cnt (G.nf L):Nat)+((G.strip (G.nf L)).length:Nat)≤P+L.length∧P≤P+(G.cnt (G.nf L):Nat)∧(G.strip (G.nf L)).length≤L.length;omega
theorem ze {n:Nat}(P:Int)(F:List (G.PM n)){x:Int}(h:0<x):G.act n (P,F) x=G.nor P (F++[G.sig n x.natAbs]):=if_pos h
theorem zi {n:Nat}(P:Int)(F:List (G.PM n)){x:Int}(h:¬0<x):G.act n (P,F) x=G.nor (P-1) (F.map G.PM.flip++[G.neg n x.natAbs]):=if_neg h
theorem YH {n:Nat}(W:List Int):∀(s:Int×List (G.PM n)) (m:Int),-m≤s.1→s.1+s.2.length≤m→ -(m+W.length)≤(G.acts n s W).1∧(G.acts n s W).1+(G.acts n s W).2.length≤m+W.length:=by
 induction W with
 |nil=>intro s m h1 h2;simp[G.acts];omega
 |cons x W ih=>
  rintro⟨P,F⟩ m h1 h2;have h3: -(m+1)≤(G.act n (P,F) x).1∧(G.act n (P,F) x).1+(G.act n (P,F) x).2.length≤m+1:=by
   simp only at h1 h2
   by_cases hx:0<x
   ·rw[ze P F hx]
    have:=ru P (F++[G.sig n x.natAbs])
    simp only[List.length_append,List.length_singleton]at this
    omega
   ·rw[zi P F hx]
    have:=ru (P-1) (F.map G.PM.flip++[G.neg n x.natAbs])
    simp only[List.length_append,List.length_singleton,List.length_map]at this
    omega
  have:=ih (G.act n (P,F) x) (m+1) h3.1 h3.2;show-(m+((x::W).length:Nat))≤(G.acts n (G.act n (P,F) x) W).1∧(G.acts n (G.act n (P,F) x) W).1+(G.acts n (G.act n (P,F) x) W).2.length≤m+((x::W).length:Nat)
  simp only[List.length_cons]
  omega
theorem Oc {n:Nat}{W:List Int}{k:Nat}(hk:k<W.length)(s:Int×List (G.PM n)):G.acts n s (W.take (k+1))=G.act n (G.acts n s (W.take k)) (W.getD k 0):=by
 rw[List.take_succ_eq_append_getElem hk,G.MZ]
 simp[G.acts,List.getD,hk]
def ahW {n:Nat}(w:World)(s:Int×List (G.PM n))(e:Ending)(w':World):Prop:=∃v bs cs,e=.returned (.agg #[.int .i64 n,.int .i64 s.1,v])∧cT w.heap.size v s.2 bs cs w'∧Below w.heap.size w w'
theorem I2 {n:Nat}(W:List Int)(A:OA)(c:Nat)(w:World)(ha:cX w A W)(h2:2≤n∨W=[])(hn:n≤1000)(hw:G.Word n W)(hl:W.length≤4500):
 Calls Tryz.prog 109 #[.int .i64 n,.slice A W.length c] w (ahW w (G.acts n (0,[]) W)):=by
 have HA:=qh ha;have qE:=qh hw;have HB:=qh (((Below.refl w.heap.size w).alloc ql (.cells #[.int .i64 0,.int .i64 0,.slice none 0 0] 141)).alloc qj (.cells #[.int .i64 n,.int .i64 0,.slice none 0 0] 141));have H0:=qh ((aB.at_ (g':=w.heap.size) w 141 #[.int .i64 0,.int .i64 0,.slice none 0 0] rfl).alloc (.cells #[.int .i64 n,.int .i64 0,.slice none 0 0] 141));have H1:=qh (aB.at_ (g':=w.heap.size+1) (w.alloc (.cells #[.int .i64 0,.int .i64 0,.slice none 0 0] 141)) 141 #[.int .i64 n,.int .i64 0,.slice none 0 0] qj);clear ha hw
 go_enter Tryz.func109,Tryz.ntmps109
 go_wp2_with fail
 go_loopw [13] (fun x wr=>∃(k:Nat) (P:Int) (F:List (G.PM n)) (v:Value) (bs cs:Nat→Nat),k≤W.length∧x=.int .i64 k∧Hq (G.acts n (0,[]) (W.take k)=(P,F))∧Hq (cT (w.heap.size+2) v F bs cs wr)∧Hq (aB wr (w.heap.size+1) 141 #[.int .i64 n,.int .i64 P,v])∧Hq (aB wr w.heap.size 141 #[.int .i64 0,.int .i64 0,.slice none 0 0])∧Hq (Below w.heap.size w wr)) (fun x _=>W.length-(intOf x).toNat)
 case atStart=>exact⟨0,0,[],_,fun _=>0,fun _=>0,Nat.zero_le _,rfl,qh rfl,qh (cT.ahr _ _ _ _),H1,H0,HB⟩
 case round=>
  clear H0 H1 HB;obtain⟨k,P,F,v,bs,cs,hk,rfl,HX,HF,HB1,HB0,cS⟩:=hrel
  by_cases hlt:k<W.length
  ·have hn2:2≤n:=by
    rcases h2 with h|h
    ·exact h
    ·rw[h]at hlt
     simp at hlt
   obtain⟨ga,o,rfl,hg,hr⟩:=HA.o qo;have hc:=aD cS.o hg (hr k hlt);have bN:=qh (Oc hlt ((0,[]):Int×List (G.PM n)));have hxw:=qE.o (W.getD k 0) (by simp[List.getD,hlt]);have hbd:=YH (W.take k) ((0,[]):Int×List (G.PM n)) 0 qj qj;rw[HX.o,List.length_take,Nat.min_eq_left hk]at hbd
   simp only at hbd
   obtain⟨x,hx⟩:=qx (W.getD k 0);rw[←hx,HX.o]at bN;rw[←hx]at hxw
   simp only[←hx]at hc
   obtain⟨m,hm⟩:=qx (x.natAbs);have hm1:1≤m:=qo;have hm2:m<n:=qo;have HSZ:=qh (Ib x wr qo);rw[←hm]at HSZ;have GF:=qh (fun w'=>DL n m w' hn hm1 hm2);have b1:(0:Int)≤(k:Int):=qo;have b2:(k:Int)<(W.length:Int):=qo;clear hr hx
   by_cases hp:0<x
   ·have hxn:¬x<0:=qo
    have eS:=qh (show G.acts n (0,[]) (W.take (k+1))=G.nor P (F++[G.sig n m])by rw[bN.o,ze P F hp,hm]);clear bN hm
    go_wp2_with fail
    refine HSZ.o.mono ?_;rintro e w3 ⟨rfl,rfl⟩
    go_wp2_with fail
    refine(GF.o _).mono ?_;rintro e w4 h4;obtain⟨A4,c4,rfl,eN,hr4,hb4⟩:=h4.rd;rw[G.aC]at eN ⊢;obtain⟨g4,c5,Md,hg4,jF⟩:=BR qo eN;injection Md with X6 X5 Mc;clear X5;subst X6 Mc;have hz1:=HB1.o.lt;have hz0:=HB0.o.lt;have nB:=qh (HF.o.below hb4);have rO:=qh (HB1.o.below hb4 hz1);have Gn:=qh (HB0.o.below hb4 hz0);have ay:=cS.st hb4;have sX:=qh (RP (w.heap.size+1) P v F bs cs (w.heap.size+2) (G.sig n m) ⟨g4,0,none⟩ c4 w4 nB.o rO.o qo (by have:=rO.o.lt;omega) hr4 hn hn2 qo qo);clear h4 eN hr4 hb4
    go_wp2_with fail
    refine sX.o.mono ?_;rintro e w7 ⟨rfl,wN,v7,bs7,cs7,bQ,X4⟩;have bn:=qh bQ;have RH:=qh X4;have dh:=qh (Gn.o.fr wN qo);have Gi:=qh (ay.o.trans (wN.below (B:=w.heap.size) ay.o.size (fun b hb=>by omega)));clear wN bQ X4 sX
    go_wp2_with fail
    go_roundw
    case rel=>exact⟨k+1,_,_,v7,bs7,cs7,by omega,qg,eS,RH,bn,dh,Gi⟩
    case measure=>exact qs
   ·have hxn:x<0:=qo
    have eS:=qh (show G.acts n (0,[]) (W.take (k+1))=G.nor (P-1) (F.map G.PM.flip++[G.neg n m])by rw[bN.o,zi P F hp,hm]);have aik:=qh (show(G.del:G.PM n).mul (G.sig n m)=G.neg n m from rfl);clear bN hm
    go_wp2_with fail
    refine HSZ.o.mono ?_;rintro e w3 ⟨rfl,rfl⟩
    go_wp2_with fail
    refine(GF.o _).mono ?_;rintro e w4 h4;obtain⟨A4,c4,rfl,eN,hr4,hb4⟩:=h4.rd;rw[G.aC];have hz1:=HB1.o.lt;have hz0:=HB0.o.lt;have nB:=qh (HF.o.below hb4);have rO:=qh (HB1.o.below hb4 hz1);have Gn:=qh (HB0.o.below hb4 hz0);have ay:=cS.st hb4;have HR4:=qh hr4;have ae6:=qh (show∀b,Fb A4 (G.pl (G.sig n m)).length b→wr.heap.size≤b from fun b hb=>(qU eN hb).1);have m1:w4.cell? ⟨w.heap.size+1,1,none⟩=some (.int .i64 P):=rO.o.cell 1;have f1:=rO.o.frozen 1;have s1:IntKind.i64.wrap (P-1)=P-1:=IntWalk.i64_in _ qo;clear h4 eN hr4 hb4;have eJ:=qh (nB.o.oC 1 (g:=w.heap.size+1) qo (.int .i64 (P-1)));have xW:=qh (show aB (w4.setCell ⟨w.heap.size+1,1,none⟩ (.int .i64 (P-1))) (w.heap.size+1) 141 #[.int .i64 n,.int .i64 (P-1),v]from rO.o.bJ 1 (.int .i64 (P-1)));have Vq:=qh (Gn.o.far (p:=⟨w.heap.size+1,1,none⟩) qj (.int .i64 (P-1)));have Gj:=qh (ay.o.setCell (p:=⟨w.heap.size+1,1,none⟩) qj (.int .i64 (P-1)));have kV:=qh (o9 (p:=⟨w.heap.size+1,1,none⟩) HR4.o (fun b hb e=>by have h1:=ae6.o b hb;simp at e;omega) (.int .i64 (P-1)))
    go_wp2_with fail
    obtain⟨w5,j7⟩:=qx (w4.setCell ⟨w.heap.size+1,1,none⟩ (.int .i64 (P-1)));rw[←j7]at eJ xW Vq Gj kV ⊢;clear j7 m1 f1 s1 nB rO Gn ay HR4;refine(lq (w.heap.size+1) (P-1) v F bs cs (w.heap.size+2) w5 eJ.o xW.o qo (by have:=xW.o.lt;omega) hn qo qo).mono ?_;rintro e w6 ⟨rfl,nG,v6,sV,DV,hb6,ac8⟩;have Vo:=qh hb6;have aeN:=qh ac8;have hv0:∀b,v.ownBlock=some b→w.heap.size+2≤b∧b<wr.heap.size:=fun b hb=>HF.o.own.lt b hb;have Vp:=qh (Vq.o.fr nG (fun e=>by have:=(hv0 _ e).1;omega));have ae0:=qh (Gj.o.trans (nG.below (B:=w.heap.size) Gj.o.size (fun b hb=>by have:=(hv0 _ hb).1;omega)));have mC:=qh ((aQ _ _ _).fr kV.o nG (fun b hb e=>by
     have h1:=ae6.o b hb;have h2:=(hv0 _ e).2;omega))
    clear nG hb6 ac8 hv0 eJ xW Vq Gj kV
    go_wp2_with fail
    refine(FZ n _ hn qo).mono ?_;rintro e w7 ⟨A7,c7,rfl,tI,bQ,_⟩;have ahB:=Vo.o.lt;have ahC:=Vp.o.lt;have RH:=qh (aeN.o.below bQ);have bn:=qh (Vo.o.below bQ ahB);have dh:=qh (Vp.o.below bQ ahC);have Gi:=ae0.st bQ;have l8:=qh (Rd.below mC.o bQ);have HT7:=qh tI;clear tI bQ aeN Vo Vp ae0 mC
    go_wp2_with fail
    refine(ng G.del (G.sig n m) A7 A4 c7 c4 w7 HT7.o l8.o hn).mono ?_;rintro e w8 h8;obtain⟨A8,c8,rfl,tJ,hr8,qC⟩:=h8.rd;rw[aik.o]at tJ hr8 ⊢;rw[G.aC]at tJ ⊢;obtain⟨g8,c9,he8,hg8,hz8⟩:=BR qo tJ;injection he8 with X6 X5 Mc;clear X5;subst X6 Mc;have ahz:=bn.o.lt;have ahA:=dh.o.lt;have aiD:=qh (RH.o.below qC);have ae3:=qh (bn.o.below qC ahz);have aiO:=qh (dh.o.below qC ahA);have aeZ:=Gi.st qC;have sX:=qh (RP (w.heap.size+1) (P-1) v6 (F.map G.PM.flip) sV DV (w.heap.size+2) (G.neg n m) ⟨g8,0,none⟩ c8 w8 aiD.o ae3.o qo (by have:=ae3.o.lt;omega) hr8 hn hn2 (by rw[List.length_map];omega) qo);clear h8 tJ hr8 qC RH bn dh Gi l8 HT7
    go_wp2_with fail
    refine sX.o.mono ?_;rintro e w9 ⟨rfl,hf9,v9,bs9,cs9,wO,ac7⟩;have aiM:=qh wO;have aiC:=qh ac7;have aiN:=qh (aiO.o.fr hf9 qo);have aiK:=qh (aeZ.o.trans (hf9.below (B:=w.heap.size) aeZ.o.size (fun b hb=>by omega)));clear hf9 wO ac7 sX
    go_wp2_with fail
    go_roundw
    case rel=>exact⟨k+1,_,_,v9,bs9,cs9,by omega,qg,eS,aiC,aiM,aiN,aiK⟩
    case measure=>exact qs
  ·obtain rfl:W.length=k:=qo
   rw[List.take_length]at HX;obtain⟨A1,c1,rfl⟩:=HF.o.own.sl;have m0:wr.cell? ⟨w.heap.size+1,0,none⟩=some (.int .i64 n):=HB1.o.cell 0;have m1:wr.cell? ⟨w.heap.size+1,1,none⟩=some (.int .i64 P):=HB1.o.cell 1;have m2:wr.cell? ⟨w.heap.size+1,2,none⟩=some (.slice A1 F.length c1):=HB1.o.cell 2;have n0:wr.cell? ⟨w.heap.size,0,none⟩=some (.int .i64 0):=HB0.o.cell 0;have n1:wr.cell? ⟨w.heap.size,1,none⟩=some (.int .i64 0):=HB0.o.cell 1;have n2:wr.cell? ⟨w.heap.size,2,none⟩=some (.slice none 0 0):=HB0.o.cell 2;have g0:=HB0.o.frozen 0;have g1:=HB0.o.frozen 1;have g2:=HB0.o.frozen 2
   go_wp2_with fail
   have JG:=((HB0.o.bJ 0 (.int .i64 n)).bJ 1 (.int .i64 P)).bJ 2 (.slice A1 F.length c1);have TT:=qh (((HF.o.oC 0 (g:=w.heap.size) qo (.int .i64 n)).oC 1 (g:=w.heap.size) qo (.int .i64 P)).oC 2 (g:=w.heap.size) qo (.slice A1 F.length c1));have dU:=qh (((cS.o.setCell (p:=⟨w.heap.size,0,none⟩) qj (.int .i64 n)).setCell (p:=⟨w.heap.size,1,none⟩) qj (.int .i64 P)).setCell (p:=⟨w.heap.size,2,none⟩) qj (.slice A1 F.length c1));obtain⟨w9,BZ⟩:∃w9,w9=(((wr.setCell ⟨w.heap.size,0,none⟩ (.int .i64 n)).setCell ⟨w.heap.size,1,none⟩ (.int .i64 P)).setCell ⟨w.heap.size,2,none⟩ (.slice A1 F.length c1)):=⟨_,rfl⟩;rw[←BZ]at JG TT dU ⊢;have k0:=qc JG 0 rfl;have k1:=qc JG 1 rfl;have k2:=qc JG 2 rfl;clear BZ JG m0 m1 m2 n0 n1 n2 g0 g1 g2
   (try simp only[Exit.inBlock,Exit.then])
   refine bodyPost_ret (by simp[results,Tryz.results109,go_sem,k0,k1,k2];try rfl) rfl ?_;rw[HX.o];exact⟨_,bs,cs,rfl,TT.o.base qo,dU.o⟩
end Go.Proofs.YtdnmhhohcedjbaaGreat
namespace Go.Proofs.YtdnmhhohcedjbaaGreat
open Go.RowKit
theorem U3 (A B:OA)(c c':Nat)(L M:List Int)(w:World)(ha:cX w A L)(hb:cX w B M)(hn:L.length≤1048576)(hm:M.length≤1048576):
 Calls Tryz.prog 138 #[.slice A L.length c,.slice B M.length c'] w fun e w'=>e=.returned (.bool (decide (L=M)))∧∃q,w'=w.drewN q:=by
 have HE:=qh (F5 A B c c' L M w ha hb hn hm);clear ha hb
 go_enter Tryz.func138,Tryz.ntmps138
 go_wp2_with fail
 refine HE.o.mono ?_;rintro e w1 ⟨rfl,q,rfl⟩
 go_wp2_with fail
 go_ret
 exact⟨rfl,q,rfl⟩
open Classical in
theorem Ew {n:Nat}(v u:Value)(F E:List (G.PM n))(bs cs bs' cs':Nat→Nat)(B B':Nat)(w:World)(ha:cT B v F bs cs w)(hb:cT B' u E bs' cs' w)(hn:n≤1000)(hl:F.length≤1000000)(hl':E.length≤1000000):
 Calls Tryz.prog 137 #[v,u,.func (.func 138) #[] #[]] w fun e w'=>e=.returned (.bool (decide (F=E)))∧∃q,w'=w.drewN q:=by
 obtain⟨A,c,rfl⟩:=ha.own.sl;obtain⟨A',c',rfl⟩:=hb.own.sl;have HA:=qh ha;have HB:=qh hb;clear ha hb
 by_cases hle:F.length=E.length
 case neg=>
  have HD:=qh (show decide (F=E)=false from decide_eq_false fun e=>hle (by rw[e]));have hlb:((F.length:Int)==(E.length:Int))=false:=by rw[beq_eq_false_iff_ne];omega
  have hlc:¬(F.length:Int)=(E.length:Int):=qo
  go_enter Tryz.func137,Tryz.ntmps137
  go_wp2_with fail
  go_ret
  exact⟨by rw[HD.o];rfl,0,rfl⟩
 obtain⟨N,hN⟩:=qx (F.length);have Yp:E.length=N:=qo;have iQ:=qh hN;have mE:=qh Yp
 simp only[←hN,Yp]at HA HB hl ⊢
 clear hN Yp hle hl'
 go_enter Tryz.func137,Tryz.ntmps137
 go_wp2_with fail
 go_loopw [17] (fun x wr=>∃k q:Nat,k≤N∧x=.int .i64 k∧wr=w.drewN q∧Hq (F.take k=E.take k)) (fun x _=>N-(intOf x).toNat)
 case atStart=>exact⟨0,0,Nat.zero_le _,rfl,rfl,qh qj⟩
 case round=>
  obtain⟨k,q,hk,rfl,rfl,HX⟩:=hrel
  by_cases hlt:k<N
  ·obtain⟨gf,o,cp,he,hgf,_⟩:=HA.o.form (by have:=iQ.o;omega)
   injection he with e1 e2 e3;clear e2;subst e1 e3;obtain⟨ge,o',cp',he',hge,_⟩:=HB.o.form (by have:=mE.o;omega);injection he' with e1 e2 e3;clear e2;subst e1 e3;obtain⟨p,hp⟩:∃p,F[k]?=some p:=⟨_,List.getElem?_eq_getElem (by have:=iQ.o;omega)⟩;obtain⟨r,hr⟩:∃p,E[k]?=some p:=⟨_,List.getElem?_eq_getElem (by have:=mE.o;omega)⟩;have wu:cT B (.slice (some ⟨gf,o,none⟩) F.length c) F bs cs w:=by rw[←iQ.o];exact HA.o
   have hEx:cT B' (.slice (some ⟨ge,o',none⟩) E.length c') E bs' cs' w:=by rw[mE.o];exact HB.o
   have kf:=wu.cell (j:=k) (by have:=iQ.o;omega);have ke:=hEx.cell (j:=k) (by have:=mE.o;omega);have hsl:=U3 (some ⟨bs k,0,none⟩) (some ⟨bs' k,0,none⟩) (cs k) (cs' k) (G.pl p) (G.pl r) (w.drewN q) (Rd.drewN (iD (HA.o.AG k p hp)) q) (Rd.drewN (iD (HB.o.AG k r hr)) q) (by rw[G.aC];omega) (by rw[G.aC];omega);rw[G.aC,G.aC]at hsl;have HSL:=qh hsl;have HT1:=qh (show F.take (k+1)=F.take k++[p]by rw[List.take_add_one,hp];rfl);have HT2:=qh (show E.take (k+1)=E.take k++[r]by rw[List.take_add_one,hr];rfl);have HPF:=qh hp;have HPE:=qh hr;have b1:(0:Int)≤(k:Int):=qo;have b2:(k:Int)<(N:Int):=qo;clear wu hEx hsl hp hr
   go_wp2_with fail
   refine HSL.o.mono ?_;rintro e w4 ⟨rfl,q4,rfl⟩
   by_cases hpr:p=r
   ·have h1:decide (G.pl p=G.pl r)=true:=decide_eq_true (by rw[hpr])
    rw[h1]
    go_wp2_with fail
    go_roundw
    case rel=>exact⟨k+1,q+q4,by omega,qg,rfl,qh (by rw[HT1.o,HT2.o,HX.o,hpr])⟩
    case measure=>exact qs
   ·have h1:decide (G.pl p=G.pl r)=false:=decide_eq_false fun e=>hpr (G.NN e)
    rw[h1];have HD:=qh (show decide (F=E)=false from decide_eq_false fun e=>by
     have h2:=HPF.o;rw[e,HPE.o]at h2;injection h2 with h2;exact hpr h2.symm)
    go_wp2_with fail
    go_ret
    exact⟨by rw[HD.o];rfl,q+q4,rfl⟩
  ·obtain rfl:N=k:=qo
   have HD:=qh (show decide (F=E)=true from decide_eq_true (by
    have h:=HX.o;rwa[List.take_of_length_le (by rw[←iQ.o];omega),List.take_of_length_le (by rw[mE.o];omega)]at h))
   go_wp2_with fail
   go_ret
   exact⟨by rw[HD.o];rfl,q,rfl⟩
open Classical in
theorem QA {n:Nat}(P P':Int)(v u:Value)(F E:List (G.PM n))(bs cs bs' cs':Nat→Nat)(B B':Nat)(w:World)(ha:cT B v F bs cs w)(hb:cT B' u E bs' cs' w)(hn:n≤1000)(hl:F.length≤1000000)(hl':E.length≤1000000):
 Calls Tryz.prog 108 #[.agg #[.int .i64 n,.int .i64 P,v],.agg #[.int .i64 n,.int .i64 P',u]] w fun e w'=>e=.returned (.bool (decide ((P,F)=(P',E))))∧Below w.heap.size w w':=by
 have HW:=qh (((Below.refl w.heap.size w).alloc ql (.cells #[.int .i64 n,.int .i64 P,v] 141)).alloc qj (.cells #[.int .i64 n,.int .i64 P',u] 141));have HE:=qh (Ew v u F E bs cs bs' cs' B B' _ (ha.below HW.o) (hb.below HW.o) hn hl hl');obtain⟨A,c,rfl⟩:=ha.own.sl;obtain⟨A',c',rfl⟩:=hb.own.sl;clear ha hb
 by_cases hp:P=P'
 ·have HD:=qh (show decide ((P,F)=(P',E))=decide (F=E)from decide_eq_decide.2 ⟨fun h=>by injection h,fun h=>by rw[h,hp]⟩)
  subst hp;have hp2:(P==P)=true:=by simp
  go_enter Tryz.func108,Tryz.ntmps108
  go_wp2_with fail
  refine HE.o.mono ?_;rintro e w4 ⟨rfl,q4,rfl⟩
  go_wp2_with fail
  go_ret
  exact⟨by rw[HD.o];rfl,Below.drewN' HW.o q4⟩
 ·have HD:=qh (show decide ((P,F)=(P',E))=false from decide_eq_false fun h=>by injection h with h _;exact hp h)
  have hp2:(P==P')=false:=by simp[hp]
  go_enter Tryz.func108,Tryz.ntmps108
  go_wp2_with fail
  go_ret
  exact⟨by rw[HD.o];rfl,HW.o⟩
theorem PA {n:Nat}{W:List Int}(hl:W.length≤4500):(G.acts n ((0,[]):Int×List (G.PM n)) W).2.length≤1000000:=by
 have:=YH W ((0,[]):Int×List (G.PM n)) 0 qj qj;omega
theorem vH {n:Nat}(V W:List Int)(A B:OA)(c c':Nat)(w:World)(ha:cX w A V)(hb:cX w B W)(hn:n≤1000)(hv:G.Word n V)(hw:G.Word n W)(hlv:V.length≤4500)(wm:W.length≤4500):
 Calls Tryz.prog 77 #[.int .i64 n,.slice A V.length c,.slice B W.length c'] w fun e w'=>e=.returned (.bool (mP n V W))∧Below w.heap.size w w':=by
 have HB:=qh hb;have IZ:=qh (show mP n V W=mP n V W from rfl);have H1:=qh (I2 V A c w ha (LH hv) hn hv hlv);have eS:=qh (fun w' h=>I2 W B c' w' h (LH hw) hn hw wm);have hl1:=PA (n:=n) hlv;have hl2:=PA (n:=n) wm;unfold mP at IZ;obtain⟨s,hs⟩:=qx (G.acts n ((0,[]):Int×List (G.PM n)) V);obtain⟨u,hu⟩:=qx (G.acts n ((0,[]):Int×List (G.PM n)) W);have HD:=qh (show mP n V W=@decide (s=u) (Classical.propDecidable _)from by unfold mP;rw[hs,hu];exact decide_eq_decide.2 Iff.rfl);rw[←hs]at H1 hl1;rw[←hu]at eS hl2;obtain⟨P,F⟩:=s;obtain⟨P',E⟩:=u;clear hs hu ha hb IZ
 go_enter Tryz.func77,Tryz.ntmps77
 go_wp2_with fail
 refine H1.o.mono ?_;rintro e w1 ⟨v1,nX,cs1,rfl,hf1,hb1⟩;have gW:=qh hf1;have HB1:=qh hb1;clear hf1 hb1
 go_wp2_with fail
 refine(eS.o _ (Rd.below HB.o HB1.o)).mono ?_;rintro e w2 ⟨v2,bs2,cs2,rfl,hf2,hb2⟩;have bX:=qh hf2;have aiE:=qh (gW.o.below hb2);have HB2:=HB1.st hb2;clear hf2 hb2
 go_wp2_with fail
 refine(QA P P' v1 v2 F E nX cs1 bs2 cs2 _ _ w2 aiE.o bX.o hn hl1 hl2).mono ?_;rintro e w3 ⟨rfl,hb3⟩;have HB3:=HB2.st hb3;clear hb3
 go_wp2_with fail
 go_ret
 exact⟨by rw[HD.o];show Ending.returned (.bool _)=_;exact congrArg (fun b=>Ending.returned (.bool b)) (decide_eq_decide.2 Iff.rfl),HB3.o⟩
end Go.Proofs.YtdnmhhohcedjbaaGreat
namespace Go.Proofs.YtdnmhhohcedjbaaGreat
open Go.RowKit
theorem aaS (m:Nat)(hm:m≤1000000):∃cs:Array Value,cs.size=m∧∀w:World,(Instr.makeSlice 34 (.int .i64 0) (.int .i64 (m:Int))).run Tryz.prog w=.ok (.slice (some ⟨w.heap.size,0,none⟩) 0 m) (w.alloc (.cells cs 2)):=by
 obtain⟨i0,hi,iz,is,ib⟩:=info_parts info64;refine⟨madeCells (Value.int .i64 0).cells m,size_madeCells _ _,fun w=>?_⟩;have h:=run_makeSlice (P:=Tryz.prog) w 34 2 i0 (.int .i64 0) Tryz.underlying34 hi iz .i64 .i64 0 m qo qo (by rw[is];simp;omega) (by rw[ib];omega) qo;rw[is]at h
 simpa using h
theorem KH (L:List Int)(A:OA)(c:Nat)(w:World)(ha:cX w A L)(hn:L.length≤100000)(hs:FD L):Calls Tryz.prog 76 #[.slice A L.length c] w (lO w (G.red L)):=by
 obtain⟨i0,hi,iz,is,ib⟩:=info_parts info64;obtain⟨cs,hcs,hmk⟩:=aaS L.length qo;have HO:=qh (World.ownsRow_made (e:=2) (size:=1) w cs L.length ql qm qo);have HB:=qh ((Below.refl w.heap.size w).alloc ql (.cells cs 2));have HA:=qh ha;have HS:=qh hs;have bN:=qh (show∀k,k<L.length→G.red (L.take (k+1))=G.jB (G.red (L.take k)) (L.getD k 0)from fun k hk=>by
  show List.foldl G.jB [] (L.take (k+1))=G.jB (List.foldl G.jB [] (L.take k)) _;rw[List.take_succ_eq_append_getElem hk,List.foldl_append]
  simp only[List.foldl_cons,List.foldl_nil,List.getD,List.getElem?_eq_getElem hk,Option.getD_some])
 have J8:=qh (show∀k,(G.red (L.take k)).length≤k from fun k=>by
  have:=G.sM (L.take k);rw[List.length_take]at this;omega)
 have HSR:=qh (show∀k,FD (G.red (L.take k))from fun k x hx=>hs x (List.mem_of_mem_take (G.QG hx)));clear ha hs
 go_enter Tryz.func76,Tryz.ntmps76
 go_wp2_with fail
 clear hmk
 go_loopw [3,11] (fun v x wr=>∃k:Nat,k≤L.length∧x=.int .i64 k∧Hq (wr.ownsRow w.heap.size 2 1 v (G.red (L.take k)).length (ints (G.red (L.take k))))∧Hq (Below w.heap.size w wr)) (fun _ x _=>L.length-(intOf x).toNat)
 case atStart=>exact⟨0,Nat.zero_le _,rfl,HO,HB⟩
 case round=>
  obtain⟨k,hk,rfl,aH,HB2⟩:=hrel
  by_cases hlt:k<L.length
  ·obtain⟨ga,o,rfl,hg,hr⟩:=HA.o qo
   have hc:=aD HB2.o hg (hr k hlt);have hz:=HS.o.get k;have HX:=qh (bN.o k hlt);have hle:=J8.o k;have Oz:=qh (HSR.o k);obtain⟨y,hy⟩:=qx (L.getD k 0);obtain⟨R,hR⟩:=qx (G.red (L.take k))
   simp only[←hy,←hR]at hc hz HX aH hle Oz
   have b1:(0:Int)≤(k:Int):=qo;have b2:(k:Int)<(L.length:Int):=qo;clear hr hy hR
   by_cases h0:R.length=0
   ·obtain rfl:R=[]:=List.length_eq_zero_iff.1 h0
    have eI:=qh (show G.red (L.take (k+1))=[y]by rw[HX.o];rfl);obtain⟨A3,c3,rfl,_⟩:=aF aH.o;rw[List.length_nil]at aH ⊢
    go_wp2_with (at_builtin;go_must (refine bV wr rfl (.tmp 34) (.tmp 36) _ rfl w.heap.size 2 i0 _ 1 8 Tryz.underlying34 hi iz is ib rfl qo (.slice A3 0 c3) _ _ rfl aH.o _ 1 1 _ rfl rfl (by simp[Value.oneCell']) qm qo HB2.o.size ?_);intro v' w' hown' hb';have bS:=qh hown';have HB3:=qh (HB2.o.trans hb');clear hown' hb')
    go_roundw
    case rel=>exact⟨k+1,by omega,qg,qh (by rw[eI.o];exact bS.o),HB3⟩
    case measure=>exact qs
   obtain⟨g1,c1,rfl⟩:∃g1 c1,u3=.slice (some ⟨g1,0,none⟩) R.length c1:=by
    rcases aH.o.2 with⟨_,h⟩|⟨g1,cap,_,e,_⟩
    ·omega
    ·exact⟨g1,cap,e⟩
   obtain⟨r,hr⟩:∃r,R.length=r+1:=⟨R.length-1,by omega⟩;have hl:=aH.o.cellAt r qo;have hlz:=Oz.o.get r;rw[show(ints R)[r]?=some (.int .i64 (R.getD r 0))by simp[ints,List.getD,show r<R.length by omega]]at hl;have yG:=qh (show R.getLast?.getD 0=R.getD r 0 by rw[List.getLast?_eq_getElem?,hr];rfl);obtain⟨z,hzz⟩:=qx (R.getD r 0);rw[←hzz]at hl hlz yG;have mE:=qh (show R≠[]from fun e=>h0 (by rw[e];rfl));have Pd:=qh hr;have b3:(0:Int)≤(r:Int):=qo;have b4:(r:Int)<((r+1:Nat):Int):=qo;have e1:((r+1:Nat):Int)-1=(r:Int):=qo;have e2:(0:Int)<((r+1:Nat):Int):=qo;have hcap:r≤c1:=by
    rcases aH.o.2 with⟨h,_⟩|⟨_,_,_,e,_,_,h,_⟩
    ·cases h
    ·injection e with _ _ e
     omega
   have hd0:decide ((0:Int)<((r+1:Nat):Int))=true:=decide_eq_true e2;rw[hr]at aH hle ⊢;clear hzz hr h0
   by_cases hzy:z= -y
   ·have eI:=qh (show G.red (L.take (k+1))=R.dropLast by
     rw[HX.o];unfold G.jB;rw[if_pos ⟨mE.o,yG.o.trans hzy⟩])
    have cI:=qh (VX aH.o (Nat.le_succ r));have hzb:(z== -y)=true:=by simp[hzy]
    go_wp2_with fail
    go_roundw
    case rel=>exact⟨k+1,by omega,qg,qh (by
     rw[eI.o,List.length_dropLast,←FX,Pd.o,Nat.add_sub_cancel];exact cI.o),HB2⟩
    case measure=>exact qs
   ·have eI:=qh (show G.red (L.take (k+1))=R++[y]by
     rw[HX.o];unfold G.jB;rw[if_neg fun h=>hzy (yG.o.symm.trans h.2)])
    have hzb:(z== -y)=false:=by simpa using hzy
    go_wp2_with (at_builtin;go_must (refine bV wr rfl (.tmp 34) (.tmp 36) _ rfl w.heap.size 2 i0 _ 1 8 Tryz.underlying34 hi iz is ib rfl qo (.slice (some ⟨g1,0,none⟩) (r+1) c1) _ _ rfl aH.o _ 1 1 _ rfl rfl (by simp[Value.oneCell']) qm qo HB2.o.size ?_);intro v' w' hown' hb';have bS:=qh hown';have HB3:=qh (HB2.o.trans hb');clear hown' hb')
    go_roundw
    case rel=>exact⟨k+1,by omega,qg,qh (by rw[eI.o,aT,List.length_append,Pd.o];exact bS.o),HB3⟩
    case measure=>exact qs
  ·obtain rfl:L.length=k:=qo
   go_wp2
   go_ret
   refine⟨_,rfl,?_,HB2.o⟩;have h:=aH.o;rwa[List.take_length]at h
end Go.Proofs.YtdnmhhohcedjbaaGreat
