/- Walks and plain lemmas. -/
import Derived.Test.YtmnbgjnipbpiaaaGreatP29
set_option linter.unusedVariables false
set_option linter.unusedSimpArgs false
set_option maxHeartbeats 8000000
set_option maxRecDepth 20000
namespace Go.Proofs.YtmnbgjnipbpiaaaGreat
open Go.RowKit
theorem bG {α:Type}{L:List α}{k:Nat}{x:α}(h:L[k]?=some x):L.take (k+1)=L.take k++[x]:=by rw[List.take_add_one,h];rfl
theorem iF {α:Type}{L M:List α}{k:Nat}{x y:α}(h:L[k]?=some x)(h':M[k]?=some y)(hn:x≠y):L≠M:=fun e=>by
 rw[e,h']at h;injection h with h;exact hn h.symm
theorem gG {α:Type}{L M:List α}{n:Nat}(h:L.take n=M.take n)(hl:L.length=n)(hm:M.length=n):L=M:=by
 rwa[List.take_of_length_le qo,List.take_of_length_le qo]at h
theorem dD {α:Type}{L:List α}{k:Nat}(h:k<L.length):∃x,L[k]?=some x:=⟨_,List.getElem?_eq_getElem h⟩
theorem nO {q q':Bool}(f f':aP)(A A':OA)(c c':Nat)(w:World)(ha:aX q w A f.2.2)(hb:aX q' w A' f'.2.2)(k1:i5 f)(k2:i5 f'):
 Calls Tryz.prog 35 #[.agg #[.int .i64 f.1,.int .i64 f.2.1,.slice A f.2.2.length c],.agg #[.int .i64 f'.1,.int .i64 f'.2.1,.slice A' f'.2.2.length c']] w fun e w'=>e=.returned (.bool (decide (f=f')))∧Below w.heap.size w w':=by
 obtain⟨s,p,L⟩:=f;obtain⟨s',p',M⟩:=f';have HW:=qh (((Below.refl w.heap.size w).alloc ql (.cells #[.int .i64 s,.int .i64 p,.slice A L.length c] 72)).alloc qj (.cells #[.int .i64 s',.int .i64 p',.slice A' M.length c'] 72));have HA:=qh (ha.below HW.o);have HB:=qh (hb.below HW.o);have K1:=qh k1;have K2:=qh k2;have hl1:=k1.n;have hl2:=k2.n
 simp only at hl1 hl2
 obtain⟨V,hV⟩:=qx (decide ((s,p,L)=(s',p',M)));rw[←hV];have HV:=qh hV;clear ha hb k1 k2 hV
 by_cases hs:s=s'
 case neg=>
  have HD:=qh (show decide ((s,p,L)=(s',p',M))=false from decide_eq_false fun h=>by injection h with h _;exact hs h);have hsb:(s==s')=false:=by simp[hs]
  go_enter Tryz.func35,Tryz.ntmps35
  go_wp2_with fail
  go_ret
  exact⟨by rw[HV.o,HD.o];rfl,HW.o⟩
 subst hs
 by_cases hp:p=p'
 case neg=>
  have HD:=qh (show decide ((s,p,L)=(s,p',M))=false from decide_eq_false fun h=>by injection h with _ h;injection h with h _;exact hp h);have hsb:(p==p')=false:=by simp[hp]
  go_enter Tryz.func35,Tryz.ntmps35
  go_wp2_with fail
  go_ret
  exact⟨by rw[HV.o,HD.o];rfl,HW.o⟩
 subst hp
 by_cases hl:L.length=M.length
 case neg=>
  have HD:=qh (show decide ((s,p,L)=(s,p,M))=false from decide_eq_false fun h=>by injection h with _ h;injection h with _ h;exact hl (by rw[h]));have hlb:((L.length:Int)==(M.length:Int))=false:=by rw[beq_eq_false_iff_ne];omega
  have hlc:¬(L.length:Int)=(M.length:Int):=qo
  go_enter Tryz.func35,Tryz.ntmps35
  go_wp2_with fail
  go_ret
  exact⟨by rw[HV.o,HD.o];rfl,HW.o⟩
 have HD:=qh (show decide ((s,p,L)=(s,p,M))=decide (L=M)from decide_eq_decide.2 ⟨fun h=>by injection h with _ h;injection h with _ h,fun h=>by rw[h]⟩);obtain⟨N,hN⟩:=qx (L.length);have fN:=qh hN;have dL:=qh (show M.length=N by omega);rw[←hN]at hl hl1 HW;rw[←hl]at hl2 HW;rw[←hN,←hl];clear hl2;obtain⟨w0,hw0⟩:∃w0,w0=((w.alloc (.cells #[.int .i64 s,.int .i64 p,.slice A N c] 72)).alloc (.cells #[.int .i64 s,.int .i64 p,.slice A' N c'] 72)):=⟨_,rfl⟩;rw[←hN,←hl,←hw0]at HA HB;rw[←hw0]at HW;have b0:aA w0 w.heap.size 72 #[.int .i64 s,.int .i64 p,.slice A N c]:=by rw[hw0];exact(aA.at_ w _ _ rfl).alloc _
 have b1:aA w0 (w.heap.size+1) 72 #[.int .i64 s,.int .i64 p,.slice A' N c']:=by rw[hw0];exact aA.at_ _ _ _ qj
 have t0:w0.cell? ⟨w.heap.size,2,none⟩=some (.slice A N c):=b0.cell 2;have t1:w0.cell? ⟨w.heap.size+1,2,none⟩=some (.slice A' N c'):=b1.cell 2;clear hN hl b0 b1
 go_enter Tryz.func35,Tryz.ntmps35
 go_wp2_with fail
 rw[←hw0];clear hw0
 go_loopw [5] (fun x wr=>∃k:Nat,k≤N∧x=.int .i64 k∧Hq (Below w.heap.size w wr)∧Hq (aX q wr A L)∧Hq (aX q' wr A' M)∧wr.cell? ⟨w.heap.size,2,none⟩=some (.slice A N c)∧wr.cell? ⟨w.heap.size+1,2,none⟩=some (.slice A' N c')∧Hq (L.take k=M.take k)) (fun x _=>N-(intOf x).toNat)
 case atStart=>exact⟨0,Nat.zero_le _,rfl,HW,HA,HB,t0,t1,qh qj⟩
 case round=>
  clear HA HB t0 t1 HW;obtain⟨k,hk,rfl,HW,HA,HB,t0,t1,HX⟩:=hrel
  by_cases hlt:k<N
  ·obtain⟨x,hx⟩:=dD (L:=L) (k:=k) (by have:=fN.o;omega)
   obtain⟨y,hy⟩:=dD (L:=M) (k:=k) (by have:=dL.o;omega);obtain⟨g,o,B,d,rfl,hg,h0,hr,_⟩:=HA.o.at hx;obtain⟨g',o',B',d',rfl,hg',h0',hr',_⟩:=HB.o.at hy;have hxl:=K1.out.l x (List.mem_of_getElem? hx);have hyl:=K2.out.l y (List.mem_of_getElem? hy);have HT:=qh (show L.take (k+1)=L.take k++[x]from bG hx);have mB:=qh (show M.take (k+1)=M.take k++[y]from bG hy);have fC:=qh (fun Q=>n5 B B' d d' x y (wr.drewN Q) (Rd.drewN hr Q) (Rd.drewN hr' Q) hxl hyl);have eD:=qh (fun h:x≠y=>iF hx hy h);have b1:(0:Int)≤(k:Int):=qo;have b2:(k:Int)<(N:Int):=qo;clear hx hy hr hr' hxl hyl
   by_cases hxy:x=y
   ·rw[decide_eq_true hxy]at fC
    subst hxy
    go_wp2_with fail
    go_quiet ((go_at_call 62;exact Calls.quiet_of (fC.o _)))
    go_wp2_with fail
    go_roundw
    case rel=>exact⟨k+1,by omega,qg,qh (Below.drewN' HW.o nq),qh (HA.o.drewN nq),qh (HB.o.drewN nq),t0,t1,qh (by rw[HT.o,mB.o,HX.o])⟩
    case measure=>exact qs
   ·rw[decide_eq_false hxy]at fC
    have j5:=qh (HD.o.trans (decide_eq_false (eD.o hxy)))
    go_wp2_with fail
    go_quiet ((go_at_call 62;exact Calls.quiet_of (fC.o _)))
    go_wp2_with fail
    go_ret
    exact⟨by rw[HV.o,j5.o];rfl,Below.drewN' HW.o nq⟩
  ·obtain rfl:N=k:=qo
   have j5:=qh (HD.o.trans (decide_eq_true (gG HX.o fN.o.symm dL.o)))
   go_wp2_with fail
   go_ret
   exact⟨by rw[HV.o,j5.o];rfl,HW.o⟩
abbrev rB:=aP×Option Addr×Nat
abbrev CF:=List Int×Option Addr×Nat×Nat
def cF:List rB→List Value
 |[]=>[]
 |x::G=>.int .i64 x.1.1::.int .i64 x.1.2.1::.slice x.2.1 x.1.2.2.length x.2.2::cF G
def cS (K:List CF):List Value:=K.map fun x=>.slice x.2.1 x.2.2.1 x.2.2.2
theorem IH (G H:List rB):cF (G++H)=cF G++cF H:=by
 induction G with
 |nil=>rfl
 |cons x G ih=>simp[cF,ih]
theorem KC {G:List rB}{j:Nat}{x:rB}(h:G[j]?=some x):(cF G)[j*3]?=some (.int .i64 x.1.1)∧(cF G)[j*3+1]?=some (.int .i64 x.1.2.1)∧(cF G)[j*3+2]?=some (.slice x.2.1 x.1.2.2.length x.2.2):=by
 induction G generalizing j with
 |nil=>simp at h
 |cons y G ih=>
  rcases j with _|j
  ·simp at h
   subst h;exact⟨rfl,rfl,rfl⟩
  ·have h':G[j]?=some x:=by simpa using h
   obtain⟨a,b,c⟩:=ih h';have e0:(j+1)*3=(j*3+1+1)+1:=qo;rw[e0];exact⟨by simpa [cF]using a,by simpa [cF]using b,by simpa [cF]using c⟩
def m7 (Z:Nat→Prop)(v1 v2:Value)(b:Nat):Prop:=Z b∨v1.ownBlock=some b∨v2.ownBlock=some b
structure PrM (q:Bool)(Z:Nat→Prop)(B:Nat)(v1 v2:Value)(G:List rB)(K:List CF)(w:World):Prop where
 o1:w.ownsRow B 72 3 v1 G.length (cF G)
 o2:w.ownsRow B 31 1 v2 K.length (cS K)
 ne:∀b,v1.ownBlock=some b→¬v2.ownBlock=some b
 z:∀b,Z b→b<B
 p1:∀x∈G,d4 (fun u=>aX q u x.2.1 x.1.2.2) (m7 Z v1 v2) w
 p2:∀x∈K,x.1.length=x.2.2.1*6∧d4 (fun u=>Rd u x.2.1 (x.2.2.1*6) (fun i=>.int .i64 (x.1.getD i 0))) (m7 Z v1 v2) w
section
variable {q:Bool}{Z:Nat→Prop}{B:Nat}{v1 v2:Value}{G:List rB}{K:List CF}{w w':World}
theorem PrM.fr {X:Nat→Prop}(h:PrM q Z B v1 v2 G K w)(hf:Fr w w' X)(hX:∀b,b<w.heap.size→X b→Z b):PrM q Z B v1 v2 G K w':=by
 have hf':Fr w w' (m7 Z v1 v2):=⟨hf.os,hf.tape,hf.output,hf.size,fun b hb hn=>hf.block b hb fun hx=>hn (.inl (hX b hb hx))⟩;exact⟨xO h.o1 fun b hb hl=>hf.block b hl fun hx=>by have:=h.z b (hX b hl hx);omega,xO h.o2 fun b hb hl=>hf.block b hl fun hx=>by have:=h.z b (hX b hl hx);omega,h.ne,h.z,
  fun x hx=>(h.p1 x hx).step hf' fun b hb=>.inl hb,fun x hx=>⟨(h.p2 x hx).1,(h.p2 x hx).2.step hf' fun b hb=>.inl hb⟩⟩
theorem PrM.below (h:PrM q Z B v1 v2 G K w)(hb:Below w.heap.size w w'):PrM q Z B v1 v2 G K w':=h.fr (Fr.of_below hb (fun _=>False)) fun _ _ h=>h.elim
theorem PrM.set {p:Addr}(h:PrM q Z B v1 v2 G K w)(hp:Z p.block)(u:Value):PrM q Z B v1 v2 G K (w.setCell p u):=h.fr ((Fr.refl w Z).set hp u) fun _ _ h=>h
theorem PrM.drewN (h:PrM q Z B v1 v2 G K w)(n:Nat):PrM q Z B v1 v2 G K (w.drewN n):=⟨h.o1,h.o2,h.ne,h.z,h.p1,h.p2⟩
theorem PrM.nil (Z:Nat→Prop)(B:Nat)(hz:∀b,Z b→b<B)(w:World):PrM q Z B (.slice none 0 0) (.slice none 0 0) [] [] w:=
 ⟨World.ownsRow_nil _ _ _ _,World.ownsRow_nil _ _ _ _,fun _ h=>(by cases h),hz,fun _ h=>(by cases h),fun _ h=>(by cases h)⟩
theorem PrM.IQ {sG:Value}{f:aP}{A:Option Addr}{c N:Nat}(h:PrM q Z B v1 v2 G K w)(hn:d4 (fun u=>aX q u A f.2.2) (m7 Z v1 v2) w)(hown:w'.ownsRow B 72 3 sG (G.length+1) (cF G++[.int .i64 f.1,.int .i64 f.2.1,.slice A f.2.2.length c]))(hf:Fr w w' (fun b=>v1.ownBlock=some b))(hat:sG.ownBlock=v1.ownBlock∨sG.ownBlock=some N)(hN:w.heap.size≤N):
 PrM q Z B sG v2 (G++[(f,A,c)]) K w':=by
 have hf':Fr w w' (m7 Z v1 v2):=hf.mono fun b hb=>.inr (.inl hb);have hx:∀b,m7 Z sG v2 b→m7 Z v1 v2 b∨w.heap.size≤b:=fun b hb=>by
  rcases hb with hb|hb|hb
  ·exact .inl (.inl hb)
  ·rcases hat with e|e
   ·exact .inl (.inr (.inl (e▸hb)))
   ·rw[e]at hb
    injection hb with hb;exact .inr qo
  ·exact .inl (.inr (.inr hb))
 refine⟨by rw[List.length_append,List.length_singleton,IH];exact hown,b9 h.o2 fun b hb=>hf.block b (h.o2.lt b hb).2 fun h1=>h.ne b h1 hb,fun b hb hb2=>?_,h.z,fun x hx'=>?_,fun x hx'=>⟨(h.p2 x hx').1,(h.p2 x hx').2.step hf' hx⟩⟩
 ·rcases hat with e|e
  ·exact h.ne b (e▸hb) hb2
  ·rw[e]at hb
   injection hb with hb;have:=(h.o2.lt b hb2).2;omega
 ·rcases List.mem_append.1 hx' with h1|h1
  ·exact(h.p1 x h1).step hf' hx
  ·rw[List.mem_singleton.1 h1]
   exact hn.step hf' hx
theorem PrM.IP {sF:Value}{S:List Int}{A:Option Addr}{m c N:Nat}(h:PrM q Z B v1 v2 G K w)(hl:S.length=m*6)(hn:d4 (fun u=>Rd u A (m*6) (fun i=>.int .i64 (S.getD i 0))) (m7 Z v1 v2) w)(hown:w'.ownsRow B 31 1 sF (K.length+1) (cS K++[.slice A m c]))(hf:Fr w w' (fun b=>v2.ownBlock=some b))(hat:sF.ownBlock=v2.ownBlock∨sF.ownBlock=some N)(hN:w.heap.size≤N):
 PrM q Z B v1 sF G (K++[(S,A,m,c)]) w':=by
 have hf':Fr w w' (m7 Z v1 v2):=hf.mono fun b hb=>.inr (.inr hb);have hx:∀b,m7 Z v1 sF b→m7 Z v1 v2 b∨w.heap.size≤b:=fun b hb=>by
  rcases hb with hb|hb|hb
  ·exact .inl (.inl hb)
  ·exact .inl (.inr (.inl hb))
  ·rcases hat with e|e
   ·exact .inl (.inr (.inr (e▸hb)))
   ·rw[e]at hb
    injection hb with hb;exact .inr qo
 refine⟨b9 h.o1 fun b hb=>hf.block b (h.o1.lt b hb).2 fun h1=>h.ne b hb h1,by rw[List.length_append,List.length_singleton];simpa [cS]using hown,fun b hb hb2=>?_,h.z,fun x hx'=>(h.p1 x hx').step hf' hx,fun x hx'=>?_⟩
 ·rcases hat with e|e
  ·exact h.ne b hb (e▸hb2)
  ·rw[e]at hb2
   injection hb2 with hb2;have:=(h.o1.lt b hb).2;omega
 ·rcases List.mem_append.1 hx' with h1|h1
  ·exact⟨(h.p2 x h1).1,(h.p2 x h1).2.step hf' hx⟩
  ·rw[List.mem_singleton.1 h1]
   exact⟨hl,hn.step hf' hx⟩
theorem PrM.forms {A:Option Addr}{n c:Nat}(h:PrM q Z B (.slice A n c) v2 G K w):eR q w A (G.map (·.1)):=fun h0=>by
 rw[List.length_map]at h0
 rcases h.o1.2 with⟨_,h1⟩|⟨g,cap,_,e,hB,hc,_⟩
 ·omega
 ·injection e with e1 e2 e3
  subst e1 e2 e3;refine⟨g,0,rfl,(Array.getElem?_eq_some_iff.1 hc).1,fun j f hj=>?_⟩;rw[List.getElem?_map,Option.map_eq_some_iff]at hj;obtain⟨x,hx,rfl⟩:=hj;have hlt:j<G.length:=(List.getElem?_eq_some_iff.1 hx).1;obtain⟨a0,a1,a2⟩:=KC hx;rw[Nat.zero_add];exact⟨x.2.1,x.2.2,(h.o1.cellAt (j*3) qo).trans a0,(h.o1.cellAt (j*3+1) qo).trans a1,(h.o1.cellAt (j*3+2) qo).trans a2,(h.p1 x (List.mem_of_getElem? hx)).now⟩
theorem PrM.AU {A:Option Addr}{n c:Nat}(h:PrM q Z B v1 (.slice A n c) G K w):eZ w A (K.map (·.1)):=fun h0=>by
 rw[List.length_map]at h0
 rcases h.o2.2 with⟨_,h1⟩|⟨g,cap,_,e,hB,hc,_⟩
 ·omega
 ·injection e with e1 e2 e3
  subst e1 e2 e3;refine⟨g,0,rfl,(Array.getElem?_eq_some_iff.1 hc).1,fun j f hj=>?_⟩;rw[List.getElem?_map,Option.map_eq_some_iff]at hj;obtain⟨x,hx,rfl⟩:=hj;have hlt:j<K.length:=(List.getElem?_eq_some_iff.1 hx).1;obtain⟨h1,h2⟩:=h.p2 x (List.mem_of_getElem? hx);refine⟨x.2.1,x.2.2.1,x.2.2.2,(h.o2.cellAt (0+j) qo).trans ?_,h1,h2.now⟩;rw[Nat.zero_add,cS,List.getElem?_map,hx]
  rfl
end
end Go.Proofs.YtmnbgjnipbpiaaaGreat
namespace Go.Proofs.YtmnbgjnipbpiaaaGreat
open Go.RowKit
theorem j9 {n lo hi:Int}{b:Bool}(h:aC n lo hi=b)(w:World):Calls Tryz.prog 71 #[.int .i64 n,.int .i64 lo,.int .i64 hi] w fun e w'=>e=.returned (.bool b)∧w=w':=h▸bA n lo hi w
theorem pN {n lo hi:Int}(h:lo≤n∧n≤hi):aC n lo hi=true:=by simp[aC,h.1,h.2]
theorem pO {n lo hi:Int}(h:¬(lo≤n∧n≤hi)):aC n lo hi=false:=by
 rw[←Bool.not_eq_true];intro h2;exact h (by simpa [aC]using h2)
def zZ (g:Nat)(L:List Int)(k:Nat)(w:World):Prop:=g<w.heap.size∧∀i,i<12→w.cell? ⟨g,i,none⟩=some (.bool (decide ((i:Int)∈L.take k)))∧w.frozen? ⟨g,i,none⟩=false
theorem DI {L:List Int}{k:Nat}(hk:k<L.length)(x:Int):x∈L.take (k+1)↔x∈L.take k∨x=L.getD k 0:=i6 hk x
theorem FX {L:List Int}{k:Nat}(hk:k≤L.length){x:Int}(h:x∈L.take k):∃j,j<k∧L.getD j 0=x:=by
 obtain⟨j,hj⟩:=List.getElem?_of_mem h;have hjl:=(List.getElem?_eq_some_iff.1 hj).1;rw[List.length_take]at hjl;refine⟨j,by omega,?_⟩;rw[List.getElem?_take,if_pos qo]at hj
 simp[List.getD,hj]
theorem FW {L:List Int}{k j:Nat}(hk:k≤L.length)(hj:j<k):L.getD j 0∈L.take k:=by
 refine List.mem_of_getElem? (i:=j) ?_;rw[List.getElem?_take,if_pos hj]
 simp[List.getD,show j<L.length by omega]
open Classical in
theorem tD (A:OA)(c:Nat)(L:List Int)(w:World)(ha:aG w A L)(hn:L.length≤1048576):
 Calls Tryz.prog 72 #[.slice A L.length c] w fun e w'=>e=.returned (.bool (decide (eH L)))∧Below w.heap.size w w':=by
 have HA:=qh ha;clear ha
 by_cases h12:L.length≤12
 case neg=>
  have HD:=qh (show decide (eH L)=false from decide_eq_false fun h=>h12 h.1);have h13:(12:Int)<(L.length:Int):=qo
  go_enter Tryz.func72,Tryz.ntmps72
  go_wp2_with fail
  go_ret
  exact⟨by rw[HD.o];rfl,Below.refl _ _⟩
 have h13:¬(12:Int)<(L.length:Int):=qo
 go_enter Tryz.func72,Tryz.ntmps72
 go_wp2_with fail
 obtain⟨w0,hw0⟩:=qx (w.alloc (.cells #[.bool false,.bool false,.bool false,.bool false,.bool false,.bool false,.bool false,.bool false,.bool false,.bool false,.bool false,.bool false] 112));have LW:=qh (show zZ w.heap.size L 0 w0 from by
  subst hw0;refine⟨by simp,fun i hi=>?_⟩;have hb:=aA.at_ w 112 #[.bool false,.bool false,.bool false,.bool false,.bool false,.bool false,.bool false,.bool false,.bool false,.bool false,.bool false,.bool false] rfl;refine⟨(hb.cell i).trans ?_,hb.frozen i⟩;rw[List.take_zero]
  rcases(show i=0∨i=1∨i=2∨i=3∨i=4∨i=5∨i=6∨i=7∨i=8∨i=9∨i=10∨i=11 by omega)with h|h|h|h|h|h|h|h|h|h|h|h<;>subst h<;>simp)
 have HB0:=qh (show Below w.heap.size w w0 from by rw[hw0];exact qb);rw[←hw0];clear hw0
 go_loopw [5,11] (fun _ x wr=>∃k:Nat,k≤L.length∧x=.int .i64 k∧Hq (zZ w.heap.size L k wr)∧Hq (Below w.heap.size w wr)∧Hq (G.gS L k)) (fun _ x _=>L.length-(intOf x).toNat)
 case atStart=>exact⟨0,Nat.zero_le _,rfl,LW,HB0,qh (fun i hi=>absurd hi (Nat.not_lt_zero i))⟩
 case round=>
  clear LW HB0;obtain⟨k,hk,rfl,HS,HB,HX⟩:=hrel
  by_cases hlt:k<L.length
  ·obtain⟨ga,o,rfl,hg,hr⟩:=HA.o qo
   have hck:=a7 HB.o hg (hr k hlt);have HY:=qh (show L.getD k 0=L.getD k 0 from rfl);have dL:=qh (fun x=>DI hlt x);obtain⟨y,hy⟩:=qx (L.getD k 0)
   simp only[←hy]at hck dL
   have qV:=qh hy;have b1:(0:Int)≤(k:Int):=qo;have b2:(k:Int)<(L.length:Int):=qo;clear hr hy HY
   by_cases hin:0≤y∧y≤(L.length:Int)-1
   case neg=>
    have dM:=qh (fun W=>j9 (n:=y) (lo:=0) (hi:=(L.length:Int)-1) (b:=false) (pO hin) W);have HD:=qh (show decide (eH L)=false from decide_eq_false fun h=>by
     have:=(h.2 k hlt).1;rw[←qV.o]at this;omega)
    clear hin
    go_wp2_with fail
    refine(dM.o _).mono ?_;rintro e w1 ⟨rfl,rfl⟩
    go_wp2_with fail
    go_ret
    exact⟨by rw[HD.o];rfl,HB.o⟩
   have dM:=qh (fun W=>j9 (n:=y) (lo:=0) (hi:=(L.length:Int)-1) (b:=true) (pN hin) W);obtain⟨Y,rfl⟩:∃Y:Nat,y=Y:=⟨y.toNat,(Int.toNat_of_nonneg hin.1).symm⟩;have hY:Y<12:=qo;obtain⟨hsc,hsf⟩:=HS.o.2 Y hY;have b3:(0:Int)≤(Y:Int):=qo;have b4:(Y:Int)<12:=qo;have hYL:Y<L.length:=qo;clear hin
   by_cases hm:(Y:Int)∈L.take k
   ·rw[decide_eq_true hm]at hsc
    have HD:=qh (show decide (eH L)=false from decide_eq_false fun h=>by
     obtain⟨j,hj,e⟩:=FX hk hm;exact(h.2 k hlt).2 j hj (e.trans qV.o))
    clear hm
    go_wp2_with fail
    refine(dM.o _).mono ?_;rintro e w1 ⟨rfl,rfl⟩
    go_wp2_with fail
    go_ret
    exact⟨by rw[HD.o];rfl,HB.o⟩
   ·rw[decide_eq_false hm]at hsc
    have dE:=qh (HX.o.next (by rw[←qV.o];omega) (fun j hj e=>hm (by rw[qV.o,←e];exact FW hk hj)));have HS2:=qh (show zZ w.heap.size L (k+1) (wr.setCell ⟨w.heap.size,Y,none⟩ (.bool true))from by
     refine⟨by simp;exact HS.o.1,fun i hi=>?_⟩;obtain⟨h1,h2⟩:=HS.o.2 i hi;refine⟨?_,by simpa using h2⟩
     by_cases e:i=Y
     ·subst e
      rw[World.cell?_setCell_same _ _ _ hsc];rw[decide_eq_true ((dL.o _).2 (.inr rfl))]
     ·rw[World.cell?_setCell_other _ _ _ _ (by intro e2;injection e2;omega),h1]
      congr 2
      exact decide_eq_decide.2 ⟨fun h=>(dL.o _).2 (.inl h),fun h=>((dL.o _).1 h).resolve_right qo⟩)
    have HB2:=qh (HB.o.setCell (p:=⟨w.heap.size,Y,none⟩) ql (.bool true));clear hm
    go_wp2_with fail
    refine(dM.o _).mono ?_;rintro e w1 ⟨rfl,rfl⟩
    go_wp2_with fail
    go_roundw
    case rel=>exact⟨k+1,by omega,qg,HS2,HB2,dE⟩
    case measure=>exact qs
  ·obtain rfl:L.length=k:=qo
   have HD:=qh (show decide (eH L)=true from decide_eq_true ⟨h12,HX.o⟩)
   go_wp2_with fail
   go_ret
   exact⟨by rw[HD.o];rfl,HB.o⟩
end Go.Proofs.YtmnbgjnipbpiaaaGreat
namespace Go.Proofs.YtmnbgjnipbpiaaaGreat
open Go.RowKit
theorem o4 {n:Int}{b:Bool}(h:aC n 0 12=b)(w:World):Calls Tryz.prog 70 #[.int .i64 n] w fun e w'=>e=.returned (.bool b)∧w=w':=h▸rV n w
open Classical in
theorem nQ {q:Bool}(f:aP)(A:OA)(c:Nat)(w:World)(ha:aX q w A f.2.2)(hb:i5 f):
 Calls Tryz.prog 40 #[.agg #[.int .i64 f.1,.int .i64 f.2.1,.slice A f.2.2.length c]] w fun e w'=>e=.returned (.bool (decide (bF f)))∧Below w.heap.size w w':=by
 obtain⟨s,p,Ls⟩:=f;have cV:=qh hb;have hbn:=hb.n
 simp only at hbn
 have HW0:=qh ((Below.refl w.heap.size w).alloc ql (.cells #[.int .i64 s,.int .i64 p,.slice A Ls.length c] 72));have HA:=qh (ha.below HW0.o);clear ha hb
 by_cases hs:0≤s∧s≤12
 case neg=>
  have dM:=qh (fun W=>o4 (pO hs) W);have HD:=qh (show decide (bF (s,p,Ls))=false from decide_eq_false fun h=>hs h.s);clear hs
  go_enter Tryz.func40,Tryz.ntmps40
  go_wp2_with fail
  refine(dM.o _).mono ?_;rintro e w1 ⟨rfl,rfl⟩
  go_wp2_with fail
  go_ret
  exact⟨by rw[HD.o];rfl,HW0.o⟩
 have dM:=qh (fun W=>o4 (pN hs) W);obtain⟨n,rfl⟩:∃n:Nat,s=n:=⟨s.toNat,(Int.toNat_of_nonneg hs.1).symm⟩;have tH:n≤12:=qo
 by_cases hp: -100≤p∧p≤100
 case neg=>
  have lI:=qh (fun W=>j9 (pO hp) W);have HD:=qh (show decide (bF (n,p,Ls))=false from decide_eq_false fun h=>hp h.p);clear hs hp
  go_enter Tryz.func40,Tryz.ntmps40
  go_wp2_with fail
  refine(dM.o _).mono ?_;rintro e w1 ⟨rfl,rfl⟩
  go_wp2_with fail
  refine(lI.o _).mono ?_;rintro e w1 ⟨rfl,rfl⟩
  go_wp2_with fail
  go_ret
  exact⟨by rw[HD.o];rfl,HW0.o⟩
 have lI:=qh (fun W=>j9 (pN hp) W);have HP:=qh hp;clear hs hp
 by_cases hl:Ls.length≤100
 case neg=>
  have HD:=qh (show decide (bF (n,p,Ls))=false from decide_eq_false fun h=>hl h.l);have hl2:(100:Int)<(Ls.length:Int):=qo
  go_enter Tryz.func40,Tryz.ntmps40
  go_wp2_with fail
  refine(dM.o _).mono ?_;rintro e w1 ⟨rfl,rfl⟩
  go_wp2_with fail
  refine(lI.o _).mono ?_;rintro e w1 ⟨rfl,rfl⟩
  go_wp2_with fail
  go_ret
  exact⟨by rw[HD.o];rfl,HW0.o⟩
 have hl2:¬(100:Int)<(Ls.length:Int):=qo;obtain⟨N,hN⟩:=qx (Ls.length);have HN:=qh hN;obtain⟨w1,hw1⟩:=qx (w.alloc (.cells #[.int .i64 n,.int .i64 p,.slice A Ls.length c] 72));rw[←hw1]at HA HW0;have hb0:aA w1 w.heap.size 72 #[.int .i64 n,.int .i64 p,.slice A Ls.length c]:=by rw[hw1];exact aA.at_ w _ _ rfl
 rw[←hN]at hb0 hl hl2 hbn;have h0:w1.cell? ⟨w.heap.size,0,none⟩=some (.int .i64 n):=hb0.cell 0;have h1:w1.cell? ⟨w.heap.size,1,none⟩=some (.int .i64 p):=hb0.cell 1;have h2:w1.cell? ⟨w.heap.size,2,none⟩=some (.slice A N c):=hb0.cell 2;have hgz:w.heap.size<w1.heap.size:=hb0.lt;rw[←hN]at hw1;rw[←hN];clear hN hb0
 go_enter Tryz.func40,Tryz.ntmps40
 go_wp2_with fail
 refine(dM.o _).mono ?_;rintro e wy ⟨rfl,rfl⟩
 go_wp2_with fail
 refine(lI.o _).mono ?_;rintro e wy ⟨rfl,rfl⟩
 go_wp2_with fail
 rw[←hw1];clear hw1
 go_loopw [3,4,24] (fun _ _ x wr=>∃k:Nat,k≤N∧x=.int .i64 k∧Hq (aQ n Ls k)∧Hq (Below w1.heap.size w1 wr)) (fun _ _ x _=>N-(intOf x).toNat)
 case atStart=>exact⟨0,Nat.zero_le _,rfl,qh aQ.zero,qh (Below.refl _ _)⟩
 case round=>
  obtain⟨k,hk,rfl,HX,HB⟩:=hrel;have c0:=a7 HB.o hgz h0;have c1:=a7 HB.o hgz h1;have c2:=a7 HB.o hgz h2;have hgw:w.heap.size<wr.heap.size:=Nat.lt_of_lt_of_le hgz HB.o.size;have mJ:=qh (HW0.o.trans (HB.o.mono HW0.o.size))
  by_cases hlt:k<N
  ·obtain⟨L,hL⟩:=dD (L:=Ls) (k:=k) (by have:=HN.o;omega)
   obtain⟨gl,ol,Bl,cl,rfl,hgl,hlc,hlr,_⟩:=(HA.o.below HB.o).at hL;have tN:=cV.o.l L (List.mem_of_getElem? hL);have j3:=qh (tD Bl cl L wr hlr tN);have b1:(0:Int)≤(k:Int):=qo;have b2:(k:Int)<(N:Int):=qo;have JL:=qh hlr;clear hlr
   by_cases hpm:eH L
   case neg=>
    have HD:=qh (show decide (bF ((n:Int),p,Ls))=false from decide_eq_false fun h=>aQ.xS (n:=n) hL tH hpm h.f);rw[decide_eq_false hpm]at j3;clear hL hpm
    go_wp2_with fail
    refine j3.o.mono ?_;rintro e w2 ⟨rfl,hb2⟩;have HB2:=mJ.st hb2;clear hb2
    go_wp2_with fail
    go_ret
    exact⟨by rw[HD.o];rfl,HB2.o⟩
   rw[decide_eq_true hpm]at j3
   by_cases hln:L.length=n
   case neg=>
    have HD:=qh (show decide (bF ((n:Int),p,Ls))=false from decide_eq_false fun h=>aQ.BJ (n:=n) hL hln h.f);have hlb:((L.length:Int)==(n:Int))=false:=by rw[beq_eq_false_iff_ne];omega
    have N4:¬(L.length:Int)=(n:Int):=qo;clear hL hpm
    go_wp2_with fail
    refine j3.o.mono ?_;rintro e w2 ⟨rfl,hb2⟩;have HB2:=mJ.st hb2;have c0:=a7 hb2 hgw c0;clear hb2
    go_wp2_with fail
    go_ret
    exact⟨by rw[HD.o];rfl,HB2.o⟩
   obtain⟨pp,rfl⟩:=sU hpm hln;rw[hln]at hlc j3;have HL:=qh hL;clear hL hpm tN
   go_wp2_with fail
   refine j3.o.mono ?_;rintro e w2 ⟨rfl,hb2⟩;have HB2:=HB.st hb2;have NY:=qh (Rd.below JL.o hb2);have c0:=a7 hb2 hgw c0;have c1:=a7 hb2 hgw c1;have c2:=a7 hb2 hgw c2;have E2:w.heap.size<w2.heap.size:=Nat.lt_of_lt_of_le hgz HB2.o.size;clear hb2
   go_wp2_with fail
   refine(mO n _ qo).mono ?_;rintro e w3 h3;obtain⟨A3,c3,rfl,_,hr3,hb3⟩:=h3.rd;rw[G.a6];have HB3:=HB2.st hb3;have vX:=qh (Rd.below NY.o hb3);have c0:=a7 hb3 E2 c0;have c1:=a7 hb3 E2 c1;have c2:=a7 hb3 E2 c2;have pP:w.heap.size<w3.heap.size:=Nat.lt_of_lt_of_le hgz HB3.o.size;have hq3:=fV Bl A3 cl c3 (G.pl pp) (G.pl G.one) w3 vX.o hr3 (by rw[G.a6];omega) (by rw[G.a6];omega);rw[G.a6,G.a6]at hq3;have CR:=qh hq3;clear h3 hb3 hr3 hq3
   go_wp2_with fail
   refine CR.o.mono ?_;rintro e w4 ⟨rfl,q4,rfl⟩
   by_cases h1:pp=G.one
   ·have HD:=qh (show decide (bF ((n:Int),p,Ls))=false from decide_eq_false fun h=>aQ.BI (n:=n) HL.o h1 h.f)
    rw[decide_eq_true (show G.pl pp=G.pl G.one by rw[h1])];have fE:=qh (Below.drewN' (HW0.o.trans (HB3.o.mono HW0.o.size)) q4);clear h1
    go_wp2_with fail
    go_ret
    exact⟨by rw[HD.o];rfl,fE.o⟩
   rw[decide_eq_false (show¬G.pl pp=G.pl G.one from fun h=>h1 (G.f8 h))];have hn1:1≤n:=Decidable.byContradiction fun hz=>h1 (G.PM.rZ fun i hi=>absurd hi qo)
   go_wp2_with fail
   refine(i8 n _ qo hn1).mono ?_;rintro e w5 ⟨A5,c5,rfl,gW,hb5,_⟩;have bP:=qh ((Below.drewN' HB3.o q4).trans (hb5.mono HB3.o.size));have vW:=qh (Rd.below (vX.o.drewN q4) hb5);have c0:=a7 hb5 pP c0;have c1:=a7 hb5 pP c1;have c2:=a7 hb5 pP c2;have H9:=fV Bl A5 cl c5 (G.pl pp) (G.pl G.del) w5 vW.o gW (by rw[G.a6];omega) (by rw[G.a6];omega);rw[G.a6,G.a6]at H9;have qX:=qh H9;clear hb5 gW H9
   go_wp2_with fail
   refine qX.o.mono ?_;rintro e w6 ⟨rfl,q6,rfl⟩;have cL:=qh (Below.drewN' bP.o q6);have fE:=qh (HW0.o.trans (cL.o.mono HW0.o.size))
   by_cases h2:pp=G.del
   ·have HD:=qh (show decide (bF ((n:Int),p,Ls))=false from decide_eq_false fun h=>aQ.BL (n:=n) HL.o h2 h.f)
    rw[decide_eq_true (show G.pl pp=G.pl G.del by rw[h2])];clear h2
    go_wp2_with fail
    go_ret
    exact⟨by rw[HD.o];rfl,fE.o⟩
   rw[decide_eq_false (show¬G.pl pp=G.pl G.del from fun h=>h2 (G.f8 h))];have H12:=qh (And.intro h1 h2);clear h1 h2
   rcases k with _|j
   ·have dE:=qh (HX.o.next HL.o H12.o.1 H12.o.2 (fun i hi=>absurd hi qo))
    go_wp2_with fail
    go_roundw
    case rel=>exact⟨1,by omega,qg,dE,cL⟩
    case measure=>exact qs
   ·obtain⟨qq,hq,_⟩:=HX.o j qo
    obtain⟨g7,o7,B7,c7,e7,OM,IA,eP,_⟩:=(HA.o.below cL.o).at hq;injection e7 with e7;injection e7 with e7 e8;subst e7 e8;rw[G.a6]at IA;have i3:=qh (n4 qq pp B7 Bl c7 cl (w5.drewN q6) eP (vW.o.drewN q6) qo);have HQ:=qh hq;have e9:((j+1:Nat):Int)-1=(j:Int):=qo;have b4:(0:Int)<((j+1:Nat):Int):=qo;have b5:(0:Int)≤(j:Int):=qo;have b6:(j:Int)<(N:Int):=qo;clear hq eP
    go_wp2_with fail
    refine i3.o.mono ?_;rintro e w8 ⟨rfl,cH⟩;have kR:=cL.st cH;have cI:=qh (HW0.o.trans (kR.o.mono HW0.o.size));clear cH
    by_cases hx:G.ext qq pp=0
    ·have hxb:(G.ext qq pp==0)=true:=by simp[hx]
     have dE:=qh (HX.o.next HL.o H12.o.1 H12.o.2 (fun i hi=>by
      obtain rfl:i=j:=qo;exact⟨qq,HQ.o,hx⟩))
     clear hx
     go_wp2_with fail
     go_roundw
     case rel=>exact⟨j+1+1,by omega,qg,dE,kR⟩
     case measure=>exact qs
    ·have hxb:(G.ext qq pp==0)=false:=by simp[hx]
     have HD:=qh (show decide (bF ((n:Int),p,Ls))=false from decide_eq_false fun h=>aQ.BK (n:=n) HL.o HQ.o hx h.f)
     go_wp2_with fail
     go_ret
     exact⟨by rw[HD.o];rfl,cI.o⟩
  ·obtain rfl:N=k:=qo
   by_cases hn2:n<2
   ·have OL:¬(2:Int)≤(n:Int):=qo
    have hN0:N=0:=Decidable.byContradiction fun hz=>by
     obtain⟨pp,_,h1,_⟩:=HX.o 0 qo;exact h1 (G.PM.rZ fun i hi=>by
      have:=pp.lt hi;show pp.f i=i;omega)
    by_cases hp0:p=0
    ·subst hp0
     have HD:=qh (show decide (bF ((n:Int),0,Ls))=true from decide_eq_true ⟨⟨by show(0:Int)≤(n:Int);omega,by show(n:Int)≤12;omega⟩,HP.o,by simp only;rw[←HN.o];omega,fun _=>⟨rfl,by simp only;rw[←HN.o];omega⟩,by
      show aQ n Ls Ls.length;rw[←HN.o];exact HX.o⟩)
     go_wp2_with fail
     go_ret
     exact⟨by rw[HD.o];rfl,mJ.o⟩
    ·have hpb:(p==0)=false:=by simp[hp0]
     have HD:=qh (show decide (bF ((n:Int),p,Ls))=false from decide_eq_false fun h=>hp0 (h.z (by show(n:Int)<2;omega)).1)
     go_wp2_with fail
     go_ret
     exact⟨by rw[HD.o];rfl,mJ.o⟩
   ·have OL:(2:Int)≤(n:Int):=qo
    have HD:=qh (show decide (bF ((n:Int),p,Ls))=true from decide_eq_true ⟨⟨by show(0:Int)≤(n:Int);omega,by show(n:Int)≤12;omega⟩,HP.o,by simp only;rw[←HN.o];omega,fun h=>absurd h (by show¬(n:Int)<2;omega),by
     show aQ n Ls Ls.length;rw[←HN.o];exact HX.o⟩)
    go_wp2_with fail
    go_ret
    exact⟨by rw[HD.o];rfl,mJ.o⟩
end Go.Proofs.YtmnbgjnipbpiaaaGreat
namespace Go.Proofs.YtmnbgjnipbpiaaaGreat
open Go.RowKit
theorem o5 (s:Int)(hs:0≤s∧s≤12)(A:OA)(n c:Nat)(z:Nat→Int)(w:World)(ha:Rd w A (n*6) (fun j=>.int .i64 (z j)))(hn:n≤1048576):
 Calls Tryz.prog 39 #[.int .i64 s,.slice A n c] w fun e w'=>∃v,e=.returned (.tuple #[.int .i64 v,.bool (cnt z s n).isSome])∧(∀m,cnt z s n=some m→v=m)∧Below w.heap.size w w':=by
 have HA:=qh ha;clear ha
 go_enter Tryz.func39,Tryz.ntmps39
 go_wp2
 go_loopw [0,10] (fun m i wr=>∃k:Nat,k≤n∧i=.int .i64 k∧(∃x,Hq (cnt z s k=some x)∧m=.int .i64 x)∧Below w.heap.size w wr) (fun _ i _=>n-(intOf i).toNat)
 case atStart=>exact⟨0,Nat.zero_le _,rfl,⟨s,qh rfl,rfl⟩,Below.refl _ _⟩
 case round=>
  obtain⟨k,hk,rfl,⟨x,HX,rfl⟩,hbl⟩:=hrel;have HB:=qh hbl;clear hbl;have hxb:=jV hs HX.o
  by_cases hlt:k<n
  ·obtain⟨g,o,rfl,hg,hev⟩:=vN (HA.o.below HB.o) hlt
   obtain⟨k0,hk0⟩:=qx (z (k*6));obtain⟨p0,hp0⟩:=qx (z (k*6+1));obtain⟨c0,hc0⟩:=qx (z (k*6+2));obtain⟨b0,hb0⟩:=qx (z (k*6+3));obtain⟨y0,hy0⟩:=qx (z (k*6+4));obtain⟨d0,hd0⟩:=qx (z (k*6+5));rw[←hk0,←hp0,←hc0,←hb0,←hy0,←hd0]at hev;have p7:=qh (qQ HX.o);have lJ:=qh (qP HX.o);rw[←hk0,←hp0,←hc0,←hb0,←hy0,←hd0]at p7 lJ;have a0:=hev.c0;have a1:=hev.c1;have a2:=hev.c2;have a3:=hev.c3;have a4:=hev.c4;have a5:=hev.c5;clear hev hk0 hp0 hc0 hb0 hy0 hd0;obtain⟨E,hE⟩:=qx (bE k0 p0 c0 b0 y0 d0 x);have hb:=fun h=>dP (k:=k0) (p:=p0) (c:=c0) (b:=b0) (y:=y0) (d:=d0) (n:=x) h;have HE:=qh hE;have cV:=qh hb;clear hE hb
   go_wp2_with fail
   refine(q7 k0 p0 c0 b0 y0 d0 x _ ⟨by omega,by omega⟩).mono ?_;rintro e w1 ⟨rfl,hb1⟩;rw[←HE.o];have x1:=fun o=>((aJ hb1).1 wr.heap.size o qj).trans (cP rfl o);have HB1:=qh (HB.o.trans (Below.trans ((Below.refl _ _).alloc HB.o.size _) (hb1.mono (by simp;have:=HB.o.size;omega))));clear hb1
   cases E
   ·go_wp2
    go_ret2
    have hno:=cO z s (show k+1≤n by omega) (lJ.o (fun h=>by rw[←HE.o]at h;exact absurd h.1 qj));exact⟨_,f4 rfl (by rw[hno];rfl),fun m hm=>by(rw[hno]at hm;cases hm),HB1.o⟩
   ·have hb:=cV.o HE.o.symm
    go_wp2_with fail
    refine(h9 k0 p0 c0 b0 y0 d0 x _ ⟨by omega,by omega⟩ ⟨by omega,by omega⟩).mono ?_;rintro e w2 ⟨rfl,hb2⟩;have HB2:=HB1.st hb2;clear hb2 x1;obtain⟨F,hF⟩:=qx (aH k0 c0 x);rw[←hF]at hb ⊢;have HF:=qh hF;clear hF
    by_cases h12:12<F
    ·go_wp2
     go_ret2
     have hno:=cO z s (show k+1≤n by omega) (lJ.o (fun h=>by rw[←HF.o]at h;omega));exact⟨_,f4 rfl (by rw[hno];rfl),fun m hm=>by(rw[hno]at hm;cases hm),HB2.o⟩
    ·go_wp2
     go_roundw
     case rel=>exact⟨k+1,by omega,qg,⟨F,qh (by rw[HF.o];exact p7.o HE.o.symm (by rw[←HF.o];omega)),rfl⟩,HB2.o⟩
     case measure=>exact qs
  ·obtain rfl:n=k:=qo
   have CJ:=qh HX.o
   go_wp2
   go_ret2
   exact⟨_,f4 rfl (by rw[HX.o];rfl),fun m hm=>by(have h1:=HX.o;rw[hm]at h1;injection h1 with h1;exact h1.symm),HB.o⟩
end Go.Proofs.YtmnbgjnipbpiaaaGreat
namespace Go.Proofs.YtmnbgjnipbpiaaaGreat
open Go.RowKit
theorem xH (k p c b y d:Int)(w:World):Calls Tryz.prog 42 #[.agg #[.int .i64 k,.int .i64 p,.int .i64 c,.int .i64 b,.int .i64 y,.int .i64 d]] w fun e w'=>e=.returned (.bool (k==1))∧Below w.heap.size w w':=by
 go_enter Tryz.func42,Tryz.ntmps42
 go_wp2
 go_ret
 exact⟨rfl,qz⟩
open Classical in
theorem x7 (A:OA)(m c:Nat)(L:List Int)(w:World)(ha:Rd w A (m*6) (fun j=>.int .i64 (L.getD j 0)))(hm:m≤1048576):
 Calls Tryz.prog 77 #[.slice A m c,.func (.func 42) #[] #[]] w fun e w'=>(∃i:Int,e=.returned (.int .i64 i)∧decide (0≤i)=decide (¬i9 L m)∧ -1≤i∧i≤2000000)∧Below w.heap.size w w':=by
 have HA:=qh ha;clear ha
 go_enter Tryz.func77,Tryz.ntmps77
 go_wp2_with fail
 go_loopw [5,8] (fun _ x wr=>∃k:Nat,k≤m∧x=.int .i64 k∧Hq (i9 L k)∧Hq (Below w.heap.size w wr)) (fun _ x _=>m-(intOf x).toNat)
 case atStart=>exact⟨0,Nat.zero_le _,rfl,qh (fun j hj=>absurd hj (Nat.not_lt_zero j)),qh (Below.refl _ _)⟩
 case round=>
  obtain⟨k,hk,rfl,HX,HB⟩:=hrel
  by_cases hlt:k<m
  ·obtain⟨g,o,rfl,hg,hev⟩:=vN (HA.o.below HB.o) hlt
   have HN:=qh (show i9 L (k+1)↔i9 L k∧L.getD (k*6) 0≠1 from⟨fun h=>⟨fun i hi=>h i qo,h k qo⟩,fun h i hi=>by
    rcases Nat.lt_or_ge i k with h'|h'
    ·exact h.1 i h'
    ·obtain rfl:i=k:=qo
     exact h.2⟩)
   obtain⟨k0,hk0⟩:=qx (L.getD (k*6) 0);obtain⟨p0,hp0⟩:=qx (L.getD (k*6+1) 0);obtain⟨c0,hc0⟩:=qx (L.getD (k*6+2) 0);obtain⟨b0,hb0⟩:=qx (L.getD (k*6+3) 0);obtain⟨y0,hy0⟩:=qx (L.getD (k*6+4) 0);obtain⟨d0,hd0⟩:=qx (L.getD (k*6+5) 0)
   simp only[←hk0,←hp0,←hc0,←hb0,←hy0,←hd0]at hev HN
   have a0:=hev.c0;have a1:=hev.c1;have a2:=hev.c2;have a3:=hev.c3;have a4:=hev.c4;have a5:=hev.c5;have b1:(0:Int)≤(k:Int):=qo;have b2:(k:Int)<(m:Int):=qo;clear hev hk0 hp0 hc0 hb0 hy0 hd0
   go_wp2_with fail
   refine(xH k0 p0 c0 b0 y0 d0 _).mono ?_;rintro e w1 ⟨rfl,hb1⟩;have HB1:=HB.st hb1;clear hb1 a0 a1 a2 a3 a4 a5
   by_cases h1:k0=1
   ·have h1b:(k0==1)=true:=by simp[h1]
    rw[h1b];have HD:=qh (show¬i9 L m from fun h=>(HN.o.1 (fun i hi=>h i qo)).2 h1);clear h1 h1b
    go_wp2_with fail
    go_ret
    exact⟨⟨k,rfl,by rw[decide_eq_true (show(0:Int)≤(k:Int)by omega),decide_eq_true HD.o],by omega,by omega⟩,HB1.o⟩
   ·have h1b:(k0==1)=false:=by simp[h1]
    rw[h1b];have dE:=qh (HN.o.2 ⟨HX.o,h1⟩);clear h1 h1b
    go_wp2_with fail
    go_roundw
    case rel=>exact⟨k+1,by omega,qg,dE,HB1⟩
    case measure=>exact qs
  ·obtain rfl:m=k:=qo
   go_wp2_with fail
   go_ret
   exact⟨⟨-1,rfl,by rw[decide_eq_false (show¬(0:Int)≤ -1 by omega),decide_eq_false (fun h=>h HX.o)],by omega,by omega⟩,HB.o⟩
open Classical in
theorem pU (A:OA)(m c:Nat)(L:List Int)(w:World)(ha:Rd w A (m*6) (fun j=>.int .i64 (L.getD j 0)))(hm:m≤1048576):
 Calls Tryz.prog 41 #[.slice A m c,.func (.func 42) #[] #[]] w fun e w'=>e=.returned (.bool (decide (¬i9 L m)))∧Below w.heap.size w w':=by
 obtain⟨V,hV⟩:=qx (decide (¬i9 L m));have HC:=qh (x7 A m c L w ha hm);rw[←hV]at HC ⊢;clear ha hV
 go_enter Tryz.func41,Tryz.ntmps41
 go_wp2_with fail
 refine HC.o.mono ?_;rintro e w1 ⟨⟨i,rfl,hi,h1,h2⟩,hb1⟩;have HI:=qh hi;have HB1:=qh hb1;clear hi hb1
 go_wp2_with fail
 go_ret
 exact⟨by rw[←HI.o];first|rfl|simp,HB1.o⟩
open Classical in
theorem oF {q:Bool}(A B:OA)(c d:Nat)(F:List aP)(S:List (List Int))(w:World)(hp:cE q w A B F S)(hb:lD F S):
 Calls Tryz.prog 23 #[.agg #[.slice A F.length c,.slice B S.length d]] w fun e w'=>e=.returned (.bool (decide (cT F S)))∧Below w.heap.size w w':=by
 have cV:=qh hb;have HW0:=qh ((Below.refl w.heap.size w).alloc ql (.cells #[.slice A F.length c,.slice B S.length d] 36));have HP:=qh (hp.below HW0.o);have hfl:=hb.f.1;have hsl:=hb.s.1;clear hp hb
 by_cases hin:1≤F.length∧F.length≤60
 case neg=>
  have HD:=qh (show decide (cT F S)=false from decide_eq_false fun h=>hin h.1)
  by_cases h1:1≤F.length
  ·have h2:(60:Int)<(F.length:Int):=qo
   have h3:¬(F.length:Int)<1:=qo
   go_enter Tryz.func23,Tryz.ntmps23
   go_wp2_with fail
   go_ret
   exact⟨by rw[HD.o];rfl,HW0.o⟩
  ·have h3:(F.length:Int)<1:=qo
   go_enter Tryz.func23,Tryz.ntmps23
   go_wp2_with fail
   go_ret
   exact⟨by rw[HD.o];rfl,HW0.o⟩
 have h1:¬(F.length:Int)<1:=qo;have h2:¬(60:Int)<(F.length:Int):=qo
 by_cases hl:S.length=F.length
 case neg=>
  have HD:=qh (show decide (cT F S)=false from decide_eq_false fun h=>hl h.2.1);have hlb:((S.length:Int)==(F.length:Int))=false:=by rw[beq_eq_false_iff_ne];omega
  have hlc:¬(S.length:Int)=(F.length:Int):=qo
  go_enter Tryz.func23,Tryz.ntmps23
  go_wp2_with fail
  go_ret
  exact⟨by rw[HD.o];rfl,HW0.o⟩
 obtain⟨N,hN⟩:=qx (F.length);have cK:=qh hN;have CO:=qh (show S.length=N by omega);obtain⟨w1,hw1⟩:=qx (w.alloc (.cells #[.slice A N c,.slice B N d] 36));rw[hl,←hN,←hw1]at HP HW0;rw[←hN]at hfl h1 h2 hin;rw[hl,←hN];have hb0:aA w1 w.heap.size 36 #[.slice A N c,.slice B N d]:=by rw[hw1];exact aA.at_ w _ _ rfl
 have h3:w1.cell? ⟨w.heap.size,0,none⟩=some (.slice A N c):=hb0.cell 0;have h4:w1.cell? ⟨w.heap.size,1,none⟩=some (.slice B N d):=hb0.cell 1;have hgz:w.heap.size<w1.heap.size:=hb0.lt;clear hl hN hsl hb0
 go_enter Tryz.func23,Tryz.ntmps23
 go_wp2_with fail
 rw[←hw1];clear hw1
 go_loopg [3,4,5,6,7,8,31] N (fun q nv _ _ _ _ _ x wr=>∃(k:Nat) (m:Int),k≤N∧q+k=N∧x=.int .i64 k∧nv=.int .i64 m∧Hq (f9 F S k=some m)∧Hq (Below w1.heap.size w1 wr))
 case atStart=>exact⟨0,0,Nat.zero_le _,rfl,rfl,rfl,qh rfl,qh (Below.refl _ _)⟩
 case round=>
  obtain⟨k,m,hk,hq,rfl,rfl,HT,HB⟩:=hrel;have hmb:=o8 HT.o;have hgw:=Nat.lt_of_lt_of_le hgz HB.o.size;have d0:=a7 HB.o hgz h3;have d1:=a7 HB.o hgz h4;have mJ:=qh (HW0.o.trans (HB.o.mono HW0.o.size))
  by_cases hlt:k<N
  ·obtain⟨f,hf⟩:=dD (L:=F) (k:=k) (by have:=cK.o;omega)
   obtain⟨L,hL⟩:=dD (L:=S) (k:=k) (by have:=CO.o;omega);obtain⟨gf,off,Af,cf,rfl,hgf,iQ⟩:=(HP.o.f.below HB.o).at hf;obtain⟨gs,os,As,ms,cs,rfl,hgs,hsc,hll,hsr⟩:=(HP.o.s.below HB.o).at hL;have oK:=cV.o.f.2 f (List.mem_of_getElem? hf);have hsb:=cV.o.s.2 L (List.mem_of_getElem? hL);have hfn:=oK.n;have hms:ms≤1048576:=qo;obtain⟨fs,fp,fl⟩:=f;have DA:=qh ((Below.refl wr.heap.size wr).alloc ql (.cells #[.int .i64 fs,.int .i64 fp,.slice Af fl.length cf] 72));have qZ:=qh (nQ (fs,fp,fl) Af cf _ (iQ.rd.below DA.o) oK);have vS:=qh hsr;have bX:=qh (fun hn=>decide_eq_false (B3 HT.o hf hL hn));have nH:=qh (fun a b c d e f=>B4 HT.o hf hL a b c d e f);have hdiv:L.length/6=ms:=qo;rw[hdiv]at bX nH;have eI:=qh hll;have c0:=iQ.c0;have c1:=iQ.c1;have c2:=iQ.c2
   simp only at c0 c1 c2 hfn bX nH
   have b1:(0:Int)≤(k:Int):=qo;have b2:(k:Int)<(N:Int):=qo;obtain⟨BAD,nU⟩:∃b:Bool,b=decide (¬(bF (fs,fp,fl)∧fs=m∧(0<k→¬(fp=0∧fl.length=0)))):=⟨_,rfl⟩;have jO:=qh (fun h=>nU.trans (decide_eq_true h));have dN:=qh (fun h=>nU.trans (decide_eq_false h));clear hf hL iQ oK hsr hsb hdiv hll nU
   go_upto_region 8 with fail
   go_cut [64]from 32 to 94 (fun s wx=>s=.bool BAD∧Hq (Below wr.heap.size wr wx))
   case first=>
    go_wp2_with fail
    refine qZ.o.mono ?_;rintro e w2 ⟨rfl,hb2⟩;have HB1:=DA.st hb2;have y0:=fun o=>((aJ hb2).1 wr.heap.size o qj).trans (cP rfl o);clear hb2 qZ
    by_cases hnf:bF (fs,fp,fl)
    case neg=>
     have HX:=qh (jO.o fun h=>hnf h.1);rw[decide_eq_false hnf];clear hnf
     go_wp2_with fail
     go_meet
     exact⟨by rw[HX.o],HB1⟩
    rw[decide_eq_true hnf]
    by_cases hfm:fs=m
    case neg=>
     have HX:=qh (jO.o fun h=>hfm h.2.1);have oK:(fs==m)=false:=by simp[hfm]
     clear hnf
     go_wp2_with fail
     go_meet
     exact⟨by rw[HX.o],HB1⟩
    subst hfm
    by_cases hz:0<k∧fp=0∧fl.length=0
    ·have HX:=qh (jO.o fun h=>h.2.2 hz.1 hz.2)
     obtain⟨z1,rfl,z3⟩:=hz;have z1':(0:Int)<(k:Int):=qo;rw[z3]at y0;clear hnf
     go_wp2_with fail
     go_meet
     exact⟨by rw[HX.o],HB1⟩
    have HX:=qh (dN.o fun h=>h ⟨hnf,rfl,fun h h2=>hz ⟨h,h2⟩⟩);have hcase:(¬(0:Int)<(k:Int))∨((0:Int)<(k:Int)∧(fp==0)=false)∨((0:Int)<(k:Int)∧(fp==0)=true∧((fl.length:Int)==0)=false∧¬(fl.length:Int)=0):=by
     by_cases h1:0<k
     ·by_cases h2:fp=0
      ·have h3:¬fl.length=0:=fun h=>hz ⟨h1,h2,h⟩
       exact .inr (.inr ⟨by omega,by simp[h2],by rw[beq_eq_false_iff_ne];omega,by omega⟩)
      ·exact .inr (.inl ⟨by omega,by simp[h2]⟩)
     ·exact .inl qo
    clear hnf hz
    rcases hcase with z1|⟨z1,z2⟩|⟨z1,z2,z3,z4⟩
    all_goals(go_wp2_with fail;go_meet;exact⟨by rw[HX.o],HB1⟩)
   case rest=>
    obtain⟨rfl,HB1⟩:=hcut;have HB2:=qh (HB.o.trans (HB1.o.mono HB.o.size));have fE:=qh (HW0.o.trans (HB2.o.mono HW0.o.size))
    by_cases hg:bF (fs,fp,fl)∧fs=m∧(0<k→¬(fp=0∧fl.length=0))
    case neg=>
     have hx:=jO.o hg;subst hx;have HD:=qh (bX.o fun h=>hg ⟨h.1,h.2.1,h.2.2.1⟩);clear hg
     go_wp2_with fail
     go_ret
     exact⟨by rw[HD.o];rfl,fE.o⟩
    have hx:=dN.o (fun h=>h hg);subst hx;have HG:=qh hg;have e0:=a7 HB1.o hgw d0;have AC:=qh (vS.o.below HB1.o);have N6:=Nat.lt_of_lt_of_le hgw HB1.o.size;clear hg d0 d1 hsc c0 c1 c2;obtain⟨IR,nT⟩:∃b:Bool,b=decide (¬(ms≤2000∧(k+1<N→ms≠0)∧i9 L ms)):=⟨_,rfl⟩;have iB:=qh (fun h=>nT.trans (decide_eq_true h));have p3:=qh (fun h=>nT.trans (decide_eq_false h));have FI:=qh (pU As ms cs L wc AC.o hms);clear nT
    go_upto_region 10 with fail
    go_cut [84]from 32 to 94 (fun s wx=>s=.bool IR∧Hq (Below wc.heap.size wc wx))
    case first=>
     by_cases hm2:ms≤2000
     case neg=>
      have y7:(2000:Int)<(ms:Int):=qo;have HX:=qh (iB.o fun h=>hm2 h.1)
      go_wp2_with fail
      go_meet
      exact⟨by rw[HX.o],qh (Below.refl _ _)⟩
     have y7:¬(2000:Int)<(ms:Int):=qo
     by_cases hl:k+1<N∧ms=0
     ·have HX:=qh (iB.o fun h=>h.2.1 hl.1 hl.2)
      obtain⟨hl1,rfl⟩:=hl;have hl2:(k:Int)<(N:Int)-1:=qo
      go_wp2_with fail
      go_meet
      exact⟨by rw[HX.o],qh (Below.refl _ _)⟩
     by_cases hnx:i9 L ms
     ·have HX:=qh (p3.o fun h=>h ⟨hm2,fun h1 h2=>hl ⟨h1,h2⟩,hnx⟩)
      rw[decide_eq_false (fun h=>h hnx)]at FI;have hcase:((ms:Int)==0)=false∨(((ms:Int)==0)=true∧¬(k:Int)<(N:Int)-1):=by
       by_cases h1:ms=0
       ·exact .inr ⟨by simp[h1],by omega⟩
       ·exact .inl (by rw[beq_eq_false_iff_ne];omega)
      clear hl hnx
      rcases hcase with z1|⟨z1,z2⟩
      all_goals
       go_wp2_with fail
       refine FI.o.mono ?_;rintro e w5 ⟨rfl,hb5⟩;have bP:=qh hb5;clear hb5
       go_wp2_with fail
       go_meet
       exact⟨by rw[HX.o],bP⟩
     ·have HX:=qh (iB.o fun h=>hnx h.2.2)
      rw[decide_eq_true hnx]at FI;have hcase:((ms:Int)==0)=false∨(((ms:Int)==0)=true∧¬(k:Int)<(N:Int)-1):=by
       by_cases h1:ms=0
       ·exact .inr ⟨by simp[h1],by omega⟩
       ·exact .inl (by rw[beq_eq_false_iff_ne];omega)
      clear hl hnx
      rcases hcase with z1|⟨z1,z2⟩
      all_goals
       go_wp2_with fail
       refine FI.o.mono ?_;rintro e w5 ⟨rfl,hb5⟩;have bP:=qh hb5;clear hb5
       go_wp2_with fail
       go_meet
       exact⟨by rw[HX.o],bP⟩
    case rest=>
     obtain⟨rfl,bP⟩:=hcut;have cL:=qh (HB2.o.trans (bP.o.mono HB2.o.size));have fE:=qh (HW0.o.trans (cL.o.mono HW0.o.size))
     by_cases hl:ms≤2000∧(k+1<N→ms≠0)∧i9 L ms
     case neg=>
      have hx:=iB.o hl;subst hx;have HD:=qh (bX.o fun h=>hl ⟨by have:=h.2.2.2.1;have:=eI.o;omega,fun h1 h2=>h.2.2.2.2.1 (by rw[←cK.o];exact h1) (by have:=eI.o;omega),h.2.2.2.2.2.1⟩);clear hl
      go_wp2_with fail
      go_ret
      exact⟨by rw[HD.o];rfl,fE.o⟩
     have hx:=p3.o (fun h=>h hl);subst hx;have kM:=qh hl;obtain⟨hg1,hg2,hg3⟩:=HG.o;subst hg2;have J3:=qh (o5 fs hmb As ms cs (fun i=>L.getD i 0) _ (AC.o.below bP.o) hms);clear hl hg1 hg3;obtain⟨R,hR⟩:=qx (cnt (fun i=>L.getD i 0) fs ms);rw[←hR]at J3 nH bX;clear hR
     go_wp2_with fail
     refine J3.o.mono ?_;rintro e w7 ⟨v7,rfl,hv7,aY⟩;have fF:=cL.st aY;have cI:=qh (HW0.o.trans (fF.o.mono HW0.o.size));have PD:=qh hv7;clear aY hv7 J3
     cases R with
     |none=>
      have HD:=qh (bX.o fun h=>h.2.2.2.2.2.2 rfl)
      go_wp2_with fail
      go_ret
      exact⟨by rw[HD.o];rfl,cI.o⟩
     |some y=>
      obtain rfl:=PD.o y rfl;have fB:=qh (nH.o HG.o.1 (by first|rfl|trivial) HG.o.2.2 (by have:=eI.o;have:=kM.o.1;omega) (fun h h2=>kM.o.2.1 (by rw[cK.o];exact h) (by have:=eI.o;omega)) kM.o.2.2)
      go_wp2_with fail
      go_roundg (gk-1)
      case rel=>exact⟨k+1,_,by omega,by omega,qg,rfl,fB,fF⟩
      case measure=>omega
  ·obtain rfl:N=k:=qo
   have HD:=qh (show decide (cT F S)=true from decide_eq_true ⟨by rw[←cK.o];exact hin,by rw[←cK.o];exact CO.o,by rw[←cK.o,HT.o];rfl⟩)
   go_wp2_with fail
   go_ret
   exact⟨by rw[HD.o];rfl,mJ.o⟩
end Go.Proofs.YtmnbgjnipbpiaaaGreat
namespace Go.Proofs.YtmnbgjnipbpiaaaGreat
open Go.RowKit
theorem l2 {w:World}{g n k:Nat}{u:Value}(hw:bK w g 0 n)(hk:k<n):(w.setCell ⟨g,k,none⟩ u).cell? ⟨g,k,none⟩=some u:=by
 have hw':bK w g k 1:=fun j hj=>by
  have:=hw (k+j) qo;rwa[Nat.zero_add]at this
 have:=bY.step (a:=k) (f:=fun _=>u) (m:=0) (u:=u) (fun j hj=>absurd hj (Nat.not_lt_zero j)) hw' qo rfl rfl 0 qo
 simpa using this
theorem cD {w:World}{g i k:Nat}{u v:Value}(h:w.cell? ⟨g,i,none⟩=some v)(hik:i≠k):(w.setCell ⟨g,k,none⟩ u).cell? ⟨g,i,none⟩=some v:=by
 rw[World.cell?_setCell_other _ _ _ _ (by intro e;injection e;omega)];exact h
theorem eU {α:Type}{L:List α}{k:Nat}(h:k<L.length):∃x,L[k]?=some x:=⟨_,List.getElem?_eq_getElem h⟩
theorem mP {α:Type}{L:List α}{k:Nat}{x:α}(h:L[k]?=some x):k<L.length:=(List.getElem?_eq_some_iff.1 h).1
theorem wN (A:OA)(c L:Nat)(Ls:List (List Int)){q:Bool}(w:World)(ha:aX q w A Ls)(hn:Ls.length≤maxLen)(hb:∀M∈Ls,M.length≤maxLen)(hL:L≤1048576):
 Calls Tryz.prog 51 #[.slice A Ls.length c,.int .i64 L] w fun e w'=>∃r:Int,(r<0∨(0≤r∧r≤L∧Ls.length≤1048576∧∀M∈Ls,M.length≤1048576))∧e=.returned (.int .i64 r)∧Below w.heap.size w w':=by
 unfold maxLen at hn;have HA:=qh ha;have mG:=qh hb;clear ha hb
 by_cases hbig:Ls.length≤L
 ·go_enter Tryz.func51,Tryz.ntmps51
  go_wp2_with fail
  go_loopw [1,5] (fun l i wr=>∃k R:Nat,k≤Ls.length∧i=.int .i64 k∧l=.int .i64 R∧R≤L∧Hq (∀j M,j<k→Ls[j]?=some M→M.length≤1048576)∧Below w.heap.size w wr) (fun _ i _=>Ls.length-(intOf i).toNat)
  case atStart=>exact⟨0,L-Ls.length,Nat.zero_le _,rfl,qg,by omega,qh (fun j M hj=>absurd hj qo),Below.refl _ _⟩
  case round=>
   obtain⟨k,R,hk,rfl,rfl,hR,HX,hb⟩:=hrel;have HB:=qh hb
   by_cases hlt:k<Ls.length
   ·obtain⟨M,hM⟩:=eU hlt
    obtain⟨g,o,B,d,rfl,hg,h0,_,_⟩:=(HA.o.below hb).at hM;have hx:=mG.o M (List.mem_of_getElem? hM);have HM:=qh hM;have b1:(0:Int)≤(k:Int):=qo;have b2:(k:Int)<(Ls.length:Int):=qo;clear hb hM;obtain⟨m,hm⟩:=qx (M.length);rw[←hm]at h0 hx;have JG:=qh hm;clear hm
    go_wp2_with fail
    refine(sL B m d R _ hx qo).mono ?_;rintro e w1 ⟨s,hs,rfl,rfl⟩
    by_cases h1:s<0
    ·clear h0 hs
     go_wp2
     go_ret
     exact⟨-1,.inl qo,rfl,HB.o⟩
    ·obtain⟨S,rfl⟩:=Int.eq_ofNat_of_zero_le (show 0≤s by omega)
     have hs2:=hs.resolve_left h1;obtain⟨hs3,hs4⟩:=hs2;clear h0 hs
     go_wp2
     go_roundw
     case rel=>exact⟨k+1,S,by omega,qg,qg,by omega,qh (fun j N hj hN=>by
      by_cases e:j=k
      ·subst e
       have h2:=HM.o;rw[hN]at h2;injection h2 with h2;have:=JG.o;rw[h2];omega
      ·exact HX.o j N qo hN),HB.o⟩
     case measure=>exact qs
   ·obtain rfl:k=Ls.length:=qo
    clear hb
    go_wp2
    go_ret
    exact⟨R,.inr ⟨by omega,by omega,by omega,fun M hM=>by
     obtain⟨j,hj⟩:=List.getElem?_of_mem hM;exact HX.o j M (mP hj) hj⟩,rfl,HB.o⟩
 ·go_enter Tryz.func51,Tryz.ntmps51
  go_wp2
  go_ret
  exact⟨-1,.inl qo,rfl,Below.refl _ _⟩
theorem sK (f:aP)(A:OA)(c L:Nat){q:Bool}(w:World)(ha:aX q w A f.2.2)(hn:f.2.2.length≤maxLen)(hb:∀M∈f.2.2,M.length≤maxLen)(hL:L≤1048576):
 Calls Tryz.prog 29 #[.agg #[.int .i64 f.1,.int .i64 f.2.1,.slice A f.2.2.length c],.int .i64 L] w fun e w'=>∃r:Int,(r= -1∨(0≤r∧r≤L∧i5 f))∧e=.returned (.int .i64 r)∧Below w.heap.size w w':=by
 obtain⟨s,p,Ls⟩:=f;have HA:=qh ha;have HB:=qh hb;clear ha hb
 go_enter Tryz.func29,Tryz.ntmps29
 go_wp2_with fail
 refine(wN A c L Ls _ (HA.o.below (qz)) hn HB.o hL).mono ?_;rintro e w1 ⟨r,hr,rfl,hb1⟩;have HR:=qh hr;have HB1:=qh (show Below w.heap.size w w1 from qz);clear hr hb1
 by_cases h0:r<0
 ·go_wp2
  go_ret
  exact⟨-1,.inl rfl,rfl,HB1.o⟩
 ·go_wp2
  go_ret
  obtain⟨h1,h2,h3,h4⟩:=HR.o.resolve_left qo;exact⟨r,.inr ⟨h1,h2,h3,h4⟩,rfl,HB1.o⟩
theorem wO (A:OA)(c L:Nat)(F:List aP){q:Bool}(w:World)(ha:eR q w A F)(hn:F.length≤maxLen)(hb:∀f∈F,f.2.2.length≤maxLen∧∀M∈f.2.2,M.length≤maxLen)(hL:L≤1048576):
 Calls Tryz.prog 12 #[.slice A F.length c,.int .i64 L] w fun e w'=>∃r:Int,(r<0∨(0≤r∧r≤L∧F.length≤1048576∧∀f∈F,i5 f))∧e=.returned (.int .i64 r)∧Below w.heap.size w w':=by
 unfold maxLen at hn;have HA:=qh ha;have mG:=qh hb;clear ha hb
 by_cases hbig:F.length≤L
 ·go_enter Tryz.func12,Tryz.ntmps12
  go_wp2_with fail
  go_loopw [1,5] (fun l i wr=>∃k R:Nat,k≤F.length∧i=.int .i64 k∧l=.int .i64 R∧R≤L∧Hq (∀j f,j<k→F[j]?=some f→i5 f)∧Below w.heap.size w wr) (fun _ i _=>F.length-(intOf i).toNat)
  case atStart=>exact⟨0,L-F.length,Nat.zero_le _,rfl,qg,by omega,qh (fun j M hj=>absurd hj qo),Below.refl _ _⟩
  case round=>
   obtain⟨k,R,hk,rfl,rfl,hR,HX,hb⟩:=hrel;have HB:=qh hb
   by_cases hlt:k<F.length
   ·obtain⟨f,hf⟩:=eU hlt
    obtain⟨g,o,B,d,rfl,hg,hat⟩:=(HA.o.below hb).at hf;have hx:=mG.o f (List.mem_of_getElem? hf);have HF:=qh hf;have h0:=hat.c0;have h1:=hat.c1;have h2:=hat.c2;have HC:=qh (sK f B d R _ hat.rd hx.1 hx.2 qo);have b1:(0:Int)≤(k:Int):=qo;have b2:(k:Int)<(F.length:Int):=qo;clear hb hf hat hx
    go_wp2_with fail
    refine HC.o.mono ?_;rintro e w1 ⟨s,hs,rfl,hb1⟩;have HB1:=HB.st hb1;clear hb1 h0 h1 h2
    by_cases h3:s<0
    ·clear hs
     go_wp2
     go_ret
     exact⟨-1,.inl qo,rfl,HB1.o⟩
    ·obtain⟨S,rfl⟩:=Int.eq_ofNat_of_zero_le (show 0≤s by omega)
     obtain⟨hs2,hs3,hs4⟩:=hs.resolve_left qo;have J5:=qh hs4;clear hs hs4
     go_wp2
     go_roundw
     case rel=>exact⟨k+1,S,by omega,qg,qg,by omega,qh (fun j N hj hN=>by
      by_cases e:j=k
      ·subst e
       have h2:=HF.o;rw[hN]at h2;injection h2 with h2;rw[h2];exact J5.o
      ·exact HX.o j N qo hN),HB1.o⟩
     case measure=>exact qs
   ·obtain rfl:k=F.length:=qo
    clear hb
    go_wp2
    go_ret
    exact⟨R,.inr ⟨by omega,by omega,by omega,fun M hM=>by
     obtain⟨j,hj⟩:=List.getElem?_of_mem hM;exact HX.o j M (mP hj) hj⟩,rfl,HB.o⟩
 ·go_enter Tryz.func12,Tryz.ntmps12
  go_wp2
  go_ret
  exact⟨-1,.inl qo,rfl,Below.refl _ _⟩
theorem pD (A:OA)(c L:Nat)(S:List (List Int))(w:World)(ha:eZ w A S)(hn:S.length≤maxLen)(hb:∀M∈S,M.length≤maxLen*6)(hL:L≤1048576):
 Calls Tryz.prog 13 #[.slice A S.length c,.int .i64 L] w fun e w'=>∃r:Int,(r<0∨(0≤r∧r≤L∧S.length≤1048576∧∀M∈S,M.length≤1048576*6))∧e=.returned (.int .i64 r)∧Below w.heap.size w w':=by
 unfold maxLen at hn;have HA:=qh ha;have mG:=qh hb;clear ha hb
 by_cases hbig:S.length≤L
 ·go_enter Tryz.func13,Tryz.ntmps13
  go_wp2_with fail
  go_loopw [1,5] (fun l i wr=>∃k R:Nat,k≤S.length∧i=.int .i64 k∧l=.int .i64 R∧R≤L∧Hq (∀j M,j<k→S[j]?=some M→M.length≤1048576*6)∧Below w.heap.size w wr) (fun _ i _=>S.length-(intOf i).toNat)
  case atStart=>exact⟨0,L-S.length,Nat.zero_le _,rfl,qg,by omega,qh (fun j M hj=>absurd hj qo),Below.refl _ _⟩
  case round=>
   obtain⟨k,R,hk,rfl,rfl,hR,HX,hb⟩:=hrel;have HB:=qh hb
   by_cases hlt:k<S.length
   ·obtain⟨M,hM⟩:=eU hlt
    obtain⟨g,o,B,m,d,rfl,hg,h0,hl,_⟩:=(HA.o.below hb).at hM;have hx:=mG.o M (List.mem_of_getElem? hM);have HM:=qh hM;have JG:=qh hl;have b1:(0:Int)≤(k:Int):=qo;have b2:(k:Int)<(S.length:Int):=qo;have hm:m≤maxLen:=qo;clear hb hM hl hx
    go_wp2_with fail
    refine(lM B m d R _ hm qo).mono ?_;rintro e w1 ⟨s,hs,rfl,rfl⟩
    by_cases h1:s<0
    ·clear h0 hs
     go_wp2
     go_ret
     exact⟨-1,.inl qo,rfl,HB.o⟩
    ·obtain⟨T,rfl⟩:=Int.eq_ofNat_of_zero_le (show 0≤s by omega)
     have hs2:=hs.resolve_left h1;obtain⟨hs3,hs4⟩:=hs2;clear h0 hs
     go_wp2
     go_roundw
     case rel=>exact⟨k+1,T,by omega,qg,qg,by omega,qh (fun j N hj hN=>by
      by_cases e:j=k
      ·subst e
       have h2:=HM.o;rw[hN]at h2;injection h2 with h2;have:=JG.o;rw[h2];omega
      ·exact HX.o j N qo hN),HB.o⟩
     case measure=>exact qs
   ·obtain rfl:k=S.length:=qo
    clear hb
    go_wp2
    go_ret
    exact⟨R,.inr ⟨by omega,by omega,by omega,fun M hM=>by
     obtain⟨j,hj⟩:=List.getElem?_of_mem hM;exact HX.o j M (mP hj) hj⟩,rfl,HB.o⟩
 ·go_enter Tryz.func13,Tryz.ntmps13
  go_wp2
  go_ret
  exact⟨-1,.inl qo,rfl,Below.refl _ _⟩
theorem wM (A B:OA)(c d L:Nat)(F:List aP)(S:List (List Int)){q:Bool}(w:World)(ha:cE q w A B F S)(hn:F.length≤maxLen)(hb:∀f∈F,f.2.2.length≤maxLen∧∀M∈f.2.2,M.length≤maxLen)(hm:S.length≤maxLen)(hbs:∀M∈S,M.length≤maxLen*6)(hL:L≤1048576):
 Calls Tryz.prog 5 #[.agg #[.slice A F.length c,.slice B S.length d],.int .i64 L] w fun e w'=>∃r:Int,(r<0∨lD F S)∧e=.returned (.int .i64 r)∧Below w.heap.size w w':=by
 have HA:=qh ha;have dN:=qh hb;have Q2:=qh hbs;clear ha hb hbs
 go_enter Tryz.func5,Tryz.ntmps5
 go_wp2_with fail
 refine(wO A c L F _ (HA.o.f.below (qz)) hn dN.o hL).mono ?_;rintro e w1 ⟨r,hr,rfl,hb1⟩;have x0:w1.cell? ⟨w.heap.size,1,none⟩=some (.slice B S.length d):=((aJ hb1).1 w.heap.size 1 qj).trans (cP rfl 1);have HB1:=qh (show Below w.heap.size w w1 from qz);clear hb1
 by_cases h0:r<0
 ·clear hr
  go_wp2
  go_ret
  exact⟨-1,.inl qo,rfl,HB1.o⟩
 ·obtain⟨R,rfl⟩:=Int.eq_ofNat_of_zero_le (show 0≤r by omega)
  obtain⟨h1,h2,h3,h4⟩:=hr.resolve_left h0;have H34:=qh (And.intro h3 h4);clear hr h3 h4
  go_wp2_with fail
  refine(pD B d R S _ (HA.o.s.below HB1.o) hm Q2.o qo).mono ?_;rintro e w2 ⟨r2,hr2,rfl,hb2⟩;have HR:=qh hr2;have HB2:=HB1.st hb2;clear hr2 hb2 x0
  by_cases h5:r2<0
  ·go_wp2
   go_ret
   exact⟨-1,.inl qo,rfl,HB2.o⟩
  ·go_wp2
   go_ret
   obtain⟨_,_,h6,h7⟩:=HR.o.resolve_left qo;exact⟨r2,.inr ⟨H34.o,⟨h6,h7⟩⟩,rfl,HB2.o⟩
end Go.Proofs.YtmnbgjnipbpiaaaGreat
