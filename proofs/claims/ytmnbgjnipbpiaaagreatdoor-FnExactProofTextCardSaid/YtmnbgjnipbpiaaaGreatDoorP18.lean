/- Walks and plain lemmas. -/
import Derived.Test.YtmnbgjnipbpiaaaGreatDoorP06
import Derived.Test.YtmnbgjnipbpiaaaGreatDoorP07
import Derived.Test.YtmnbgjnipbpiaaaGreatDoorP12
import Derived.Shelf.Strconv.Itoa4
import Derived.Ground.SlgnProg
import Derived.Lib.SmallJoins
import Derived.Shelf.Strings.OnBuilder
import Derived.Shelf.Strings.Shaped
import Derived.Shelf.Strings.SplitShaped
import Derived.Shelf.Strings.RuneCount
import Derived.Shelf.Strings.BuilderCap
import Derived.Test.YtmnbgjnipbpiaaaGreatDoorRows
set_option linter.unusedVariables false
set_option linter.unusedSimpArgs false
set_option maxHeartbeats 4000000
set_option maxRecDepth 20000
namespace Go.Proofs.YtmnbgjnipbpiaaaGreatDoor
open Go.RowKit
def rv (n k:Nat)(f:Nat→Int)(m:Nat):Int:=if m<k∨n-k≤m then f (n-1-m)else f m
theorem nQ {wr:World}{g n k m:Nat}{f:Nat→Int}(hr:b9 wr g 0 n (fun j=>.int .i64 (rv n k f j)))(hm:m=n-1-k)(hkm:k<m)(hmn:m<n){x y:Int}(hx:x=rv n k f k)(hy:y=rv n k f m):
 b9 ((wr.setCell ⟨g,k,none⟩ (.int .i64 y)).setCell ⟨g,m,none⟩ (.int .i64 x)).drew g 0 n (fun j=>.int .i64 (rv n (k+1) f j)):=by
 intro j hj;show((wr.setCell ⟨g,k,none⟩ (.int .i64 y)).setCell ⟨g,m,none⟩ (.int .i64 x)).cell? _=_;have h1:=hr j hj;rw[Nat.zero_add]at h1 ⊢
 by_cases hjm:j=m
 ·subst hjm
  obtain⟨v,hv⟩:=cell?_setCell_some (p:=⟨g,k,none⟩) (x:=.int .i64 y) h1;rw[World.cell?_setCell_same _ _ _ hv,hx]
  simp only[rv]
  rw[if_neg qo,if_pos qo,show n-1-j=k by omega]
 ·rw[World.cell?_setCell_other _ _ _ _ (by intro e;injection e;omega)]
  by_cases hjk:j=k
  ·subst hjk
   rw[World.cell?_setCell_same _ _ _ h1,hy]
   simp only[rv]
   rw[if_neg qo,if_pos qo,hm]
  ·rw[World.cell?_setCell_other _ _ _ _ (by intro e;injection e;omega),h1]
   simp only[rv]
   by_cases hc:j<k∨n-k≤j
   ·rw[if_pos hc,if_pos qo]
   ·rw[if_neg hc,if_neg qo]
theorem jI (g n c:Nat)(f:Nat→Int)(w:World)(hw:aY w g 0 n)(hr:b9 w g 0 n (fun j=>.int .i64 (f j)))(hn:n≤1048576):
 Calls Tryz.prog 125 #[.slice (some ⟨g,0,none⟩) n c] w fun e w'=>e=.returned (.tuple #[])∧Only w w' g∧aY w' g 0 n∧b9 w' g 0 n (fun j=>.int .i64 (f (n-1-j))):=by
 have HW:=qh hw;have HR:=qh hr;clear hw hr
 go_enter Tryz.func125,Tryz.ntmps125
 go_wp2
 go_loopw [2,3] (fun i j wr=>∃k:Nat,∃z:Int,i=.int .i64 k∧j=.int .i64 z∧Hq (z=(n:Int)-1-k)∧ -1≤z∧z≤1048576∧2*k≤n+1∧Only w wr g∧aY wr g 0 n∧b9 wr g 0 n (fun j=>.int .i64 (rv n k f j))) (fun i _ _=>n-(intOf i).toNat)
 case atStart=>exact⟨0,_,rfl,rfl,by simp[Hq],by omega,by omega,by omega,Only.refl _ _,HW.o,fun j hj=>(HR.o j hj).trans (by simp only[rv];rw[if_neg qo])⟩
 case round=>
  obtain⟨k,z,rfl,rfl,HZ,hz1,hz2,hk,ho,hw,hr⟩:=hrel;have HO:=qh ho;have HW:=qh hw;have HR:=qh hr;clear ho hw hr
  by_cases hlt:2*k+1<n
  ·obtain⟨m,rfl⟩:=Int.eq_ofNat_of_zero_le (show 0≤z by have:=HZ.o;omega)
   have hkm:k<m:=by have:=HZ.o;omega
   have hmn:m<n:=by have:=HZ.o;omega
   have hmk:Hq (m=n-1-k):=by have:=HZ.o;unfold Hq;omega
   have hc1:=HR.o k qo;have hc2:=HR.o m qo;obtain⟨x,hx⟩:=qx (rv n k f k);obtain⟨y,hy⟩:=qx (rv n k f m)
   simp only[←hx,←hy,Nat.zero_add]at hc1 hc2
   have HX:=qh hx;have HY:=qh hy;clear hx hy;have hf:=(HW.o k qo).2;have hf':=(HW.o m qo).2;rw[Nat.zero_add]at hf hf';have b1:(0:Int)≤(k:Int):=qo;have b2:(k:Int)<(n:Int):=qo;have b3:(0:Int)≤(m:Int):=qo;have b4:(m:Int)<(n:Int):=qo
   go_wp2
   go_region
   go_wp2
   go_roundw
   case rel=>exact⟨k+1,_,qg,rfl,by unfold Hq;have:=HZ.o;omega,by omega,by omega,by omega,((HO.o.set _ _).set _ _).drewN 1,(HW.o.set _ _).set _ _,nQ HR.o hmk.out hkm hmn HX.o HY.o⟩
   case measure=>exact qs
  ·have hzk:z≤(k:Int):=by have:=HZ.o;omega
   go_wp2
   go_end0
   refine⟨rfl,HO.o,HW.o,fun j hj=>(HR.o j hj).trans ?_⟩
   simp only[rv]
   by_cases hc:j<k∨n-k≤j
   ·rw[if_pos hc]
   ·rw[if_neg hc]
    rw[show n-1-j=j by omega]
def OwnAt (w:World)(B:Nat)(e:TypeId)(v:Value)(n:Nat)(xs:List Value):Prop:=
 xs.length=n∧((v=.slice none 0 0∧n=0)∨∃g o cap cur,v=.slice (some ⟨g,o,none⟩) n cap∧B≤g∧w.heap[g]?=some (.cells cur e (0,0))∧n≤cap∧cap≤maxLen∧o+cap≤cur.size∧(cur.toList.drop o).take n=xs)
section
variable {B:Nat}{e:TypeId}{v:Value}{n:Nat}{xs:List Value}{w w':World}
theorem OwnAt.of (h:w.ownsRow B e 1 v n xs):OwnAt w B e v n xs:=by
 refine⟨by have:=h.1;omega,?_⟩
 rcases h.2 with hn|⟨g,cap,cur,hv,hB,hg,h1,h2,h3,h4⟩
 ·exact .inl hn
 ·exact .inr ⟨g,0,cap,cur,hv,hB,hg,h1,h2,by omega,by simpa using h4⟩
theorem OwnAt.lt (h:OwnAt w B e v n xs):∀b,v.ownBlock=some b→B≤b∧b<w.heap.size:=fun b hb=>by
 rcases h.2 with⟨rfl,_⟩|⟨g,o,cap,cur,rfl,hB,hg,_⟩
 ·cases hb
 ·injection hb with hb
  subst hb;exact⟨hB,(Array.getElem?_eq_some_iff.1 hg).1⟩
theorem OwnAt.blk (h:OwnAt w B e v n xs)(hk:∀b,v.ownBlock=some b→w'.heap[b]?=w.heap[b]?):OwnAt w' B e v n xs:=by
 refine⟨h.1,?_⟩
 rcases h.2 with hn|⟨g,o,cap,cur,rfl,hB,hg,rest⟩
 ·exact .inl hn
 ·exact .inr ⟨g,o,cap,cur,rfl,hB,(hk g rfl).trans hg,rest⟩
theorem OwnAt.base {B':Nat}(h:OwnAt w B e v n xs)(hB:B'≤B):OwnAt w B' e v n xs:=by
 refine⟨h.1,?_⟩
 rcases h.2 with hn|⟨g,o,cap,cur,rfl,hb,rest⟩
 ·exact .inl hn
 ·exact .inr ⟨g,o,cap,cur,rfl,Nat.le_trans hB hb,rest⟩
theorem OwnAt.form (h:OwnAt w B e v n xs)(hn:0<n):∃g o cap,v=.slice (some ⟨g,o,none⟩) n cap∧(n≤cap∧cap≤maxLen)∧B≤g∧g<w.heap.size:=by
 rcases h.2 with⟨_,h0⟩|⟨g,o,cap,cur,rfl,hB,hg,h1,h2,_⟩
 ·omega
 ·exact⟨g,o,cap,rfl,⟨h1,h2⟩,hB,(Array.getElem?_eq_some_iff.1 hg).1⟩
theorem OwnAt.cellAt {g o cap:Nat}(h:OwnAt w B e (.slice (some ⟨g,o,none⟩) n cap) n xs){j:Nat}(hj:j<n):w.cell? ⟨g,o+j,none⟩=xs[j]?:=by
 rcases h.2 with⟨h',_⟩|⟨g',o',cap',cur,h',_,hg,h1,_,h3,h4⟩
 ·cases h'
 ·injection h' with h' _ _
  injection h' with h';injection h' with h5 h6;subst h5 h6;rw[cell_of_row w g (o+j) cur e (0,0) hg,←h4,List.getElem?_take,if_pos hj,List.getElem?_drop]
  simp
theorem OwnAt.frozenAt {g o cap:Nat}(h:OwnAt w B e (.slice (some ⟨g,o,none⟩) n cap) n xs)(j:Nat):w.frozen? ⟨g,j,none⟩=false:=by
 rcases h.2 with⟨h',_⟩|⟨g',o',cap',cur,h',_,hg,_⟩
 ·cases h'
 ·injection h' with h' _ _
  injection h' with h';injection h' with h5 _;subst h5
  simp[World.frozen?,hg]
theorem OwnAt.stored {g o cap:Nat}(h:OwnAt w B e (.slice (some ⟨g,o,none⟩) n cap) n xs)(j:Nat)(u:Value):OwnAt (w.setCell ⟨g,o+j,none⟩ u) B e (.slice (some ⟨g,o,none⟩) n cap) n (xs.set j u):=by
 refine⟨by rw[List.length_set];exact h.1,?_⟩
 rcases h.2 with⟨h',_⟩|⟨g',o',cap',cur,h',hB,hg,h1,h2,h3,h4⟩
 ·cases h'
 ·have h'':=h'
  injection h' with h' _ h7;injection h' with h';injection h' with h5 h6;subst h5 h6 h7;refine .inr ⟨g,o,cap,cur.setIfInBounds (o+j) u,rfl,hB,?_,h1,h2,by simpa using h3,?_⟩
  ·rw[setCell_eq_setRow w g (o+j) cur e (0,0) u hg]
   exact setRow_heap w g cur _ e (0,0) hg
  ·rw[←h4,Array.toList_setIfInBounds]
   apply List.ext_getElem?
   intro i
   simp only[List.getElem?_take,List.getElem?_drop,List.getElem?_set,List.length_take,List.length_drop]
   by_cases hi:i<n
   ·rw[if_pos hi]
    by_cases hij:j=i
    ·subst hij
     rw[if_pos rfl,if_pos rfl,if_pos (by simp;omega),if_pos (by simp;omega)]
    ·rw[if_neg qo,if_neg hij,if_pos hi]
   ·rw[if_neg hi]
    by_cases hij:j=i
    ·subst hij
     rw[if_pos rfl,if_neg qo]
    ·rw[if_neg hij,if_neg hi]
theorem OwnAt.tail {g o cap:Nat}{x:Value}(h:OwnAt w B e (.slice (some ⟨g,o,none⟩) (n+1) cap) (n+1) (x::xs))(hc:¬cap=1):OwnAt w B e (.slice (some ⟨g,o+1,none⟩) n (cap-1)) n xs:=by
 refine⟨by have:=h.1;simpa using this,?_⟩
 rcases h.2 with⟨h',_⟩|⟨g',o',cap',cur,h',hB,hg,h1,h2,h3,h4⟩
 ·cases h'
 ·injection h' with h' _ h7
  injection h' with h';injection h' with h5 h6;subst h5 h6 h7;refine .inr ⟨g,o+1,cap-1,cur,rfl,hB,hg,by omega,by omega,by omega,?_⟩;have h8:((cur.toList.drop o).take (n+1)).drop 1=xs:=by rw[h4];rfl
  rw[List.drop_take,List.drop_drop]at h8;exact h8
theorem OwnAt.front {g o cap:Nat}(h:OwnAt w B e (.slice (some ⟨g,o,none⟩) n cap) n xs){k:Nat}(hk:k≤n):OwnAt w B e (.slice (some ⟨g,o,none⟩) k cap) k (xs.take k):=by
 refine⟨by rw[List.length_take,h.1];omega,?_⟩
 rcases h.2 with⟨h',_⟩|⟨g',o',cap',cur,h',hB,hg,h1,h2,h3,h4⟩
 ·cases h'
 ·injection h' with h' _ h7
  injection h' with h';injection h' with h5 h6;subst h5 h6 h7;refine .inr ⟨g,o,cap,cur,rfl,hB,hg,by omega,h2,h3,?_⟩;rw[←h4,List.take_take]
  congr 1
  omega
end
end Go.Proofs.YtmnbgjnipbpiaaaGreatDoor
namespace Go.Proofs.YtmnbgjnipbpiaaaGreatDoor.G
variable {n:Nat}
end Go.Proofs.YtmnbgjnipbpiaaaGreatDoor.G
namespace Go.Proofs.YtmnbgjnipbpiaaaGreatDoor
open Go
section
variable {P:Program}{Q:Exit→Act→World→Prop}{md:Region.Mode}
def l2 (P:Program)(st:Oper)(Q:Exit→Act→World→Prop):Exit→Act→World→Prop
 |.normal,a,w=>st.wp P a w (fun a' w'=>Q .normal a' w') Q
 |e,a,w=>Q e a w
theorem l2.of {st:Oper}{a:Act}{w:World}(h:st.wp P a w (fun a' w'=>Q .normal a' w') Q):l2 P st Q .normal a w:=h
variable {ops ops':Array Oper}{st:Oper}{k:Nat}
end
section
variable {P:Program}{Q:Exit→Act→World→Prop}{md:Region.Mode}{ops:Array Oper}{S:World→Prop}
theorem qt (i:Nat){oi:Oper}{v:Value}{fuel:Nat}{listed:Array Bool}{a:Act}{w:World}(hS:S w)
 (h:wpAnyH P md ops Q S fuel (listed.setIfInBounds i true) (a.put oi.dst v) w)
 (hi:ops[i]?=some oi:=by rfl) (hs:Region.noSelect ops=true:=by kernel_rfl) (hf:Region.free md ops listed i=true:=by kernel_rfl) (hr:(Region.ready md ops listed).contains i=true:=by kernel_rfl)
 (hQ:∀c a w,Q (.panic c) (a.put oi.dst v) w→Q (.panic c) a w:=by exact fun _ _ _ h=>h)
 (hg:Region.wanted oi (yielded ops a.tmps)=true:=by rfl) (hy:∀w,S w→(execOp a.eval oi).run P w=.ok (.value v) w:=by(intro w0 hSw;(try dsimp only at hSw);go_simp<;>with_reducible rfl)):
 wpAnyH P md ops Q S (fuel+1) listed a w:=wpAnyH_take hi hs hf hr hQ (Or.inl ⟨hg,hy⟩) hS h
end
end Go.Proofs.YtmnbgjnipbpiaaaGreatDoor
namespace Go.Proofs.YtmnbgjnipbpiaaaGreatDoor
open Go.RowKit
theorem jT (n:Int)(w:World):
 Calls Tryz.prog 103 #[.int .i64 n] w fun e w'=>e=.returned (.bool (a8 n 0 12))∧w=w':=by
 go_enter Tryz.func103,Tryz.ntmps103
 go_wp2_with ((go_at_call 104;refine(aR _ _ _ _).mono ?_;rintro e w' ⟨rfl,rfl⟩))
 go_ret
 exact⟨rfl,rfl⟩
end Go.Proofs.YtmnbgjnipbpiaaaGreatDoor
namespace Go.Proofs.YtmnbgjnipbpiaaaGreatDoor.G
theorem x7 (n:Nat):∀(f:Nat→Nat),(∀i,i<n→f i<n)→(∀i,i<n→∀j,j<n→f i=f j→i=j)→∀y,y<n→∃x,x<n∧f x=y:=by
 induction n with
 |zero=>intro f _ _ y hy;omega
 |succ n ih=>
  intro f hb hi y hy;have hne:∀i,i<n→f i≠f n:=fun i h e=>by have:=hi i qo n qo e;omega
  have h0:=hb n qo;have key:=ih (fun i=>if f i=n then f n else f i)
   (fun i h=>by
    have h1:=hb i qo;have h2:=hne i h
    split<;>omega)
   (fun i h j h'=>by
    have h1:=hne i h;have h2:=hne j h';intro e
    apply hi i qo j qo
    split at e<;>split at e<;>omega)
  by_cases hm:y=f n
  ·exact⟨n,by omega,hm.symm⟩
  ·by_cases hn:y=n
   ·obtain⟨x,hx,e⟩:=key (f n) qo
    have:=hne x hx;refine⟨x,by omega,?_⟩
    split at e
    ·omega
    ·exact absurd e this
   ·obtain⟨x,hx,e⟩:=key y qo
    refine⟨x,by omega,?_⟩
    split at e<;>omega
def dL (L:List Int)(k:Nat):Prop:=∀i,i<k→(0≤L.getD i 0∧L.getD i 0<L.length)∧∀j,j<i→L.getD j 0≠L.getD i 0
theorem dL.next {L:List Int}{k:Nat}(h:dL L k)(h1:0≤L.getD k 0∧L.getD k 0<L.length)(h2:∀j,j<k→L.getD j 0≠L.getD k 0):dL L (k+1):=by
 intro i hi
 rcases Nat.lt_or_ge i k with h'|h'
 ·exact h i h'
 ·obtain rfl:i=k:=qo
  exact⟨h1,h2⟩
theorem dL.inj {L:List Int}{k:Nat}(h:dL L k)(i j:Nat)(hi:i<k)(hj:j<k)(e:L.getD i 0=L.getD j 0):i=j:=by
 rcases Nat.lt_trichotomy i j with a|a|a
 ·exact absurd e ((h j hj).2 i a)
 ·exact a
 ·exact absurd e.symm ((h i hi).2 j a)
theorem dL.pm {L:List Int}{n:Nat}(hl:L.length=n)(h:dL L n):∃p:PM n,L=pl p:=by
 have hf:∀i,i<n→((L.getD i 0).toNat:Int)=L.getD i 0:=fun i hi=>by have:=(h i hi).1;omega
 have hs:=x7 n (fun i=>(L.getD i 0).toNat) (fun i hi=>by have:=(h i hi).1;omega)
  (fun i hi j hj e=>h.inj i j hi hj (by have:=hf i hi;have:=hf j hj;omega))
 have hs':∀y,∃x,(y<n→x<n∧(L.getD x 0).toNat=y)∧(¬y<n→x=y):=fun y=>by
  by_cases hy:y<n
  ·obtain⟨x,hx⟩:=hs y hy
   exact⟨x,fun _=>hx,fun h=>absurd hy h⟩
  ·exact⟨y,fun h=>absurd h hy,fun _=>rfl⟩
 let g:Nat→Nat:=fun y=>Classical.choose (hs' y)
 have hg:∀y,(y<n→g y<n∧(L.getD (g y) 0).toNat=y)∧(¬y<n→g y=y):=fun y=>Classical.choose_spec (hs' y)
 let f:Nat→Nat:=fun i=>if i<n then(L.getD i 0).toNat else i
 have fb:∀i,i<n→f i<n:=fun i hi=>by have:=(h i hi).1;show(if i<n then _ else _)<n;rw[if_pos hi];omega
 have fg:∀i,f (g i)=i:=fun i=>by
  by_cases hi:i<n
  ·show(if g i<n then _ else _)=i
   rw[if_pos ((hg i).1 hi).1];exact((hg i).1 hi).2
  ·show(if g i<n then _ else _)=i
   rw[(hg i).2 hi,if_neg hi]
 have gf:∀i,g (f i)=i:=fun i=>by
  by_cases hi:i<n
  ·have h1:=fb i hi
   have h2:=(hg (f i)).1 h1;have h3:f i=(L.getD i 0).toNat:=if_pos hi
   apply h.inj _ _ h2.1 hi
   have:=hf _ h2.1;have:=hf i hi;omega
  ·have:f i=i:=if_neg hi
   rw[this,(hg i).2 hi]
 refine⟨⟨f,g,gf,fg,fun i hi=>if_neg qo⟩,qE hl fun i hi=>?_⟩;show L.getD i 0=((if i<n then(L.getD i 0).toNat else i:Nat):Int);rw[if_pos hi,hf i hi]
end Go.Proofs.YtmnbgjnipbpiaaaGreatDoor.G
namespace Go.Proofs.YtmnbgjnipbpiaaaGreatDoor
open Go.RowKit
def rO (n:Nat)(z:Nat→Int):ByteArray:=strOfNums ((List.range n).map z)
theorem rK {W:World}{A:Option Addr}{n c:Nat}{z:Nat→Int}(h:Rd W A n (fun j=>.int .u8 (z j))):
 (convert 35 9 (.slice A n c)).run Tryz.prog W=.ok (.string (rO n z)) W:=by
 rcases Nat.eq_zero_or_pos n with h0|h0
 ·subst h0
  rcases A with _|⟨g,o,sp⟩
  ·exact run_convert_bytes_nil W 35 5 Tryz.underlying35 Tryz.underlying5 0 c 9 Tryz.underlying9
  ·rw[run_convert_bytes_string W 35 9 5 _ 0 c Tryz.underlying35 Tryz.underlying5 Tryz.underlying9]
   have hl:=run_loadCells_list (P:=Tryz.prog) W ⟨g,o,sp⟩ [] (fun j v hj=>by simp at hj);exact run_bytesToString W ⟨g,o,sp⟩ 0 c [] hl
 ·obtain⟨g,o,rfl,_,hr⟩:=h h0
  exact run_convert_bytes_arg W 35 5 Tryz.underlying35 Tryz.underlying5 g o n c _ qj (fun i hi=>(hr i hi).trans (by simp[List.getD,hi])) 9 Tryz.underlying9
def dec (n:Int):ByteArray:=⟨(Lib.itoa n).toArray⟩
def bY (u:Nat):List Int:=if _h:u=0 then []else bY (u/10)++[((48+u%10:Nat):Int)]
termination_by u
decreasing_by omega
theorem cW:bY 0=[]:=by rw[bY];simp
theorem cV {u:Nat}(h:0<u):bY u=bY (u/10)++[((48+u%10:Nat):Int)]:=by rw[bY,dif_neg qo]
theorem pX:∀u:Nat,0<u→(bY u).map (fun z=>UInt8.ofNat z.toNat)=Lib.decDigits u:=by
 intro u
 induction u using Nat.strongRecOn with
 |_ u ih=>
  intro h;rw[cV h,Lib.decDigits]
  by_cases h10:u<10
  ·rw[dif_pos h10,show u/10=0 by omega,cW]
   simp only[List.nil_append,List.map_cons,List.map_nil,Int.toNat_natCast,Nat.mod_eq_of_lt h10]
  ·rw[dif_neg h10,List.map_append,ih (u/10) qo qo]
   simp only[List.map_cons,List.map_nil,Int.toNat_natCast]
theorem eN:∀u k:Nat,u<10^k→(bY u).length≤k:=by
 intro u k
 induction k generalizing u with
 |zero=>
  intro h;obtain rfl:u=0:=by simpa using h
  rw[cW];simp
 |succ k ih=>
  intro h
  rcases Nat.eq_zero_or_pos u with h0|h0
  ·subst h0;rw[cW];simp
  ·rw[cV h0]
   have:=ih (u/10) (by rw[Nat.pow_succ]at h;omega)
   simp;omega
theorem eP (u:Nat)(h:0<u):strOfNums (bY u)=⟨(Lib.decDigits u).toArray⟩:=by
 unfold strOfNums;rw[←pX u h]
theorem kX:dec 0=⟨#[48]⟩:=by unfold dec Lib.itoa;rw[if_neg qo,Int.toNat_zero,Lib.decDigits_one qo];rfl
theorem mF (u:Nat)(h:0<u):dec (u:Int)=strOfNums (bY u):=by
 unfold dec Lib.itoa;rw[if_neg qo,Int.toNat_natCast,eP u h]
theorem mG (u:Nat)(h:0<u):dec (-(u:Int))=⟨#[45]⟩++strOfNums (bY u):=by
 unfold dec Lib.itoa;rw[if_pos qo,Int.natAbs_neg,Int.natAbs_natCast,eP u h]
 apply ByteArray.ext
 simp
def eS (l:List Int):List Value:=l.map (Value.int .u8)
theorem fD (l:List Int):∀u∈eS l,u.oneCell'=true:=fun u hu=>by
 obtain⟨x,_,rfl⟩:=List.mem_map.1 hu
 rfl
theorem info8:(Tryz.prog.info? 5).map (fun i=>(i.zero,i.size,i.bytes))=some (some (.int .u8 0),1,1):=by kernel_rfl
theorem kY {w:World}{B:Nat}{v:Value}{l:List Int}{n:Nat}(ho:w.ownsRow B 5 1 v n (eS l))(_:n≤maxLen):(convert 35 9 v).run Tryz.prog w=.ok (.string (strOfNums l)) w:=by
 obtain⟨A,c,rfl⟩:=cK ho;have hl:l.length=n:=by simpa [eS]using ho.1
 have hr:Rd w A n (fun j=>.int .u8 (l.getD j 0)):=fun h0=>by
  rcases ho.2 with⟨h1,h2⟩|⟨g,cap,cur,hv,hg,hh,_⟩
  ·injection h1 with h1 h3
   omega
  ·injection hv with hv
   subst hv;refine⟨g,0,rfl,(Array.getElem?_eq_some_iff.1 hh).1,fun j hj=>?_⟩;rw[Nat.zero_add,ho.cellAt j qo]
   simp[eS,List.getD,List.getElem?_eq_getElem (show j<l.length by omega)]
 have:=rK (c:=c) hr;rw[this]
 congr 2
 unfold rO
 congr 1
 apply List.ext_getElem
 ·simp[hl]
 ·intro i h1 h2
  simp[List.getD,List.getElem?_eq_getElem h2]
theorem n3 (u:Nat)(hu:u≤9223372036854775807)(w:World):
 Calls Tryz.prog 22 #[.int .i64 u] w fun e w'=>e=.returned (.string (dec u))∧Below w.heap.size w w':=by
 obtain⟨i0,hi,iz,is,ib⟩:=info_parts info8;have hlen:(bY u).length≤19:=eN u 19 qo;have HLEN:=qh hlen;clear hlen
 go_enter Tryz.func22,Tryz.ntmps22
 go_wp2_with fail
 go_loopw [3,4,5] (fun v k _ wr=>∃(m:Nat) (D:List Int),m≤u∧k=.int .i64 m∧Hq (bY u=bY m++D)∧wr.ownsRow w.heap.size 5 1 v D.length (eS D)∧Below w.heap.size w wr) (fun _ k _ _=>(intOf k).toNat)
 case atStart=>exact⟨u,[],Nat.le_refl _,rfl,by simp[Hq],World.ownsRow_made w #[] 0 ql qm rfl,qz⟩
 case round=>
  obtain⟨m,D,hm,rfl,HD,hown,hb⟩:=hrel;have hDl:D.length≤19:=by have:=HLEN.o;rw[HD.o]at this;simp at this;omega
  have HOWN:=qh hown;have HB:=qh hb;clear hown hb
  rcases Nat.eq_zero_or_pos m with hz|hpos
  ·subst hz
   have mJ:Hq (bY u=D):=by have:=HD.o;rw[cW]at this;exact this
   rcases Nat.eq_zero_or_pos u with h0|h0
   ·subst h0
    have:D=[]:=by have:=mJ.o;rw[cW]at this;exact this.symm
    subst this;obtain⟨A,c,rfl⟩:=cK HOWN.o
    go_wp2
    go_ret
    exact⟨by rw[Int.natCast_zero,kX];rfl,HB.o⟩
   ·have hD0:D≠[]:=by
     intro h;have:=mJ.o;rw[h,cV h0]at this;simp at this
    obtain⟨N,hN⟩:∃N,D.length=N+1:=⟨D.length-1,by cases D with|nil=>exact absurd rfl hD0|cons a l=>simp⟩;have kc:=kY HOWN.o qm;obtain⟨A,c,rfl⟩:=cK HOWN.o;have HC:Hq (strOfNums D=dec u):=by show strOfNums D=dec u;rw[mF u h0,mJ.o]
    rw[HC.o]at kc;rw[hN]at kc ⊢;clear hN hD0
    go_wp2
    go_ret
    exact⟨by rw[←HC.o];rfl,HB.o⟩
  ·have hm10:(0:Int)≤(m:Int):=qo
   go_wp2_with (at_builtin;go_must (refine dD (wr.alloc (.cells [Value.int .u8 (48+(m:Int)%10)].toArray 5)) rfl (.tmp 21) (.tmp 22) _ rfl w.heap.size 5 i0 _ 1 1 Tryz.underlying35 hi iz is ib rfl qo (.slice (some ⟨wr.heap.size,0,none⟩) 1 1) 1 [.int .u8 (48+(m:Int)%10)] (by rfl) (iE (base:=w.heap.size) (e:=5) (size:=1) wr [.int .u8 (48+(m:Int)%10)] 1 HB.o.size qm rfl) _ u3 D.length _ (by rfl) (HOWN.o.alloc _) (fD _) qm qo (by have:=HB.o.size;simp;omega) ?_);intro v' w' hown' hb';obtain⟨A',c',rfl⟩:=cK hown';have HOWN':=qh hown';have i8:=qh ((HB.o.alloc HB.o.size _).trans hb');clear hown' hb')
   go_wp2
   go_roundw
   case rel=>
    refine⟨m/10,((48+m%10:Nat):Int)::D,by omega,qg,?_,?_,i8.o⟩
    ·show _=_
     rw[HD.o,cV hpos];simp
    ·have:=HOWN'.o
     have e:((48+m%10:Nat):Int)=48+(m:Int)%10:=qo;rw[show(((48+m%10:Nat):Int)::D).length=1+D.length by simp[Nat.add_comm],e];exact this
   case measure=>exact qs
theorem n4 (u:Nat)(h0:0<u)(hu:u≤9223372036854775808)(w:World):
 Calls Tryz.prog 22 #[.int .i64 (-(u:Int))] w fun e w'=>e=.returned (.string (dec (-(u:Int))))∧Below w.heap.size w w':=by
 obtain⟨i0,hi,iz,is,ib⟩:=info_parts info8;have hlen:(bY u).length≤19:=eN u 19 qo;have HLEN:=qh hlen;clear hlen
 go_enter Tryz.func22,Tryz.ntmps22
 go_wp2_with fail
 go_loopw [3,4,5] (fun v k _ wr=>∃(m:Nat) (D:List Int),m≤u∧k=.int .i64 (-(m:Int))∧Hq (bY u=bY m++D)∧wr.ownsRow w.heap.size 5 1 v D.length (eS D)∧Below w.heap.size w wr) (fun _ k _ _=>(-(intOf k)).toNat)
 case atStart=>exact⟨u,[],Nat.le_refl _,rfl,by simp[Hq],World.ownsRow_made w #[] 0 ql qm rfl,qz⟩
 case round=>
  obtain⟨m,D,hm,rfl,HD,hown,hb⟩:=hrel;have hDl:D.length≤19:=by have:=HLEN.o;rw[HD.o]at this;simp at this;omega
  have HOWN:=qh hown;have HB:=qh hb;clear hown hb
  rcases Nat.eq_zero_or_pos m with hz|hpos
  ·subst hz
   have mJ:Hq (bY u=D):=by have:=HD.o;rw[cW]at this;exact this
   have hD0:D≠[]:=by
    intro h;have:=mJ.o;rw[h,cV h0]at this;simp at this
   obtain⟨N,hN⟩:∃N,D.length=N+1:=⟨D.length-1,by cases D with|nil=>exact absurd rfl hD0|cons a l=>simp⟩;have kc:=kY HOWN.o qm;obtain⟨A,c,rfl⟩:=cK HOWN.o;have HC:Hq (⟨#[45]⟩++strOfNums D=dec (-(u:Int))):=by show _=_;rw[mG u h0,mJ.o]
   have hz:strOfNums D=strOfNums D:=rfl;obtain⟨S,hS⟩:=qx (strOfNums D);have HS:Hq (S.size=N+1):=by show S.size=N+1;rw[hS,←hN];simp[strOfNums,ByteArray.size]
   rw[←hS]at kc HC;rw[hN]at kc ⊢;have hu0: -(u:Int)<0:=qo;have hsz:S.size≤20:=by have:=HS.o;omega
   clear hN hD0 hz hS
   go_wp2
   go_ret
   exact⟨by rw[←HC.o];rfl,HB.o⟩
  ·have hm1:(m:Int)≤9223372036854775808:=qo
   have hq:(-(m:Int)).tmod 10= -((m%10:Nat):Int):=by rw[Int.neg_tmod,Int.tmod_eq_emod_of_nonneg qo];omega
   have hd:(-(m:Int)).tdiv 10= -((m/10:Nat):Int):=by rw[Int.neg_tdiv,Int.tdiv_eq_ediv_of_nonneg qo];omega
   have hne:((-(m:Int))==0)=false:=by simp;omega
   have hb0:((m%10:Nat):Int)≤9:=qo;have hb1:0≤((m%10:Nat):Int):=qo;have HX:Hq (((48+m%10:Nat):Int)=48+((m%10:Nat):Int)):=by show _=_;omega
   obtain⟨q,hq'⟩:∃q:Nat,q=m%10:=⟨_,rfl⟩;rw[←hq']at hq hb0 hb1;rw[←hq']at HX;have HQ:=qh hq';clear hq'
   rcases Nat.eq_zero_or_pos q with hq0|hq0
   ·subst hq0
    go_wp2_with (at_builtin;go_must (refine dD (wr.alloc (.cells [Value.int .u8 (48)].toArray 5)) rfl (.tmp 21) (.tmp 22) _ rfl w.heap.size 5 i0 _ 1 1 Tryz.underlying35 hi iz is ib rfl qo (.slice (some ⟨wr.heap.size,0,none⟩) 1 1) 1 [.int .u8 (48)] (by rfl) (iE (base:=w.heap.size) (e:=5) (size:=1) wr [.int .u8 (48)] 1 HB.o.size qm rfl) _ u3 D.length _ (by rfl) (HOWN.o.alloc _) (fD _) qm qo (by have:=HB.o.size;simp;omega) ?_);intro v' w' hown' hb';obtain⟨A',c',rfl⟩:=cK hown';have HOWN':=qh hown';have i8:=qh ((HB.o.alloc HB.o.size _).trans hb');clear hown' hb')
    go_wp2
    go_roundw
    case rel=>
     refine⟨m/10,((48+m%10:Nat):Int)::D,by omega,by first|exact congrArg (Value.int .i64) hd|go_num,?_,?_,i8.o⟩
     ·show _=_
      rw[HD.o,cV hpos];simp
     ·have:=HOWN'.o
      have e:((48+m%10:Nat):Int)=48:=by have:=HX.o;have:=HQ.o;omega
      rw[show(((48+m%10:Nat):Int)::D).length=1+D.length by simp[Nat.add_comm],e];exact this
    case measure=>simp[intOf];omega
   ·have hneg: -(q:Int)<0:=qo
    go_wp2_with (at_builtin;go_must (refine dD (wr.alloc (.cells [Value.int .u8 (48+(q:Int))].toArray 5)) rfl (.tmp 21) (.tmp 22) _ rfl w.heap.size 5 i0 _ 1 1 Tryz.underlying35 hi iz is ib rfl qo (.slice (some ⟨wr.heap.size,0,none⟩) 1 1) 1 [.int .u8 (48+(q:Int))] (by rfl) (iE (base:=w.heap.size) (e:=5) (size:=1) wr [.int .u8 (48+(q:Int))] 1 HB.o.size qm rfl) _ u3 D.length _ (by rfl) (HOWN.o.alloc _) (fD _) qm qo (by have:=HB.o.size;simp;omega) ?_);intro v' w' hown' hb';obtain⟨A',c',rfl⟩:=cK hown';have HOWN':=qh hown';have i8:=qh ((HB.o.alloc HB.o.size _).trans hb');clear hown' hb')
    go_wp2
    go_roundw
    case rel=>
     refine⟨m/10,((48+m%10:Nat):Int)::D,by omega,by first|exact congrArg (Value.int .i64) hd|go_num,?_,?_,i8.o⟩
     ·show _=_
      rw[HD.o,cV hpos];simp
     ·have:=HOWN'.o
      have e:((48+m%10:Nat):Int)=48+(q:Int):=by have:=HX.o;have:=HQ.o;omega
      rw[show(((48+m%10:Nat):Int)::D).length=1+D.length by simp[Nat.add_comm],e];exact this
    case measure=>simp[intOf];omega
theorem bK (n:Int)(h0: -9223372036854775808≤n)(h1:n≤9223372036854775807)(w:World):
 Calls Tryz.prog 22 #[.int .i64 n] w fun e w'=>e=.returned (.string (dec n))∧Below w.heap.size w w':=by
 rcases Int.lt_or_le n 0 with h|h
 ·obtain⟨u,rfl⟩:∃u:Nat,n= -(u:Int):=⟨n.natAbs,by omega⟩
  exact n4 u qo qo w
 ·obtain⟨u,rfl⟩:∃u:Nat,n=(u:Int):=⟨n.toNat,by omega⟩
  exact n3 u qo w
theorem bN (n:Int)(h0: -9223372036854775808≤n)(h1:n≤9223372036854775807):(dec n).size≤20:=by
 have key:∀u:Nat,u≤9223372036854775808→(strOfNums (bY u)).size≤19:=fun u hu=>by
  have:=eN u 19 qo
  simpa [strOfNums,ByteArray.size]using this
 rcases Int.lt_or_le n 0 with h|h
 ·obtain⟨u,rfl⟩:∃u:Nat,n= -(u:Int):=⟨n.natAbs,by omega⟩
  rw[mG u qo,ByteArray.size_append];have:=key u qo;have:(⟨#[45]⟩:ByteArray).size=1:=rfl;omega
 ·obtain⟨u,rfl⟩:∃u:Nat,n=(u:Int):=⟨n.toNat,by omega⟩
  rcases Nat.eq_zero_or_pos u with hz|hz
  ·subst hz
   rw[Int.natCast_zero,kX];have:(⟨#[48]⟩:ByteArray).size=1:=rfl;omega
  ·rw[mF u hz]
   have:=key u qo;omega
end Go.Proofs.YtmnbgjnipbpiaaaGreatDoor
namespace Go.Proofs
open Go.Shelf
def Tryz.laysM173_ren:Go.Shelf.Ren:=⟨fun|173=>113|246=>146|283=>161|284=>162|285=>163|286=>164|129=>171|317=>170|318=>172|319=>173|320=>174|337=>179|338=>180|n=>n,fun|2=>2|3=>3|9=>9|4=>4|171=>168|0=>0|53=>118|37=>35|5=>5|173=>171|212=>178|51=>179|20=>20|213=>180|46=>164|232=>190|233=>191|n=>n,fun|17=>0|18=>4|19=>5|n=>n⟩
theorem Tryz.laysM173:Go.Proofs.LaysM.n173 Tryz.prog Tryz.laysM173_ren:={
 mixed:=by kernel_rfl
 f129:=Tryz.func171.trans (congrArg some (by kernel_rfl))
 f173:=Tryz.func113.trans (congrArg some (by kernel_rfl))
 f246:=Tryz.func146.trans (congrArg some (by kernel_rfl))
 f283:=Tryz.func161.trans (congrArg some (by kernel_rfl))
 f284:=Tryz.func162.trans (congrArg some (by kernel_rfl))
 f285:=Tryz.func163.trans (congrArg some (by kernel_rfl))
 f286:=Tryz.func164.trans (congrArg some (by kernel_rfl))
 f317:=Tryz.func170.trans (congrArg some (by kernel_rfl))
 f318:=Tryz.func172.trans (congrArg some (by kernel_rfl))
 f319:=Tryz.func173.trans (congrArg some (by kernel_rfl))
 f320:=Tryz.func174.trans (congrArg some (by kernel_rfl))
 f337:=Tryz.func179.trans (congrArg some (by kernel_rfl))
 f338:=Tryz.func180.trans (congrArg some (by kernel_rfl))
 t0:=Tryz.underlying0
 a0:=Tryz.isAgg0
 z0:=Tryz.sizeOf0
 v0:=Tryz.zeroValue0
 t2:=Tryz.underlying2
 a2:=Tryz.isAgg2
 z2:=Tryz.sizeOf2
 v2:=Tryz.zeroValue2
 t3:=Tryz.underlying3
 a3:=Tryz.isAgg3
 z3:=Tryz.sizeOf3
 v3:=Tryz.zeroValue3
 t4:=Tryz.underlying4
 a4:=Tryz.isAgg4
 z4:=Tryz.sizeOf4
 v4:=Tryz.zeroValue4
 t5:=Tryz.underlying5
 a5:=Tryz.isAgg5
 z5:=Tryz.sizeOf5
 v5:=Tryz.zeroValue5
 t9:=Tryz.underlying9
 a9:=Tryz.isAgg9
 z9:=Tryz.sizeOf9
 v9:=Tryz.zeroValue9
 t20:=Tryz.underlying20
 a20:=Tryz.isAgg20
 z20:=Tryz.sizeOf20
 v20:=Tryz.zeroValue20
 t37:=Tryz.underlying35
 a37:=Tryz.isAgg35
 z37:=Tryz.sizeOf35
 v37:=Tryz.zeroValue35
 t46:=Tryz.underlying164
 a46:=Tryz.isAgg164
 z46:=Tryz.sizeOf164
 v46:=Tryz.zeroValue164
 t51:=Tryz.underlying179
 a51:=Tryz.isAgg179
 z51:=Tryz.sizeOf179
 v51:=Tryz.zeroValue179
 t53:=Tryz.underlying118
 a53:=Tryz.isAgg118
 z53:=Tryz.sizeOf118
 v53:=Tryz.zeroValue118
 t171:=Tryz.underlying168
 a171:=Tryz.isAgg168
 z171:=Tryz.sizeOf168
 v171:=Tryz.zeroValue168
 t173:=Tryz.underlying171
 a173:=Tryz.isAgg171
 z173:=Tryz.sizeOf171
 v173:=Tryz.zeroValue171
 t212:=Tryz.underlying178
 a212:=Tryz.isAgg178
 z212:=Tryz.sizeOf178
 v212:=Tryz.zeroValue178
 t213:=Tryz.underlying180
 a213:=Tryz.isAgg180
 z213:=Tryz.sizeOf180
 t232:=Tryz.underlying190
 a232:=Tryz.isAgg190
 z232:=Tryz.sizeOf190
 v232:=Tryz.zeroValue190
 t233:=Tryz.underlying191
 a233:=Tryz.isAgg191
 z233:=Tryz.sizeOf191
 v233:=Tryz.zeroValue191
 g17:=by kernel_rfl
 g18:=by kernel_rfl
 g19:=by kernel_rfl
 i0:=by kernel_rfl
 i2:=by kernel_rfl
 i3:=by kernel_rfl
 i4:=by kernel_rfl
 i5:=by kernel_rfl
 i9:=by kernel_rfl
 i20:=by kernel_rfl
 i37:=by kernel_rfl
 i46:=by kernel_rfl
 i51:=by kernel_rfl
 i53:=by kernel_rfl
 i171:=by kernel_rfl
 i173:=by kernel_rfl
 i212:=by kernel_rfl
 i232:=by kernel_rfl
 i233:=by kernel_rfl
 m17:=by kernel_rfl
 m18:=by kernel_rfl
 m19:=by kernel_rfl}
open Go.RowKit Go.Sort Go.Lib in
theorem Tryz.strconv_FormatInt_10 (n:Int)(h0: -9223372036854775808≤n)(h1:n≤9223372036854775807)(w:World)(htab:Lib.TabIs Tryz.prog w "internal/strconv.uint64pow10" .u64 Lib.pow10Tab):
 Calls Tryz.prog 113 #[.int .i64 n,.int .i64 10] w fun e w'=>e=.returned (.string ⟨(Lib.itoa n).toArray⟩)∧∃k os,w'=grow (w.drewN k) os:=Any.strconv_FormatInt_10 Tryz.laysM173 n h0 h1 w htab
end Go.Proofs
namespace Go.Proofs.YtmnbgjnipbpiaaaGreatDoor
open Go.RowKit Go.Joins Go.Sort
def Tab (w:World):Prop:=Lib.TabIs Tryz.prog w "internal/strconv.uint64pow10" .u64 Lib.pow10Tab
theorem sG:Tryz.prog.globalNamed "internal/strconv.uint64pow10" =some 0:=by kernel_rfl
theorem Tab.below {w w':World}(h:Tab w)(hb:Below w.heap.size w w'):Tab w':=by
 exact tab_stays sG h hb ql
theorem Tab.base {w w':World}{B:Nat}(h:Tab w)(hb:Below B w w')(hB:w.heap.size≤B):Tab w':=h.below (hb.mono hB)
theorem below_grow (w:World)(k:Nat)(os:Array Obj):Below w.heap.size w (grow (w.drewN k) os):=
 ⟨rfl,rfl,rfl,by simp[grow],fun b hb=>by
  have hb':b<w.heap.size:=hb
  simp[grow,Array.getElem?_append,hb']⟩
theorem aE (n:Int)(h0: -9223372036854775808≤n)(h1:n≤9223372036854775807)(w:World)(ht:Tab w):
 Calls Tryz.prog 62 #[.int .i64 n] w fun e w'=>e=.returned (.string (dec n))∧Below w.heap.size w w':=by
 have HT:=qh ht;clear ht
 go_enter Tryz.func62,Tryz.ntmps62
 go_wp2_with fail
 refine(Tryz.strconv_FormatInt_10 n h0 h1 _ HT.o).mono ?_;rintro e w1 ⟨rfl,k,os,rfl⟩
 go_wp2
 go_ret
 exact⟨rfl,below_grow w k os⟩
end Go.Proofs.YtmnbgjnipbpiaaaGreatDoor
namespace Go.Proofs
open Go.Shelf
def Tryz.lays156_ren:Go.Shelf.Ren:=⟨fun|156=>65|165=>115|166=>28|169=>31|240=>61|241=>150|276=>112|277=>169|n=>n,fun|31=>107|9=>9|3=>3|4=>4|0=>0|20=>20|72=>66|76=>69|70=>64|37=>35|75=>68|127=>117|164=>143|5=>5|80=>73|n=>n,fun|n=>n⟩
theorem Tryz.lays156:Go.Proofs.Lays.n156 Tryz.prog Tryz.lays156_ren:={
 mixed:=by kernel_rfl
 f156:=Tryz.func65.trans (congrArg some (by kernel_rfl))
 f165:=Tryz.func115.trans (congrArg some (by kernel_rfl))
 f166:=Tryz.func28.trans (congrArg some (by kernel_rfl))
 f169:=Tryz.func31.trans (congrArg some (by kernel_rfl))
 f240:=Tryz.func61.trans (congrArg some (by kernel_rfl))
 f241:=Tryz.func150.trans (congrArg some (by kernel_rfl))
 f276:=Tryz.func112.trans (congrArg some (by kernel_rfl))
 f277:=Tryz.func169.trans (congrArg some (by kernel_rfl))
 t0:=Tryz.underlying0
 a0:=Tryz.isAgg0
 z0:=Tryz.sizeOf0
 v0:=Tryz.zeroValue0
 t3:=Tryz.underlying3
 a3:=Tryz.isAgg3
 z3:=Tryz.sizeOf3
 v3:=Tryz.zeroValue3
 t4:=Tryz.underlying4
 a4:=Tryz.isAgg4
 z4:=Tryz.sizeOf4
 v4:=Tryz.zeroValue4
 t9:=Tryz.underlying9
 a9:=Tryz.isAgg9
 z9:=Tryz.sizeOf9
 v9:=Tryz.zeroValue9
 t20:=Tryz.underlying20
 a20:=Tryz.isAgg20
 z20:=Tryz.sizeOf20
 v20:=Tryz.zeroValue20
 t31:=Tryz.underlying107
 a31:=Tryz.isAgg107
 z31:=Tryz.sizeOf107
 v31:=Tryz.zeroValue107
 t37:=Tryz.underlying35
 a37:=Tryz.isAgg35
 z37:=Tryz.sizeOf35
 v37:=Tryz.zeroValue35
 t70:=Tryz.underlying64
 a70:=Tryz.isAgg64
 z70:=Tryz.sizeOf64
 v70:=Tryz.zeroValue64
 t72:=Tryz.underlying66
 a72:=Tryz.isAgg66
 z72:=Tryz.sizeOf66
 v72:=Tryz.zeroValue66
 t75:=Tryz.underlying68
 a75:=Tryz.isAgg68
 z75:=Tryz.sizeOf68
 v75:=Tryz.zeroValue68
 t76:=Tryz.underlying69
 a76:=Tryz.isAgg69
 z76:=Tryz.sizeOf69
 v76:=Tryz.zeroValue69
 t127:=Tryz.underlying117
 a127:=Tryz.isAgg117
 z127:=Tryz.sizeOf117
 v127:=Tryz.zeroValue117
 t164:=Tryz.underlying143
 a164:=Tryz.isAgg143
 z164:=Tryz.sizeOf143
 v164:=Tryz.zeroValue143}
theorem Tryz.Builder_Extra_156:Builder.Extra Tryz.prog Tryz.lays156_ren:={
 sizeBuilder:=by kernel_rfl
 liesBuilder:=by kernel_rfl
 t5:=Tryz.underlying5
 a5:=Tryz.isAgg5
 z5:=Tryz.sizeOf5
 v5:=Tryz.zeroValue5
 infoByte:=by kernel_rfl
 cellsByte:=by kernel_rfl
 sizeByte:=by kernel_rfl
 neB5:=by decide}
open Go.RowKit in
theorem Tryz.strings_Join_none (a:Option Addr)(c:Nat)(sep:ByteArray)(w:World):
 Calls Tryz.prog 65 #[.slice a 0 c,.string sep] w fun e w'=>e=.returned (.string ⟨#[]⟩)∧w'=w:=Any.strings_Join_none Tryz.lays156 Tryz.Builder_Extra_156 a c sep w
open Go.RowKit in
theorem Tryz.strings_Join (bk o c:Nat)(xs:List ByteArray)(sep:ByteArray)(w:World)(hcells:∀(j:Nat) x,xs[j]?=some x→w.cell? ⟨bk,o+j,none⟩=some (.string x))(hbk:bk<w.heap.size)(hN:xs.length≤140737488355328)(hcap:xs.length≤c)(hlen:(Lib.join (xs.map (·.data.toList)) sep.data.toList).length≤140737488355328):
 Calls Tryz.prog 65 #[.slice (some ⟨bk,o,none⟩) xs.length c,.string sep] w fun e w'=>e=.returned (.string ⟨(Lib.join (xs.map (·.data.toList)) sep.data.toList).toArray⟩)∧Below w.heap.size w w':=Any.strings_Join Tryz.lays156 Tryz.Builder_Extra_156 bk o c xs sep w hcells hbk hN hcap hlen
end Go.Proofs
namespace Go.Proofs.YtmnbgjnipbpiaaaGreatDoor
open Go.RowKit
def nF (n:Int):Prop:=-9223372036854775808≤n∧n≤9223372036854775807
def d6 (z:Nat→Int)(n:Nat):ByteArray:=⟨(Lib.join ((List.range n).map fun j=>(dec (z j)).data.toList) [32]).toArray⟩
def fA (z:Nat→Int)(n:Nat):List Value:=(List.range n).map fun j=>.string (dec (z j))
theorem nD (z:Nat→Int)(n:Nat):fA z (n+1)=fA z n++[.string (dec (z n))]:=by simp[fA,List.range_succ]
theorem lQ (r:List (List UInt8))(h:∀x∈r,x.length≤20):(Lib.joinTail [32] r).length≤r.length*21:=by
 induction r with
 |nil=>simp[Lib.joinTail]
 |cons x r ih=>
  have h1:=ih fun y hy=>h y (by simp[hy]);have h2:=h x qj
  simp only[Lib.joinTail,List.map_cons,List.flatten_cons,List.length_append,List.length_cons,List.length_nil]at h1 ⊢
  omega
theorem join_le (xs:List (List UInt8))(h:∀x∈xs,x.length≤20):(Lib.join xs [32]).length≤xs.length*21:=by
 cases xs with
 |nil=>simp[Lib.join_nil]
 |cons x r=>
  rw[Lib.join_cons];have h1:=lQ r fun y hy=>h y (by simp[hy]);have h2:=h x qj
  simp only[List.length_append,List.length_cons]
  omega
theorem iG:(Tryz.prog.info? 9).map (fun i=>(i.zero,i.size,i.bytes))=some (some (.string ByteArray.empty),1,16):=by kernel_rfl
theorem j8 (z:Nat→Int)(n:Nat)(hz:∀j,j<n→nF (z j)):∀x∈(List.range n).map fun j=>(dec (z j)).data.toList,x.length≤20:=fun x hx=>by
 obtain⟨j,hj,rfl⟩:=List.mem_map.1 hx;have hb:=hz j (by simpa using hj);have:=bN (z j) hb.1 hb.2;show(dec (z j)).data.toList.length≤20;rw[Array.length_toList];exact this
theorem nE (z:Nat→Int)(n:Nat)(hz:∀j,j<n→nF (z j)):(d6 z n).size≤n*21:=by
 have:=join_le _ (j8 z n hz);rw[List.length_map,List.length_range]at this;exact this
theorem kW (A:OA)(n c:Nat)(z:Nat→Int)(w:World)(ha:Rd w A n (fun j=>.int .i64 (z j)))(hn:n≤1048576)(hz:∀j,j<n→nF (z j))(ht:Tab w):
 Calls Tryz.prog 64 #[.slice A n c] w fun e w'=>e=.returned (.string (d6 z n))∧Below w.heap.size w w':=by
 obtain⟨i0,hi,iz,is,ib⟩:=info_parts iG;have HA:=qh ha;have HZ:=qh hz;have HT:=qh ht;clear ha hz ht
 go_enter Tryz.func64,Tryz.ntmps64
 go_wp2_with fail
 go_loopw [3,5,9] (fun v _ i wr=>∃j:Nat,j≤n∧i=.int .i64 j∧wr.ownsRow w.heap.size 9 1 v j (fA z j)∧Below w.heap.size w wr) (fun _ _ i _=>n-(intOf i).toNat)
 case atStart=>exact⟨0,Nat.zero_le _,rfl,World.ownsRow_made w #[] 0 ql qm rfl,qz⟩
 case round=>
  obtain⟨j,hj,rfl,hown,hb⟩:=hrel;have HOWN:=qh hown;have HB:=qh hb
  by_cases hlt:j<n
  ·obtain⟨g,a0,rfl,hg,hra⟩:=HA.o qo
   have hcw:=((aA HB.o).1 _ _ hg).trans (hra j hlt);clear hra hown hb;obtain⟨x,hx⟩:=qx (z j);have hxb:=HZ.o j hlt
   simp only[←hx]at hcw hxb
   have HX:=qh hx;have HXB:=qh hxb;clear hx hxb
   go_wp2_with (first
    |(go_at_call 62;refine(aE x HXB.o.1 HXB.o.2 _ (HT.o.below HB.o)).mono ?_;rintro e w2 ⟨rfl,hb2⟩;have HB2:=HB.st hb2;have tX:=qh (own_below HOWN.o hb2);clear hb2)
    |(at_builtin;go_must (refine aC w2 rfl (.tmp 13) (.tmp 16) _ rfl w.heap.size 9 i0 _ 1 16 Tryz.underlying107 hi iz is ib rfl qo u3 j (fA z j) rfl tX.o _ 1 1 _ rfl rfl (by simp[Value.oneCell']) qm qo HB2.o.size ?_);intro v' w' hown' hb';have HOWN':=qh hown';have i8:=qh (HB2.o.trans hb');clear hown' hb'))
   go_roundw
   case rel=>exact⟨j+1,by omega,qg,by rw[nD,←HX.o];exact HOWN'.o,i8.o⟩
   case measure=>exact qs
  ·obtain rfl:n=j:=qo
   have hlen:=join_le _ (j8 z n HZ.o)
   rcases hown.2 with⟨rfl,hnil⟩|⟨g,cap,cur,rfl,hg,hh,hnc,hmax,_⟩
   ·have hn0:n=0:=by simpa [fA]using hnil
    subst hn0;clear hb hown hlen hnil
    go_wp2_with fail
    refine(Tryz.strings_Join_none none 0 _ _).mono ?_;rintro e w2 ⟨rfl,rfl⟩
    go_wp2
    go_ret
    exact⟨by simp[d6,Lib.join_nil],HB.o⟩
   ·rcases Nat.eq_zero_or_pos n with hz0|hpos
    ·subst hz0
     clear hb hown hlen
     go_wp2_with fail
     refine(Tryz.strings_Join_none _ _ _ _).mono ?_;rintro e w2 ⟨rfl,rfl⟩
     go_wp2
     go_ret
     exact⟨by simp[d6,Lib.join_nil],HB.o⟩
    ·have hxs:((List.range n).map fun j=>dec (z j)).length=n:=by simp
     have hJ:=Tryz.strings_Join g 0 cap ((List.range n).map fun j=>dec (z j)) ⟨#[32]⟩ wr (fun j x hx=>by
      obtain⟨hj',hx'⟩:=List.getElem?_eq_some_iff.1 hx;rw[hxs]at hj';rw[Nat.zero_add,hown.cellAt j qo]
      simp at hx'
      simp[fA,hj',hx']) (Array.getElem?_eq_some_iff.1 hh).1 (by rw[hxs];omega) (by rw[hxs];exact hnc) (by simp only[List.map_map]at*;simp at hlen ⊢;exact Nat.le_trans hlen qo)
     rw[hxs]at hJ;have HJ:=qh hJ;clear hb hown hlen hh hJ hxs
     go_wp2_with fail
     refine HJ.o.mono ?_;rintro e w2 ⟨rfl,hb2⟩;have HB2:=HB.st hb2;clear hb2
     go_wp2
     go_ret
     exact⟨by simp[d6,Function.comp_def],HB2.o⟩
end Go.Proofs.YtmnbgjnipbpiaaaGreatDoor
namespace Go.Proofs
open Go.Shelf
def Tryz.lays155_ren:Go.Shelf.Ren:=⟨fun|155=>63|154=>114|138=>147|165=>115|143=>148|166=>28|197=>149|169=>31|195=>165|218=>166|240=>61|241=>150|219=>167|260=>168|276=>112|277=>169|217=>175|225=>176|224=>177|267=>178|266=>181|314=>182|n=>n,fun|9=>9|3=>3|4=>4|72=>66|0=>0|76=>69|105=>162|21=>21|5=>5|70=>64|20=>20|37=>35|75=>68|127=>117|164=>143|46=>164|119=>183|139=>186|138=>185|146=>188|51=>179|80=>73|n=>n,fun|1=>1|3=>2|4=>3|n=>n⟩
theorem Tryz.lays155:Go.Proofs.Lays.n155 Tryz.prog Tryz.lays155_ren:={
 mixed:=by kernel_rfl
 f138:=Tryz.func147.trans (congrArg some (by kernel_rfl))
 f143:=Tryz.func148.trans (congrArg some (by kernel_rfl))
 f154:=Tryz.func114.trans (congrArg some (by kernel_rfl))
 f155:=Tryz.func63.trans (congrArg some (by kernel_rfl))
 f165:=Tryz.func115.trans (congrArg some (by kernel_rfl))
 f166:=Tryz.func28.trans (congrArg some (by kernel_rfl))
 f169:=Tryz.func31.trans (congrArg some (by kernel_rfl))
 f195:=Tryz.func165.trans (congrArg some (by kernel_rfl))
 f197:=Tryz.func149.trans (congrArg some (by kernel_rfl))
 f217:=Tryz.func175.trans (congrArg some (by kernel_rfl))
 f218:=Tryz.func166.trans (congrArg some (by kernel_rfl))
 f219:=Tryz.func167.trans (congrArg some (by kernel_rfl))
 f224:=Tryz.func177.trans (congrArg some (by kernel_rfl))
 f225:=Tryz.func176.trans (congrArg some (by kernel_rfl))
 f240:=Tryz.func61.trans (congrArg some (by kernel_rfl))
 f241:=Tryz.func150.trans (congrArg some (by kernel_rfl))
 f260:=Tryz.func168.trans (congrArg some (by kernel_rfl))
 f266:=Tryz.func181.trans (congrArg some (by kernel_rfl))
 f267:=Tryz.func178.trans (congrArg some (by kernel_rfl))
 f276:=Tryz.func112.trans (congrArg some (by kernel_rfl))
 f277:=Tryz.func169.trans (congrArg some (by kernel_rfl))
 f314:=Tryz.func182.trans (congrArg some (by kernel_rfl))
 t0:=Tryz.underlying0
 a0:=Tryz.isAgg0
 z0:=Tryz.sizeOf0
 v0:=Tryz.zeroValue0
 t3:=Tryz.underlying3
 a3:=Tryz.isAgg3
 z3:=Tryz.sizeOf3
 v3:=Tryz.zeroValue3
 t4:=Tryz.underlying4
 a4:=Tryz.isAgg4
 z4:=Tryz.sizeOf4
 v4:=Tryz.zeroValue4
 t5:=Tryz.underlying5
 a5:=Tryz.isAgg5
 z5:=Tryz.sizeOf5
 v5:=Tryz.zeroValue5
 t9:=Tryz.underlying9
 a9:=Tryz.isAgg9
 z9:=Tryz.sizeOf9
 v9:=Tryz.zeroValue9
 t20:=Tryz.underlying20
 a20:=Tryz.isAgg20
 z20:=Tryz.sizeOf20
 v20:=Tryz.zeroValue20
 t21:=Tryz.underlying21
 a21:=Tryz.isAgg21
 z21:=Tryz.sizeOf21
 v21:=Tryz.zeroValue21
 t37:=Tryz.underlying35
 a37:=Tryz.isAgg35
 z37:=Tryz.sizeOf35
 v37:=Tryz.zeroValue35
 t46:=Tryz.underlying164
 a46:=Tryz.isAgg164
 z46:=Tryz.sizeOf164
 v46:=Tryz.zeroValue164
 t51:=Tryz.underlying179
 a51:=Tryz.isAgg179
 z51:=Tryz.sizeOf179
 v51:=Tryz.zeroValue179
 t70:=Tryz.underlying64
 a70:=Tryz.isAgg64
 z70:=Tryz.sizeOf64
 v70:=Tryz.zeroValue64
 t72:=Tryz.underlying66
 a72:=Tryz.isAgg66
 z72:=Tryz.sizeOf66
 v72:=Tryz.zeroValue66
 t75:=Tryz.underlying68
 a75:=Tryz.isAgg68
 z75:=Tryz.sizeOf68
 v75:=Tryz.zeroValue68
 t76:=Tryz.underlying69
 a76:=Tryz.isAgg69
 z76:=Tryz.sizeOf69
 v76:=Tryz.zeroValue69
 t105:=Tryz.underlying162
 a105:=Tryz.isAgg162
 z105:=Tryz.sizeOf162
 v105:=Tryz.zeroValue162
 t119:=Tryz.underlying183
 a119:=Tryz.isAgg183
 z119:=Tryz.sizeOf183
 t127:=Tryz.underlying117
 a127:=Tryz.isAgg117
 z127:=Tryz.sizeOf117
 v127:=Tryz.zeroValue117
 t138:=Tryz.underlying185
 a138:=Tryz.isAgg185
 z138:=Tryz.sizeOf185
 v138:=Tryz.zeroValue185
 t139:=Tryz.underlying186
 a139:=Tryz.isAgg186
 z139:=Tryz.sizeOf186
 v139:=Tryz.zeroValue186
 t146:=Tryz.underlying188
 a146:=Tryz.isAgg188
 z146:=Tryz.sizeOf188
 v146:=Tryz.zeroValue188
 t164:=Tryz.underlying143
 a164:=Tryz.isAgg143
 z164:=Tryz.sizeOf143
 v164:=Tryz.zeroValue143
 g1:=by kernel_rfl
 g3:=by kernel_rfl
 g4:=by kernel_rfl}
theorem Tryz.Builder_Extra_155:Builder.Extra Tryz.prog Tryz.lays155_ren:={
 sizeBuilder:=by kernel_rfl
 liesBuilder:=by kernel_rfl
 t5:=Tryz.underlying5
 a5:=Tryz.isAgg5
 z5:=Tryz.sizeOf5
 v5:=Tryz.zeroValue5
 infoByte:=by kernel_rfl
 cellsByte:=by kernel_rfl
 sizeByte:=by kernel_rfl
 neB5:=by decide}
open Go.RowKit Go.Lib in
theorem Tryz.strings_ReplaceAll (s old new:ByteArray)(m:Int)(w:World)(hs:s.size<4294967281)(hm:w.cell? ⟨1,0,none⟩=some (.int .i64 m))(h1:1≤old.size)(hlen:s.size+Lib.countB s old*new.size≤140737488355328):
 Calls Tryz.prog 63 #[.string s,.string old,.string new] w fun e w'=>
  e=.returned (.string ⟨(Lib.replaceAll s.data.toList old.data.toList new.data.toList).toArray⟩)∧Below w.heap.size w w':=Any.strings_ReplaceAll Tryz.lays155 Tryz.Builder_Extra_155 s old new m w hs hm h1 hlen
end Go.Proofs
namespace Go.Proofs
open Go.Shelf
def Tryz.lays169_ren:Go.Shelf.Ren:=⟨fun|169=>31|n=>n,fun|70=>64|9=>9|0=>0|72=>66|37=>35|127=>117|3=>3|5=>5|n=>n,fun|n=>n⟩
theorem Tryz.lays169:Go.Proofs.Lays.n169 Tryz.prog Tryz.lays169_ren:={
 mixed:=by kernel_rfl
 f169:=Tryz.func31.trans (congrArg some (by kernel_rfl))
 t0:=Tryz.underlying0
 a0:=Tryz.isAgg0
 z0:=Tryz.sizeOf0
 v0:=Tryz.zeroValue0
 t3:=Tryz.underlying3
 a3:=Tryz.isAgg3
 z3:=Tryz.sizeOf3
 v3:=Tryz.zeroValue3
 t9:=Tryz.underlying9
 a9:=Tryz.isAgg9
 z9:=Tryz.sizeOf9
 v9:=Tryz.zeroValue9
 t37:=Tryz.underlying35
 a37:=Tryz.isAgg35
 z37:=Tryz.sizeOf35
 v37:=Tryz.zeroValue35
 t70:=Tryz.underlying64
 a70:=Tryz.isAgg64
 z70:=Tryz.sizeOf64
 v70:=Tryz.zeroValue64
 t72:=Tryz.underlying66
 a72:=Tryz.isAgg66
 z72:=Tryz.sizeOf66
 v72:=Tryz.zeroValue66
 t127:=Tryz.underlying117
 a127:=Tryz.isAgg117
 z127:=Tryz.sizeOf117
 v127:=Tryz.zeroValue117}
theorem Tryz.Builder_Extra_169:Builder.Extra Tryz.prog Tryz.lays169_ren:={
 sizeBuilder:=by kernel_rfl
 liesBuilder:=by kernel_rfl
 t5:=Tryz.underlying5
 a5:=Tryz.isAgg5
 z5:=Tryz.sizeOf5
 v5:=Tryz.zeroValue5
 infoByte:=by kernel_rfl
 cellsByte:=by kernel_rfl
 sizeByte:=by kernel_rfl
 neB5:=by decide}
open Go.RowKit in
theorem Tryz.Builder_String_any (B b:Nat)(l:List UInt8)(w:World)(h:Lib.IsBuilder 66 5 B b (Lib.byteCells l) w)(hBw:B≤w.heap.size):
 Calls Tryz.prog 31 #[.pointer (some ⟨b,0,none⟩)] w fun e w'=>e=.returned (.string ⟨l.toArray⟩)∧Below B w w':=Any.Builder_String_any Tryz.lays169 Tryz.Builder_Extra_169 B b l w h hBw
end Go.Proofs
namespace Go.Proofs.YtmnbgjnipbpiaaaGreatDoor
open Go.RowKit
theorem kR (A A':OA)(n c c':Nat)(z:Nat→Int)(w:World)(ha:Rd w A (n*1) (fun j=>.int .i64 (z j)))(hb:Rd w A' (n*1) (fun j=>.int .i64 (z j)))(hn:n≤1000000000):
 Calls Tryz.prog 151 #[.slice A n c,.slice A' n c'] w fun e w'=>e=.returned (.bool true)∧Below w.heap.size w w':=by
 have HA:=qh ha;have HB:=qh hb;clear ha hb
 go_enter Tryz.func151,Tryz.ntmps151
 go_wp2
 go_loopw [5] (fun i wr=>∃k:Nat,k≤n∧i=.int .i64 k∧Below w.heap.size w wr) (fun i _=>n-(intOf i).toNat)
 case atStart=>exact⟨0,Nat.zero_le _,rfl,Below.refl _ _⟩
 case round=>
  obtain⟨k,hk,rfl,hbl⟩:=hrel;have HL:=qh hbl;clear hbl
  by_cases hlt:k<n
  ·obtain⟨g,o,rfl,hg,hc⟩:=HA.o qo
   obtain⟨g',o',rfl,hg',hc'⟩:=HB.o qo;have a0:=((aA HL.o).1 g _ hg).trans (hc (k*1+0) qo);have b0:=((aA HL.o).1 g' _ hg').trans (hc' (k*1+0) qo)
   simp only[←Nat.add_assoc]at a0 b0
   obtain⟨y0,hy0⟩:=qx (z (k*1+0))
   simp only[Nat.mul_one,Nat.add_zero]at a0 b0 hy0
   simp only[←hy0]at a0 b0
   clear hy0 hc hc';have hgr:g<wr.heap.size:=blt HL.o hg;have s9:g'<wr.heap.size:=blt HL.o hg'
   go_wp2
   go_quiet (fail)
   go_wp2
   go_roundw
   case rel=>exact⟨k+1,by omega,qg,Below.drewN' HL.o nq⟩
   case measure=>exact qs
  ·obtain rfl:k=n:=qo
   go_wp2
   go_ret
   exact⟨rfl,HL.o⟩
def xN (w:World)(L n:Nat)(e:Ending)(w':World):Prop:=∃r:Int,(r<0∨(n≤L∧r=L-n))∧e=.returned (.int .i64 r)∧w=w'
theorem kA (A:OA)(n c L:Nat)(w:World)(hn:n≤maxLen)(hL:L≤1048576):
 Calls Tryz.prog 137 #[.slice A n c,.int .i64 L] w (xN w L n):=by
 unfold maxLen at hn
 by_cases hle:n≤L
 ·go_enter Tryz.func137,Tryz.ntmps137
  go_wp2
  go_ret
  exact⟨(L:Int)-n,.inr ⟨hle,rfl⟩,rfl,rfl⟩
 ·go_enter Tryz.func137,Tryz.ntmps137
  go_wp2
  go_ret
  exact⟨-1,.inl qo,rfl,rfl⟩
theorem n6:(Tryz.prog.info? 2).map (fun i=>(i.zero,i.size,i.bytes))=some (some (.int .i64 0),1,8):=by kernel_rfl
def tS (w:World)(n N:Nat)(f:Nat→Value)(e:Ending)(w':World):Prop:=∃A c,e=.returned (.slice A n c)∧n≤c∧New w w' A N f
theorem jH (A:OA)(n c:Nat)(z:Nat→Int)(w:World)(ha:Rd w A n (fun j=>.int .i64 (z j)))(hn:n≤1048576):
 Calls Tryz.prog 141 #[.slice A n c] w (tS w n n (fun j=>.int .i64 (z j))):=by
 have HA:=qh ha;clear ha;obtain⟨i0,hi,hz0,hz1,hz2⟩:=info_parts n6
 go_enter Tryz.func141,Tryz.ntmps141
 go_wp2_with (at_make;refine wpList_make_full _ rfl _ _ 57 rfl w.heap.size 2 i0 (.int .i64 0) 1 Tryz.underlying57 hi hz0 hz1 .i64 .i64 n n n rfl rfl rfl rfl (by rw[hz2];omega) qm ql ?_;intro w1 hown hg1)
 have hb1:=(Below.refl w.heap.size w).grown hg1 ql (fun k e=>by cases e);have hw1:=aY.eA hown;have hg1:w.heap.size<w1.heap.size:=(hown.lt _ rfl).2;have HB:=qh hb1;have HW:=qh hw1;clear hb1 hw1 hown
 go_loopw [4] (fun i wr=>∃k:Nat,k≤n∧i=.int .i64 k∧Below w.heap.size w wr∧w.heap.size<wr.heap.size∧aY wr w.heap.size 0 n∧b9 wr w.heap.size 0 k (fun j=>.int .i64 (z j))) (fun i _=>n-(intOf i).toNat)
 case atStart=>exact⟨0,Nat.zero_le _,rfl,HB.o,hg1,by simpa using HW.o,fun j hj=>absurd hj qo⟩
 case round=>
  obtain⟨k,hk,rfl,hb,hgr,hw,hr⟩:=hrel;have HB:=qh hb;have HW:=qh hw;have HR:=qh hr;clear hb hw hr
  by_cases hlt:k<n
  ·obtain⟨g,o,rfl,hg,hra⟩:=HA.o qo
   have hc:=((aA HB.o).1 _ _ hg).trans (hra k hlt);obtain⟨⟨u,hu⟩,hf⟩:=HW.o k hlt;rw[Nat.zero_add]at hu hf;obtain⟨x,hx⟩:=qx (z k)
   simp only[←hx]at hc
   have HX:=qh hx;clear hx hra
   go_wp2
   go_roundw
   case rel=>
    refine⟨k+1,by omega,qg,HB.o.setCell ql _,by simp;exact hgr,HW.o.set _ _,fun j hj=>?_⟩
    by_cases hjk:j=k
    ·subst hjk
     rw[Nat.zero_add];exact(World.cell?_setCell_same _ _ _ hu).trans (by rw[HX.o])
    ·have:=(HR.o.set ql (.int .i64 x)) j qo
     rw[Nat.zero_add]at this;exact this
   case measure=>exact qs
  ·obtain rfl:k=n:=qo
   go_wp2
   go_ret
   exact⟨_,_,rfl,Nat.le_refl _,New.nW HB.o ql hgr HW.o HR.o⟩
theorem lW (z0 z1 z2 z3 z4 z5:Int)(w:World):
 Calls Tryz.prog 117 #[.agg #[.int .i64 z0,.int .i64 z1,.int .i64 z2,.int .i64 z3,.int .i64 z4,.int .i64 z5],.agg #[.int .i64 z0,.int .i64 z1,.int .i64 z2,.int .i64 z3,.int .i64 z4,.int .i64 z5]] w fun e w'=>e=.returned (.bool true)∧Below w.heap.size w w':=by
 go_enter Tryz.func117,Tryz.ntmps117
 go_wp2
 go_ret
 exact⟨rfl,qz⟩
theorem kS (A A':OA)(n c c':Nat)(z:Nat→Int)(w:World)(ha:Rd w A (n*6) (fun j=>.int .i64 (z j)))(hb:Rd w A' (n*6) (fun j=>.int .i64 (z j)))(hn:n≤1000000000):
 Calls Tryz.prog 68 #[.slice A n c,.slice A' n c'] w fun e w'=>e=.returned (.bool true)∧Below w.heap.size w w':=by
 have HA:=qh ha;have HB:=qh hb;clear ha hb
 go_enter Tryz.func68,Tryz.ntmps68
 go_wp2
 go_loopw [5] (fun i wr=>∃k:Nat,k≤n∧i=.int .i64 k∧Below w.heap.size w wr) (fun i _=>n-(intOf i).toNat)
 case atStart=>exact⟨0,Nat.zero_le _,rfl,Below.refl _ _⟩
 case round=>
  obtain⟨k,hk,rfl,hbl⟩:=hrel;have HL:=qh hbl;clear hbl
  by_cases hlt:k<n
  ·obtain⟨g,o,rfl,hg,hc⟩:=HA.o qo
   obtain⟨g',o',rfl,hg',hc'⟩:=HB.o qo;have a0:=((aA HL.o).1 g _ hg).trans (hc (k*6+0) qo);have b0:=((aA HL.o).1 g' _ hg').trans (hc' (k*6+0) qo);have a1:=((aA HL.o).1 g _ hg).trans (hc (k*6+1) qo);have b1:=((aA HL.o).1 g' _ hg').trans (hc' (k*6+1) qo);have a2:=((aA HL.o).1 g _ hg).trans (hc (k*6+2) qo);have b2:=((aA HL.o).1 g' _ hg').trans (hc' (k*6+2) qo);have a3:=((aA HL.o).1 g _ hg).trans (hc (k*6+3) qo);have b3:=((aA HL.o).1 g' _ hg').trans (hc' (k*6+3) qo);have a4:=((aA HL.o).1 g _ hg).trans (hc (k*6+4) qo);have b4:=((aA HL.o).1 g' _ hg').trans (hc' (k*6+4) qo);have a5:=((aA HL.o).1 g _ hg).trans (hc (k*6+5) qo);have b5:=((aA HL.o).1 g' _ hg').trans (hc' (k*6+5) qo)
   simp only[←Nat.add_assoc]at a0 b0 a1 b1 a2 b2 a3 b3 a4 b4 a5 b5
   obtain⟨y0,hy0⟩:=qx (z (k*6+0));obtain⟨y1,hy1⟩:=qx (z (k*6+1));obtain⟨y2,hy2⟩:=qx (z (k*6+2));obtain⟨y3,hy3⟩:=qx (z (k*6+3));obtain⟨y4,hy4⟩:=qx (z (k*6+4));obtain⟨y5,tZ⟩:=qx (z (k*6+5))
   simp only[Nat.add_zero]at a0 b0 hy0
   simp only[←hy0,←hy1,←hy2,←hy3,←hy4,←tZ]at a0 b0 a1 b1 a2 b2 a3 b3 a4 b4 a5 b5
   clear hy0 hy1 hy2 hy3 hy4 tZ hc hc';have hgr:g<wr.heap.size:=blt HL.o hg;have s9:g'<wr.heap.size:=blt HL.o hg'
   go_wp2
   go_region_held3 (fun w'=>w'.cell? ⟨g,o+k*6,none⟩=some (.int .i64 y0)∧w'.cell? ⟨g',o'+k*6,none⟩=some (.int .i64 y0)∧w'.cell? ⟨g,o+k*6+1,none⟩=some (.int .i64 y1)∧w'.cell? ⟨g',o'+k*6+1,none⟩=some (.int .i64 y1)∧w'.cell? ⟨g,o+k*6+2,none⟩=some (.int .i64 y2)∧w'.cell? ⟨g',o'+k*6+2,none⟩=some (.int .i64 y2)∧w'.cell? ⟨g,o+k*6+3,none⟩=some (.int .i64 y3)∧w'.cell? ⟨g',o'+k*6+3,none⟩=some (.int .i64 y3)∧w'.cell? ⟨g,o+k*6+4,none⟩=some (.int .i64 y4)∧w'.cell? ⟨g',o'+k*6+4,none⟩=some (.int .i64 y4)∧w'.cell? ⟨g,o+k*6+5,none⟩=some (.int .i64 y5)∧w'.cell? ⟨g',o'+k*6+5,none⟩=some (.int .i64 y5)) (go_keep) (first|(go_at_call 117;refine(lW y0 y1 y2 y3 y4 y5 _).mono ?_;rintro e w1 ⟨rfl,hb1⟩;have hk1:=fun x=>(aA hb1).1 g x (by simpa using hgr);have hk2:=fun x=>(aA hb1).1 g' x (by simpa using s9)))
   go_wp2
   go_roundw
   case rel=>exact⟨k+1,by omega,qg,(Below.drewN' HL.o 1).trans (hb1.mono HL.o.size)⟩
   case measure=>exact qs
  ·obtain rfl:k=n:=qo
   go_wp2
   go_ret
   exact⟨rfl,HL.o⟩
theorem kB (A:OA)(n c L:Nat)(w:World)(hn:n≤maxLen)(hL:L≤1048576):
 Calls Tryz.prog 50 #[.slice A n c,.int .i64 L] w fun e w'=>∃r:Int,(r<0∨(n≤L∧r=L-n))∧e=.returned (.int .i64 r)∧w=w':=by
 unfold maxLen at hn
 by_cases hle:n≤L
 ·go_enter Tryz.func50,Tryz.ntmps50
  go_wp2
  go_ret
  exact⟨(L:Int)-n,.inr ⟨hle,rfl⟩,rfl,rfl⟩
 ·go_enter Tryz.func50,Tryz.ntmps50
  go_wp2
  go_ret
  exact⟨-1,.inl qo,rfl,rfl⟩
theorem lD (z0 z1 z2 z3 z4 z5:Int)(w:World):
 Calls Tryz.prog 102 #[.agg #[.int .i64 z0,.int .i64 z1,.int .i64 z2,.int .i64 z3,.int .i64 z4,.int .i64 z5]] w fun e w'=>e=.returned (.agg #[.int .i64 z0,.int .i64 z1,.int .i64 z2,.int .i64 z3,.int .i64 z4,.int .i64 z5])∧Below w.heap.size w w':=by
 go_enter Tryz.func102,Tryz.ntmps102
 go_wp2
 refine bodyPost_ret (v:=.agg #[.int .i64 z0,.int .i64 z1,.int .i64 z2,.int .i64 z3,.int .i64 z4,.int .i64 z5]) (by simp[results,Tryz.results102,go_sem]) rfl ⟨rfl,?_⟩;exact qz
theorem n7:(Tryz.prog.info? 61).map (fun i=>(i.zero,i.size,i.bytes))=some (some (.agg #[.int .i64 0,.int .i64 0,.int .i64 0,.int .i64 0,.int .i64 0,.int .i64 0]),6,48):=by kernel_rfl
theorem k7 (A:OA)(n c:Nat)(z:Nat→Int)(w:World)(ha:Rd w A (n*6) (fun j=>.int .i64 (z j)))(hn:n≤1048576):
 Calls Tryz.prog 56 #[.slice A n c] w (wI w n (n*6) (fun j=>.int .i64 (z j))):=by
 have HA:=qh ha;clear ha;obtain⟨i0,hi,hz0,hz1,hz2⟩:=info_parts n7
 go_enter Tryz.func56,Tryz.ntmps56
 go_wp2_with (at_make;refine wpList_make_full _ rfl _ _ 36 rfl w.heap.size 61 i0 (.agg #[.int .i64 0,.int .i64 0,.int .i64 0,.int .i64 0,.int .i64 0,.int .i64 0]) 6 Tryz.underlying36 hi hz0 hz1 .i64 .i64 n n n rfl rfl rfl rfl (by rw[hz2];omega) qm ql ?_;intro w1 hown hg1)
 have hb1:=(Below.refl w.heap.size w).grown hg1 ql (fun k e=>by cases e);have hw1:=aY.eA hown;have hg1:w.heap.size<w1.heap.size:=(hown.lt _ rfl).2;have HB:=qh hb1;have HW:=qh hw1;clear hb1 hw1 hown
 go_loopw [4] (fun i wr=>∃k:Nat,k≤n∧i=.int .i64 k∧Below w.heap.size w wr∧w.heap.size<wr.heap.size∧aY wr w.heap.size 0 (n*6)∧b9 wr w.heap.size 0 (k*6) (fun j=>.int .i64 (z j))) (fun i _=>n-(intOf i).toNat)
 case atStart=>exact⟨0,Nat.zero_le _,rfl,HB.o,hg1,HW.o,fun j hj=>absurd hj qo⟩
 case round=>
  obtain⟨k,hk,rfl,hb,hgr,hw,hr⟩:=hrel;have HB:=qh hb;have HW:=qh hw;have HR:=qh hr;clear hb hw hr
  by_cases hlt:k<n
  ·obtain⟨g,o,rfl,hg,hra⟩:=HA.o qo
   have hc0:=((aA HB.o).1 _ _ hg).trans (hra (k*6+0) qo);obtain⟨x0,hx0⟩:=qx (z (k*6))
   simp only[←hx0,Nat.add_zero]at hc0
   have HX0:=qh hx0;clear hx0;have hc1:=((aA HB.o).1 _ _ hg).trans (hra (k*6+1) qo);obtain⟨x1,hx1⟩:=qx (z (k*6+1))
   simp only[←hx1,←Nat.add_assoc]at hc1
   have xT:=qh hx1;clear hx1;have hc2:=((aA HB.o).1 _ _ hg).trans (hra (k*6+2) qo);obtain⟨x2,hx2⟩:=qx (z (k*6+2))
   simp only[←hx2,←Nat.add_assoc]at hc2
   have dN:=qh hx2;clear hx2;have hc3:=((aA HB.o).1 _ _ hg).trans (hra (k*6+3) qo);obtain⟨x3,hx3⟩:=qx (z (k*6+3))
   simp only[←hx3,←Nat.add_assoc]at hc3
   have xS:=qh hx3;clear hx3;have hc4:=((aA HB.o).1 _ _ hg).trans (hra (k*6+4) qo);obtain⟨x4,hx4⟩:=qx (z (k*6+4))
   simp only[←hx4,←Nat.add_assoc]at hc4
   have xR:=qh hx4;clear hx4;have vD:=((aA HB.o).1 _ _ hg).trans (hra (k*6+5) qo);obtain⟨x5,hx5⟩:=qx (z (k*6+5))
   simp only[←hx5,←Nat.add_assoc]at vD
   have xQ:=qh hx5;clear hx5;clear hra
   go_wp2_with fail
   refine(lD x0 x1 x2 x3 x4 x5 _).mono ?_;rintro e w2 ⟨rfl,hb2⟩;have hw2:=HW.o.below (hb2.mono ql);have HR2:=qh (HR.o.below hgr hb2);have HB2:=HB.st hb2;have wG:w.heap.size<w2.heap.size:=blt hb2 hgr;obtain⟨⟨u0,hu0⟩,hf0⟩:=hw2 (k*6+0) qo
   simp only[Nat.zero_add,Nat.add_zero]at hu0 hf0
   obtain⟨⟨u1,hu1⟩,hf1⟩:=hw2 (k*6+1) qo
   simp only[Nat.zero_add]at hu1 hf1
   obtain⟨⟨u2,hu2⟩,hf2⟩:=hw2 (k*6+2) qo
   simp only[Nat.zero_add]at hu2 hf2
   obtain⟨⟨u3,hu3⟩,hf3⟩:=hw2 (k*6+3) qo
   simp only[Nat.zero_add]at hu3 hf3
   obtain⟨⟨u4,xC⟩,xG⟩:=hw2 (k*6+4) qo
   simp only[Nat.zero_add]at xC xG
   obtain⟨⟨u5,xB⟩,xF⟩:=hw2 (k*6+5) qo
   simp only[Nat.zero_add]at xB xF
   have HW2:=qh hw2;clear hw2 hb2 hc0 hc1 hc2 hc3 hc4 vD
   go_wp2
   go_roundw
   case rel=>
    refine⟨k+1,by omega,qg,by exact((((((HB2.o.setCell ql _).setCell ql _).setCell ql _).setCell ql _).setCell ql _).setCell ql _),by simp[World.setCell];exact wG,by exact((((((HW2.o.set _ _).set _ _).set _ _).set _ _).set _ _).set _ _),?_⟩;have h0:=HR2.o;have h1:=h0.step (a:=k*6+0) (u:=.int .i64 x0) (HW2.o) qo qo (by rw[HX0.o]);have h2:=h1.step (a:=k*6+1) (u:=.int .i64 x1) ((HW2.o.set _ _)) qo qo (by rw[xT.o]);have h3:=h2.step (a:=k*6+2) (u:=.int .i64 x2) (((HW2.o.set _ _).set _ _)) qo qo (by rw[dN.o]);have h4:=h3.step (a:=k*6+3) (u:=.int .i64 x3) ((((HW2.o.set _ _).set _ _).set _ _)) qo qo (by rw[xS.o]);have h5:=h4.step (a:=k*6+4) (u:=.int .i64 x4) (((((HW2.o.set _ _).set _ _).set _ _).set _ _)) qo qo (by rw[xR.o]);have h6:=h5.step (a:=k*6+5) (u:=.int .i64 x5) ((((((HW2.o.set _ _).set _ _).set _ _).set _ _).set _ _)) qo qo (by rw[xQ.o]);exact b9.cast qo h6
   case measure=>exact qs
  ·obtain rfl:k=n:=qo
   go_wp2
   go_ret
   exact⟨_,_,rfl,New.nW HB.o ql hgr HW.o HR.o⟩
end Go.Proofs.YtmnbgjnipbpiaaaGreatDoor
namespace Go.Proofs.YtmnbgjnipbpiaaaGreatDoor
open Go.RowKit Go.WideShapes Go.ChangeShapes Go.Deep Go.Joins Go.ChangeAt
theorem own:ownKnob Tryz.prog.godebug=none:=by kernel_rfl
theorem laidOut:laidOutB Tryz.prog=true:=by kernel_rfl
theorem fJ {H:Type}{enc:TypeId×Value→H}{P:Program}(hl:laidOutB P=true){W W':World}(hb:Below W.heap.size W W'):
 ∀(ts:List TypeId) (vs:List Value) (ds:List (DataW H)) (ps:List MemPlace),(∀t∈ts,P.readableRec t=true∧t<P.types.size)→(∀x∈ps,x.block<W.heap.size)→
  DataW.TrodAll enc P W 0 (fun _=>true) true ts vs ds ps→DataW.TrodAll enc P W' 0 (fun b=>decide (b<W.heap.size)) true ts vs ds ps
 |[],vs,ds,ps,_,_,h=>by
  obtain⟨rfl,rfl,rfl⟩:=trodAll_nil h;exact trodAll_mk0
 |t::ts,vs,ds,ps,ht,hlt,h=>by
  obtain⟨v,vs',d,ds',p,q,rfl,rfl,rfl,h0,h1⟩:=trodAll_cons h;exact trodAll_cons_mk (Below.trod hl (ht t (by simp)).1 (ht t (by simp)).2 h0 hb (fun x hx=>hlt x (by simp[hx])))
   (fJ hl hb ts vs' ds' q (fun u hu=>ht u (by simp[hu])) (fun x hx=>hlt x (by simp[hx])) h1)
theorem p9 {H:Type}{enc:TypeId×Value→H}{P:Program}(hl:laidOutB P=true){f:Func}{s:ChangeSpec}{W W':World}{args:Array Value}{ds:List (DataW H)}{before:List MemPlace}{tb:TypeId}
 (hv:s.vars=[]) (hfn:s.fn H (ds++[])={results:=[.lit (.bool true)],args:=ds}) (hrt:f.resultTypes=#[tb]) (htb:P.underlying tb=some .bool)
 (hread:∀t∈f.params.toList,P.readableRec t=true∧t<P.types.size)
 (hW:DataW.Whole enc P f.params.toList s.vars false W args.toList ds [] before) (hb:Below W.heap.size W W'):
 ∃v,Ending.returned (.bool true)=.returned v∧s.post enc P f false true false false W args v W':=by
 have hlt:∀p∈before,p.block<W.heap.size:=fun p hp=>hW.lt p hp;have hW':=hW;obtain⟨p,q,hA,hV,rfl,hfz,hnd⟩:=hW';rw[hv]at hV;obtain⟨_,rfl⟩:=trodVars_none hV;refine⟨_,rfl,ds,[],_,[],p,[],hW,?_,?_,?_,hb.frame _,fun h=>by cases h⟩
 ·rw[hfn,hrt]
  exact trodAll_mk1 (shut_bool htb _)
 ·rw[hfn]
  exact fJ hl hb _ _ _ _ hread (fun x hx=>hlt x (by simp[hx])) hA
 ·rw[hfn,hv]
  rfl
section
variable {H:Type}{enc:TypeId×Value→H}{P:Program}{w:World}{base:Nat}{spare:Nat→Bool}{held:Bool}
theorem gA {t e:TypeId}{fs:Array Field}{fuel:Nat}{cs:List Value}{x:DataW H×List MemPlace}(ht:P.underlying t=some (.slice e))(he:P.underlying e=some (.struct fs))
 (hone:oneCellFields P fs=true) (hC:P.cellsOf e=fs.size) (h:DataW.trod enc P w base spare held fuel t cs=some x):
 (cs=[.slice none 0 0]∧x=(.nil,[]))∨
 ∃(a:Addr) (len cap m:Nat) (D:Nat→DataW H) (Pl:Nat→List MemPlace),cs=[.slice (some a) len cap]∧base≤a.block∧len≤cap∧cap≤maxLen∧m=(if spare a.block then cap else len)∧
  x=(.slice ((List.range len).map D) ((List.range (m-len)).map fun j=>D (len+j)),MemPlace.row a (m*fs.size)++(List.range m).flatMap Pl)∧
  ∀i,i<m→∃(ys:List (DataW H×List MemPlace)) (n:Nat),D i=.agg (ys.map (·.1))∧Pl i=ys.flatMap (·.2)∧ys.length=fs.size∧
   ∀(j:Nat) (f:Field),fs[j]?=some f→∃(v:Value) (y:DataW H×List MemPlace),w.cell? (a.add (i*fs.size+j))=some v∧ys[j]?=some y∧DataW.trod enc P w base spare held n f.type [v]=some y:=by
 rcases open_slice ht h with h0|⟨a,len,cap,m,n,D,Pl,hcs,hb,hl,hm,hmm,hx,hi⟩
 ·exact .inl h0
 ·refine .inr ⟨a,len,cap,m,D,Pl,hcs,hb,hl,hm,hmm,by rw[hC]at hx;exact hx,fun i him=>?_⟩
  obtain⟨cs',hc,ht'⟩:=hi i him;rw[hC]at hc;obtain⟨ys,n',hn',hy,hlen,hyl,hf⟩:=DataW.trod_struct he ht';obtain⟨_,hcl,hat⟩:=World.cells?_some hc
  simp only[Prod.mk.injEq]at hy
  refine⟨ys,n',hy.1,hy.2,hyl,fun j f hj=>?_⟩;obtain⟨ho,hk⟩:=hone_of hone j f hj;have hjl:j<fs.size:=(Array.getElem?_eq_some_iff.1 hj).1;have hcell:=hat j hjl;have hv:cs'[j]?=some (cs'[j]'(by omega)):=List.getElem?_eq_getElem (by omega);have h1:=hf j f hj;rw[ho,hk]at h1;have tQ:(cs'.drop j).take 1=[cs'[j]'(by omega)]:=by
   rw[List.drop_eq_getElem_cons (by omega)]
   rfl
  rw[tQ]at h1;have hys:ys[j]?=some (ys[j]'(by omega)):=List.getElem?_eq_getElem (by omega);refine⟨_,_,?_,hys,h1.trans hys⟩;rw[←Go.Deep.add_add,hcell,hv]
end
section
variable {H:Type}{enc:TypeId×Value→H}{P:Program}{w:World}{base:Nat}{spare:Nat→Bool}{held:Bool}
theorem mZ {r:Reach}{b0:Nat}{t:TypeId}{f0 f1:Field}{v:Value}{d:DataW H}{p:List MemPlace}(hs:P.underlying t=some (.struct #[f0,f1]))(hone:oneCellFields P #[f0,f1]=true)(hC:P.cellsOf t=2)
 (hv:Value.okWide P w r b0 t v) (h:DataW.Trod enc P w base spare held t v d p):
 ∃(v0 v1:Value) (y0 y1:DataW H×List MemPlace) (n:Nat),v=.agg #[v0,v1]∧d=.agg [y0.1,y1.1]∧p=y0.2++y1.2∧
  DataW.trod enc P w base spare held n f0.type [v0]=some y0∧DataW.trod enc P w base spare held n f1.type [v1]=some y1:=by
 obtain⟨cs,rfl,hsz⟩:=okWide_struct hs hv;obtain⟨l⟩:=cs
 match l,hsz.trans hC with
 |[c0,c1],_=>
  obtain⟨fuel,hf⟩:=h;obtain⟨xs,n,_,hx,_,hlen,hg⟩:=DataW.trod_struct hs hf;obtain⟨o0,k0⟩:=hone_of hone 0 f0 rfl;obtain⟨o1,k1⟩:=hone_of hone 1 f1 rfl
  match xs,hlen with
  |[y0,y1],_=>
   simp only[Prod.mk.injEq]at hx
   exact⟨c0,c1,y0,y1,n,rfl,by simpa using hx.1,by simpa using hx.2,by simpa [Value.cells,o0,k0]using hg 0 f0 rfl,by simpa [Value.cells,o1,k1]using hg 1 f1 rfl⟩
end
theorem fL {w:World}{a:Addr}{v:Value}(h:w.cell? a=some v):∃g o,a=⟨g,o,none⟩:=by
 obtain⟨g,o,sp⟩:=a;obtain rfl:sp=none:=by simpa using World.cell?_spot h
 exact⟨g,o,rfl⟩
theorem kF {H:Type}{enc:TypeId×Value→H}{P:Program}{W:World}{spare:Nat→Bool}{held:Bool}{t e:TypeId}{k:IntKind}{fuel:Nat}{u:Value}{x:DataW H×List MemPlace}(ht:P.underlying t=some (.slice e))(he:P.underlying e=some (.int k))(hc:P.cellsOf e=1)
 (hf:DataW.trod enc P W 0 spare held fuel t [u]=some x):
 ∃(A:Option Addr) (n c:Nat) (z:Nat→Int),u=.slice A n c∧Rd W A n (fun j=>.int k (z j))∧n≤maxLen∧∀j,j<n→(Lit.int k (z j)).wf=true:=by
 rcases open_ints ht he hc hf with⟨hcs,hx⟩|⟨a,len,cap,zs,hcs,_,hl,hm,hz,hx,hcell,hws⟩
 ·simp at hcs
  subst hcs;exact⟨none,0,0,fun _=>0,rfl,fun h=>absurd h (by omega),by simp,fun j hj=>absurd hj (by omega)⟩
 ·simp at hcs
  subst hcs;have hle:len≤zs.length:=by rw[hz];split<;>omega
  refine⟨some a,len,cap,fun j=>zs.getD j 0,rfl,fun hN=>?_,by omega,fun j hj=>hws _ ?_⟩
  ·obtain⟨g,o,rfl⟩:∃g o,a=⟨g,o,none⟩:=by
    have:=hcell 0 (by omega);rw[show a.add 0=a by simp[Addr.add]]at this;exact fL this
   refine⟨g,o,rfl,by simpa [Addr.add_lit]using World.block_lt_of_cell? W _ (hcell 0 (by omega)),fun j hj=>?_⟩;have:=hcell j (by omega);rw[Addr.add_lit]at this;exact this
  ·simp[List.getD,List.getElem?_eq_getElem (show j<zs.length by omega)]
end Go.Proofs.YtmnbgjnipbpiaaaGreatDoor
namespace Go.Proofs.YtmnbgjnipbpiaaaGreatDoor
open Go.RowKit Go.WideShapes Go.ChangeShapes Go.Deep Go.Joins Go.ChangeAt
variable {H:Type}{enc:TypeId×Value→H}{P:Program}{W:World}{spare:Nat→Bool}{held:Bool}
theorem kG {S:Nat}{t e:TypeId}{fs:Array Field}{fuel:Nat}{u:Value}{x:DataW H×List MemPlace}(ht:P.underlying t=some (.slice e))(he:P.underlying e=some (.struct fs))(hone:oneCellFields P fs=true)(hC:P.cellsOf e=fs.size)
 (hi:fs.toList.map (fun f=>P.underlying f.type)=List.replicate S (some (.int .i64))) (hS:fs.size=S) (h0:0<S) (hf:DataW.trod enc P W 0 spare held fuel t [u]=some x):
 ∃(A:OA) (n q:Nat) (z:Nat→Int),u=.slice A n q∧Rd W A (n*S) (fun j=>.int .i64 (z j))∧n≤maxLen:=by
 subst hS
 rcases gA ht he hone hC hf with⟨hcs,_⟩|⟨a,len,cap,m,D,Pl,hcs,_,hl,hm,hmm,_,hel⟩
 ·simp at hcs
  subst hcs;exact⟨none,0,0,fun _=>0,rfl,fun h=>absurd h qo,by simp⟩
 ·simp at hcs
  subst hcs;have hle:len≤m:=by rw[hmm];split<;>omega
  have hall:∀q,∃z:Int,q<len*fs.size→W.cell? (a.add q)=some (.int .i64 z):=by
   intro q
   by_cases hq:q<len*fs.size
   ·have hqd:q/fs.size<len:=Nat.div_lt_of_lt_mul (by rw[Nat.mul_comm];exact hq)
    have hqm:q%fs.size<fs.size:=Nat.mod_lt _ h0;obtain⟨ys,k,_,_,_,hfl⟩:=hel (q/fs.size) qo;obtain⟨v,y,hc,_,htr⟩:=hfl (q%fs.size) (fs[q%fs.size]'hqm) (Array.getElem?_eq_getElem hqm);have hu:P.underlying (fs[q%fs.size]'hqm).type=some (.int .i64):=by
     have:=congrArg (fun l=>l[q%fs.size]?) hi
     simp only[List.getElem?_map,List.getElem?_replicate]at this
     rw[if_pos hqm,Array.getElem?_toList,Array.getElem?_eq_getElem hqm]at this
     simpa using this
    obtain⟨z,ez,_,_⟩:=DataW.trod_int hu htr
    simp at ez
    subst ez;rw[show q/fs.size*fs.size+q%fs.size=q from Nat.div_add_mod' q fs.size]at hc;exact⟨z,fun _=>hc⟩
   ·exact⟨0,fun h=>absurd h hq⟩
  obtain⟨z,hz⟩:=Classical.axiomOfChoice hall;refine⟨some a,len,cap,z,rfl,fun hN=>?_,by omega⟩;have h00:=hz 0 hN;obtain⟨g,o,rfl⟩:∃g o,a=⟨g,o,none⟩:=by
   rw[show a.add 0=a by simp[Addr.add]]at h00;exact fL h00
  refine⟨g,o,rfl,by simpa [Addr.add_lit]using World.block_lt_of_cell? W _ h00,fun q hq=>?_⟩;have:=hz q hq;rw[Addr.add_lit]at this;exact this
end Go.Proofs.YtmnbgjnipbpiaaaGreatDoor
