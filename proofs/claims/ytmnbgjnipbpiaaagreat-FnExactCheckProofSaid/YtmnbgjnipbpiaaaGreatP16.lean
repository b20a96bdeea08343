/- Walks and plain lemmas. -/
import Derived.Test.YtmnbgjnipbpiaaaGreatP05
import Derived.Test.YtmnbgjnipbpiaaaGreatP06
import Derived.Test.YtmnbgjnipbpiaaaGreatP03
import Derived.BigQuiet
import Derived.Deep.CutRange
import Derived.Test.YtmnbgjnipbpiaaaGreatRows
import Derived.Lib.SmallJoins
set_option linter.unusedVariables false
set_option linter.unusedSimpArgs false
set_option maxHeartbeats 4000000
set_option maxRecDepth 20000
namespace Go.Proofs.YtmnbgjnipbpiaaaGreat
open Go.RowKit
theorem cR {P:Program}{o:Oper}{cond:Bool}{a:Act}{K:Act→World→Prop}{Q:Exit→Act→World→Prop}{E:Prop}(W:World)(hcond:cond=true)(s x:Operand)(t:TypeId)
 (ho:o.op=.call {callee:=.builtin .append,args:=#[s,x],argTypes:=#[t,t]})
 (base:Nat) (e:TypeId) (i:TypeInfo) (z:Value) (size bytes:Nat) (ht:P.underlying t=some (.slice e)) (hi:P.info? e=some i) (hz:i.zero=some z)
 (hsize:i.size=size) (hby:i.bytes=bytes) (hzs:z.cells.size=size) (hsz:0<size)
 (v:Value) (n:Nat) (xs:List Value) (hs:a.eval s=v) (hown:W.ownsRow base e size v n xs)
 (te:TypeId) (m c:Nat) (news:List Value) (hx:a.eval x=.slice (some ⟨W.heap.size,0,none⟩) m c) (hl:news.length=m*size) (h1:∀u∈news,u.oneCell'=true)
 (h63:n+m≤maxLen) (hbytes:(n+m)*bytes≤140737488355328) (hbase:base≤W.heap.size)
 (h:∀v' w',w'.ownsRow base e size v' (n+m) (xs++news)→Fr W w' (fun b=>v.ownBlock=some b)→(v'.ownBlock=v.ownBlock∨v'.ownBlock=some (W.heap.size+1))→K (a.put o.dst v') w'):
 if cond=true then Oper.wp P o a (W.alloc (.cells news.toArray te)) K Q else E:=by
 rw[if_pos hcond];have hn:=heap_alloc_new W (.cells news.toArray te);obtain⟨v',w',hr,h2,h3,_,h5⟩:=run_append_own_at (P:=P) (W.alloc (.cells news.toArray te)) base t o.type e i z size bytes ht hi hz hsize hby hzs hsz v n xs (hown.alloc _) ⟨W.heap.size,0,none⟩ m c news hl (by
  intro j u hu;rw[Addr.add_lit,cell_of_row _ _ _ _ _ _ hn]
  simpa using hu) h1 h63 hbytes (by simp;omega)
 unfold Oper.wp execOp
 simp only[ho,resolve,invoke,builtin,Sem.run_bind,Sem.run_pure,Result.andThen_ok,List.map_toArray,List.map_cons,List.map_nil,hs,hx,hr]
 refine h v' w' h2 ⟨h3.os,h3.tape,h3.output,Nat.le_trans qj h3.size,fun b hb hne=>?_⟩ (by simpa using h5);exact(h3.block b (by simp;omega) (fun e=>hne e.symm)).trans (Below.heap_alloc W _ b hb)
def rv (n k:Nat)(f:Nat→Int)(m:Nat):Int:=if m<k∨n-k≤m then f (n-1-m)else f m
theorem B0 {wr:World}{g n k m:Nat}{f:Nat→Int}(hr:bY wr g 0 n (fun j=>.int .i64 (rv n k f j)))(hm:m=n-1-k)(hkm:k<m)(hmn:m<n){x y:Int}(hx:x=rv n k f k)(hy:y=rv n k f m):
 bY ((wr.setCell ⟨g,k,none⟩ (.int .i64 y)).setCell ⟨g,m,none⟩ (.int .i64 x)).drew g 0 n (fun j=>.int .i64 (rv n (k+1) f j)):=by
 intro j hj;show((wr.setCell ⟨g,k,none⟩ (.int .i64 y)).setCell ⟨g,m,none⟩ (.int .i64 x)).cell? _=_;have h1:=hr j hj;rw[Nat.zero_add]at h1 ⊢
 by_cases hjm:j=m
 ·subst hjm
  obtain⟨v,hv⟩:=cell?_setCell_some (p:=⟨g,k,none⟩) (x:=.int .i64 y) h1;rw[World.cell?_setCell_same _ _ _ hv,hx]
  simp only[rv]
  rw[if_neg qo,if_pos qo,show n-1-j=k by omega]
 ·rw[World.cell?_setCell_other _ _ _ _ (by intro e;injection e;omega)]
  by_cases hjk:j=k
  ·subst hjk
   rw[World.cell?_setCell_same _ _ _ h1,hy]
   simp only[rv]
   rw[if_neg qo,if_pos qo,hm]
  ·rw[World.cell?_setCell_other _ _ _ _ (by intro e;injection e;omega),h1]
   simp only[rv]
   by_cases hc:j<k∨n-k≤j
   ·rw[if_pos hc,if_pos qo]
   ·rw[if_neg hc,if_neg qo]
theorem rH (g n c:Nat)(f:Nat→Int)(w:World)(hw:bK w g 0 n)(hr:bY w g 0 n (fun j=>.int .i64 (f j)))(hn:n≤1048576):
 Calls Tryz.prog 95 #[.slice (some ⟨g,0,none⟩) n c] w fun e w'=>e=.returned (.tuple #[])∧Only w w' g∧bK w' g 0 n∧bY w' g 0 n (fun j=>.int .i64 (f (n-1-j))):=by
 have HW:=qh hw;have HR:=qh hr;clear hw hr
 go_enter Tryz.func95,Tryz.ntmps95
 go_wp2
 go_loopw [2,3] (fun i j wr=>∃k:Nat,∃z:Int,i=.int .i64 k∧j=.int .i64 z∧Hq (z=(n:Int)-1-k)∧ -1≤z∧z≤1048576∧2*k≤n+1∧Only w wr g∧bK wr g 0 n∧bY wr g 0 n (fun j=>.int .i64 (rv n k f j))) (fun i _ _=>n-(intOf i).toNat)
 case atStart=>exact⟨0,_,rfl,rfl,by simp[Hq],by omega,by omega,by omega,Only.refl _ _,HW.o,fun j hj=>(HR.o j hj).trans (by simp only[rv];rw[if_neg qo])⟩
 case round=>
  obtain⟨k,z,rfl,rfl,HZ,hz1,hz2,hk,ho,hw,hr⟩:=hrel;have HO:=qh ho;have HW:=qh hw;have HR:=qh hr;clear ho hw hr
  by_cases hlt:2*k+1<n
  ·obtain⟨m,rfl⟩:=Int.eq_ofNat_of_zero_le (show 0≤z by have:=HZ.o;omega)
   have hkm:k<m:=by have:=HZ.o;omega
   have hmn:m<n:=by have:=HZ.o;omega
   have hmk:Hq (m=n-1-k):=by have:=HZ.o;unfold Hq;omega
   have hc1:=HR.o k qo;have hc2:=HR.o m qo;obtain⟨x,hx⟩:=qx (rv n k f k);obtain⟨y,hy⟩:=qx (rv n k f m)
   simp only[←hx,←hy,Nat.zero_add]at hc1 hc2
   have HX:=qh hx;have HY:=qh hy;clear hx hy;have hf:=(HW.o k qo).2;have hf':=(HW.o m qo).2;rw[Nat.zero_add]at hf hf';have b1:(0:Int)≤(k:Int):=qo;have b2:(k:Int)<(n:Int):=qo;have b3:(0:Int)≤(m:Int):=qo;have b4:(m:Int)<(n:Int):=qo
   go_wp2
   go_region
   go_wp2
   go_roundw
   case rel=>exact⟨k+1,_,qg,rfl,by unfold Hq;have:=HZ.o;omega,by omega,by omega,by omega,((HO.o.set _ _).set _ _).drewN 1,(HW.o.set _ _).set _ _,B0 HR.o hmk.out hkm hmn HX.o HY.o⟩
   case measure=>exact qs
  ·have hzk:z≤(k:Int):=by have:=HZ.o;omega
   go_wp2
   go_end0
   refine⟨rfl,HO.o,HW.o,fun j hj=>(HR.o j hj).trans ?_⟩
   simp only[rv]
   by_cases hc:j<k∨n-k≤j
   ·rw[if_pos hc]
   ·rw[if_neg hc]
    rw[show n-1-j=j by omega]
def OwnAt (w:World)(B:Nat)(e:TypeId)(v:Value)(n:Nat)(xs:List Value):Prop:=
 xs.length=n∧((v=.slice none 0 0∧n=0)∨∃g o cap cur,v=.slice (some ⟨g,o,none⟩) n cap∧B≤g∧w.heap[g]?=some (.cells cur e (0,0))∧n≤cap∧cap≤maxLen∧o+cap≤cur.size∧(cur.toList.drop o).take n=xs)
section
variable {B:Nat}{e:TypeId}{v:Value}{n:Nat}{xs:List Value}{w w':World}
theorem OwnAt.of (h:w.ownsRow B e 1 v n xs):OwnAt w B e v n xs:=by
 refine⟨by have:=h.1;omega,?_⟩
 rcases h.2 with hn|⟨g,cap,cur,hv,hB,hg,h1,h2,h3,h4⟩
 ·exact .inl hn
 ·exact .inr ⟨g,0,cap,cur,hv,hB,hg,h1,h2,by omega,by simpa using h4⟩
theorem OwnAt.lt (h:OwnAt w B e v n xs):∀b,v.ownBlock=some b→B≤b∧b<w.heap.size:=fun b hb=>by
 rcases h.2 with⟨rfl,_⟩|⟨g,o,cap,cur,rfl,hB,hg,_⟩
 ·cases hb
 ·injection hb with hb
  subst hb;exact⟨hB,(Array.getElem?_eq_some_iff.1 hg).1⟩
theorem OwnAt.blk (h:OwnAt w B e v n xs)(hk:∀b,v.ownBlock=some b→w'.heap[b]?=w.heap[b]?):OwnAt w' B e v n xs:=by
 refine⟨h.1,?_⟩
 rcases h.2 with hn|⟨g,o,cap,cur,rfl,hB,hg,rest⟩
 ·exact .inl hn
 ·exact .inr ⟨g,o,cap,cur,rfl,hB,(hk g rfl).trans hg,rest⟩
theorem OwnAt.base {B':Nat}(h:OwnAt w B e v n xs)(hB:B'≤B):OwnAt w B' e v n xs:=by
 refine⟨h.1,?_⟩
 rcases h.2 with hn|⟨g,o,cap,cur,rfl,hb,rest⟩
 ·exact .inl hn
 ·exact .inr ⟨g,o,cap,cur,rfl,Nat.le_trans hB hb,rest⟩
theorem OwnAt.form (h:OwnAt w B e v n xs)(hn:0<n):∃g o cap,v=.slice (some ⟨g,o,none⟩) n cap∧(n≤cap∧cap≤maxLen)∧B≤g∧g<w.heap.size:=by
 rcases h.2 with⟨_,h0⟩|⟨g,o,cap,cur,rfl,hB,hg,h1,h2,_⟩
 ·omega
 ·exact⟨g,o,cap,rfl,⟨h1,h2⟩,hB,(Array.getElem?_eq_some_iff.1 hg).1⟩
theorem OwnAt.sl (h:OwnAt w B e v n xs):∃A c,v=.slice A n c:=by
 rcases h.2 with⟨rfl,rfl⟩|⟨g,o,cap,cur,rfl,_⟩
 ·exact⟨_,_,rfl⟩
 ·exact⟨_,_,rfl⟩
theorem OwnAt.cellAt {g o cap:Nat}(h:OwnAt w B e (.slice (some ⟨g,o,none⟩) n cap) n xs){j:Nat}(hj:j<n):w.cell? ⟨g,o+j,none⟩=xs[j]?:=by
 rcases h.2 with⟨h',_⟩|⟨g',o',cap',cur,h',_,hg,h1,_,h3,h4⟩
 ·cases h'
 ·injection h' with h' _ _
  injection h' with h';injection h' with h5 h6;subst h5 h6;rw[cell_of_row w g (o+j) cur e (0,0) hg,←h4,List.getElem?_take,if_pos hj,List.getElem?_drop]
  simp
theorem OwnAt.frozenAt {g o cap:Nat}(h:OwnAt w B e (.slice (some ⟨g,o,none⟩) n cap) n xs)(j:Nat):w.frozen? ⟨g,j,none⟩=false:=by
 rcases h.2 with⟨h',_⟩|⟨g',o',cap',cur,h',_,hg,_⟩
 ·cases h'
 ·injection h' with h' _ _
  injection h' with h';injection h' with h5 _;subst h5
  simp[World.frozen?,hg]
theorem OwnAt.stored {g o cap:Nat}(h:OwnAt w B e (.slice (some ⟨g,o,none⟩) n cap) n xs)(j:Nat)(u:Value):OwnAt (w.setCell ⟨g,o+j,none⟩ u) B e (.slice (some ⟨g,o,none⟩) n cap) n (xs.set j u):=by
 refine⟨by rw[List.length_set];exact h.1,?_⟩
 rcases h.2 with⟨h',_⟩|⟨g',o',cap',cur,h',hB,hg,h1,h2,h3,h4⟩
 ·cases h'
 ·have h'':=h'
  injection h' with h' _ h7;injection h' with h';injection h' with h5 h6;subst h5 h6 h7;refine .inr ⟨g,o,cap,cur.setIfInBounds (o+j) u,rfl,hB,?_,h1,h2,by simpa using h3,?_⟩
  ·rw[setCell_eq_setRow w g (o+j) cur e (0,0) u hg]
   exact setRow_heap w g cur _ e (0,0) hg
  ·rw[←h4,Array.toList_setIfInBounds]
   apply List.ext_getElem?
   intro i
   simp only[List.getElem?_take,List.getElem?_drop,List.getElem?_set,List.length_take,List.length_drop]
   by_cases hi:i<n
   ·rw[if_pos hi]
    by_cases hij:j=i
    ·subst hij
     rw[if_pos rfl,if_pos rfl,if_pos (by simp;omega),if_pos (by simp;omega)]
    ·rw[if_neg qo,if_neg hij,if_pos hi]
   ·rw[if_neg hi]
    by_cases hij:j=i
    ·subst hij
     rw[if_pos rfl,if_neg qo]
    ·rw[if_neg hij,if_neg hi]
theorem OwnAt.tail {g o cap:Nat}{x:Value}(h:OwnAt w B e (.slice (some ⟨g,o,none⟩) (n+1) cap) (n+1) (x::xs))(hc:¬cap=1):OwnAt w B e (.slice (some ⟨g,o+1,none⟩) n (cap-1)) n xs:=by
 refine⟨by have:=h.1;simpa using this,?_⟩
 rcases h.2 with⟨h',_⟩|⟨g',o',cap',cur,h',hB,hg,h1,h2,h3,h4⟩
 ·cases h'
 ·injection h' with h' _ h7
  injection h' with h';injection h' with h5 h6;subst h5 h6 h7;refine .inr ⟨g,o+1,cap-1,cur,rfl,hB,hg,by omega,by omega,by omega,?_⟩;have h8:((cur.toList.drop o).take (n+1)).drop 1=xs:=by rw[h4];rfl
  rw[List.drop_take,List.drop_drop]at h8;exact h8
theorem OwnAt.zD {g o:Nat}{x:Value}(h:OwnAt w B e (.slice (some ⟨g,o,none⟩) 1 1) 1 [x]):OwnAt w B e (.slice (some ⟨g,o,none⟩) 0 0) 0 []:=by
 refine⟨rfl,?_⟩
 rcases h.2 with⟨h',_⟩|⟨g',o',cap',cur,h',hB,hg,h1,h2,h3,h4⟩
 ·cases h'
 ·injection h' with h' _ h7
  injection h' with h';injection h' with h5 h6;subst h5 h6 h7;exact .inr ⟨g,o,0,cur,rfl,hB,hg,Nat.le_refl _,Nat.zero_le _,by omega,by simp⟩
theorem OwnAt.front {g o cap:Nat}(h:OwnAt w B e (.slice (some ⟨g,o,none⟩) n cap) n xs){k:Nat}(hk:k≤n):OwnAt w B e (.slice (some ⟨g,o,none⟩) k cap) k (xs.take k):=by
 refine⟨by rw[List.length_take,h.1];omega,?_⟩
 rcases h.2 with⟨h',_⟩|⟨g',o',cap',cur,h',hB,hg,h1,h2,h3,h4⟩
 ·cases h'
 ·injection h' with h' _ h7
  injection h' with h';injection h' with h5 h6;subst h5 h6 h7;refine .inr ⟨g,o,cap,cur,rfl,hB,hg,by omega,h2,h3,?_⟩;rw[←h4,List.take_take]
  congr 1
  omega
end
theorem mV {P:Program}(w:World)(t ty e:TypeId)(i:TypeInfo)(ht:P.underlying t=some (.slice e))(hi:P.info? e=some i)(hs1:i.size=1)
 (g o sLen sCap:Nat) (cur:Array Value) (hg:w.heap[g]?=some (.cells cur e (0,0)))
 (a:Addr) (m c:Nat) (news:List Value) (hl:news.length=m) (hnews:∀j u,news[j]?=some u→w.cell? (a.add j)=some u) (h1:∀u∈news,u.oneCell'=true)
 (hroom:sLen+m≤sCap) (hfit:o+sLen+news.length≤cur.size):
 (Builtin.append_ #[t,t] ty #[.slice (some ⟨g,o,none⟩) sLen sCap,.slice (some a) m c]).run P w=
  .ok (.slice (some ⟨g,o,none⟩) (sLen+m) sCap) (w.setRow g (cur.toList.take (o+sLen)++news++cur.toList.drop (o+sLen+news.length)).toArray):=by
 have hf:=run_firstCells_some (P:=P) w i.size m a m c news (by rw[hs1];omega) hnews;have hst:=run_storeCells_at P g (o+sLen) e news 0 cur w hg (by simpa using hfit) h1
 simp only[Nat.add_zero]at hst
 rw[hs1]at hf
 simp[Builtin.append_,run_underlying ht,sizeOf,typeInfo,hi,hs1,Builtin.lenOf,hroom,hf,Addr.add_lit,hst]
theorem pG {P:Program}(w:World)(base:Nat)(t ty e:TypeId)(i:TypeInfo)(z:Value)(bytes:Nat)(ht:P.underlying t=some (.slice e))(hi:P.info? e=some i)(hz:i.zero=some z)
 (hsize:i.size=1) (hby:i.bytes=bytes) (hzs:z.cells.size=1)
 (v:Value) (n:Nat) (xs:List Value) (hown:OwnAt w base e v n xs)
 (a:Addr) (m c:Nat) (news:List Value) (hl:news.length=m) (hnews:∀j u,news[j]?=some u→w.cell? (a.add j)=some u) (h1:∀u∈news,u.oneCell'=true)
 (h63:n+m≤maxLen) (hbytes:(n+m)*bytes≤140737488355328) (hbase:base≤w.heap.size):
 ∃v' w',(Builtin.append_ #[t,t] ty #[v,.slice (some a) m c]).run P w=.ok v' w'∧OwnAt w' base e v' (n+m) (xs++news)∧w.grownBy w' v.ownBlock∧(v'.ownBlock=v.ownBlock∨v'.ownBlock=some w.heap.size):=by
 subst hby;have hsmall:n+m≤9223372036854775807:=by simp only[maxLen]at h63;omega
 rcases hown.2 with⟨rfl,rfl⟩|⟨g,o,cap,cur,rfl,hbg,hg,hnc,hcm,hcs,htake⟩
 ·obtain rfl:xs=[]:=List.eq_nil_of_length_eq_zero hown.1
  obtain⟨v',w',hr,ho,hgr,_,h5⟩:=run_append_own_at (P:=P) w base t ty e i z 1 i.bytes ht hi hz hsize rfl hzs qo (.slice none 0 0) 0 [] (World.ownsRow_nil _ _ _ _) a m c news qo hnews h1 h63 hbytes hbase;exact⟨v',w',hr,OwnAt.of ho,hgr,h5⟩
 ·have hxl:xs.length=n:=hown.1
  by_cases hroom:n+m≤cap
  ·have hr:=mV (P:=P) w t ty e i ht hi hsize g o n cap cur hg a m c news hl hnews h1 hroom qo
   refine⟨_,_,hr,⟨by rw[List.length_append];omega,.inr ⟨g,o,cap,_,rfl,hbg,setRow_heap w g cur _ e _ hg,hroom,hcm,?_,?_⟩⟩,⟨rfl,rfl,rfl,by simp[World.setRow],fun k _ hk=>setRow_other w g k _ (fun e=>hk (by simp[Value.ownBlock,e]))⟩,Or.inl rfl⟩
   ·simp only[List.size_toArray,List.length_append,List.length_take,List.length_drop,Array.length_toList]
    omega
   ·simp only[List.append_assoc]
    have e1:(cur.toList.take (o+n)++(news++cur.toList.drop (o+n+news.length))).drop o=(cur.toList.take (o+n)).drop o++(news++cur.toList.drop (o+n+news.length)):=List.drop_append_of_le_length (by rw[List.length_take,Array.length_toList];omega);have e2:(cur.toList.take (o+n)).drop o=xs:=by
     rw[←htake,List.drop_take]
     congr 1
     omega
    rw[e1,e2,←List.append_assoc,List.take_append_of_le_length (by rw[List.length_append];omega),List.take_of_length_le (by rw[List.length_append];omega)]
  ·have hr:=run_append_grow (P:=P) w t ty e i z ht hi hz ⟨g,o,none⟩ n cap xs (by rw[hsize];omega) (fun j u hu=>by
    have hj:j<n:=by have:=(List.getElem?_eq_some_iff.1 hu).1;omega
    rw[Addr.add_lit,(show OwnAt w base e (.slice (some ⟨g,o,none⟩) n cap) n xs from hown).cellAt hj];exact hu) a m c news (by rw[hsize];omega) hnews qo qo (growslice_fits qo hbytes)
   have hge:=grownCap_ge w (n+m) cap e;have hle:=grownCap_le_maxLen w (n+m) cap e h63;refine⟨_,_,hr,⟨by rw[List.length_append];omega,.inr ⟨w.heap.size,0,_,_,rfl,hbase,heap_alloc_new w.drew _,hge,hle,?_,?_⟩⟩,⟨rfl,rfl,rfl,by simp,fun k hk _=>RowKit.Below.heap_alloc w.drew _ k hk⟩,Or.inr rfl⟩
   ·rw[Array.size_append,Array.size_append,List.size_toArray,List.size_toArray,size_zeroCells,hzs,Nat.mul_one]
    omega
   ·simp only[List.drop_zero,Array.toList_append,List.append_assoc]
    rw[←List.append_assoc,List.take_append_of_le_length (by rw[List.length_append];omega),List.take_of_length_le (by rw[List.length_append];omega)]
theorem wQ {P:Program}{o:Oper}{cond:Bool}{a:Act}{K:Act→World→Prop}{Q:Exit→Act→World→Prop}{E:Prop}(W:World)(hcond:cond=true)(s x:Operand)(t:TypeId)
 (ho:o.op=.call {callee:=.builtin .append,args:=#[s,x],argTypes:=#[t,t]})
 (base:Nat) (e:TypeId) (i:TypeInfo) (z:Value) (bytes:Nat) (ht:P.underlying t=some (.slice e)) (hi:P.info? e=some i) (hz:i.zero=some z)
 (hsize:i.size=1) (hby:i.bytes=bytes) (hzs:z.cells.size=1)
 (v:Value) (n:Nat) (xs:List Value) (hs:a.eval s=v) (hown:OwnAt W base e v n xs)
 (te:TypeId) (m c:Nat) (news:List Value) (hx:a.eval x=.slice (some ⟨W.heap.size,0,none⟩) m c) (hl:news.length=m) (h1:∀u∈news,u.oneCell'=true)
 (h63:n+m≤maxLen) (hbytes:(n+m)*bytes≤140737488355328) (hbase:base≤W.heap.size)
 (h:∀v' w',OwnAt w' base e v' (n+m) (xs++news)→Fr W w' (fun b=>v.ownBlock=some b)→(v'.ownBlock=v.ownBlock∨v'.ownBlock=some (W.heap.size+1))→K (a.put o.dst v') w'):
 if cond=true then Oper.wp P o a (W.alloc (.cells news.toArray te)) K Q else E:=by
 rw[if_pos hcond];have hn:=heap_alloc_new W (.cells news.toArray te);obtain⟨v',w',hr,h2,h3,h5⟩:=pG (P:=P) (W.alloc (.cells news.toArray te)) base t o.type e i z bytes ht hi hz hsize hby hzs v n xs (hown.blk fun b hb=>Below.heap_alloc W _ b (hown.lt b hb).2) ⟨W.heap.size,0,none⟩ m c news hl (by
  intro j u hu;rw[Addr.add_lit,cell_of_row _ _ _ _ _ _ hn]
  simpa using hu) h1 h63 hbytes (by simp;omega)
 unfold Oper.wp execOp
 simp only[ho,resolve,invoke,builtin,Sem.run_bind,Sem.run_pure,Result.andThen_ok,List.map_toArray,List.map_cons,List.map_nil,hs,hx,hr]
 refine h v' w' h2 ⟨h3.os,h3.tape,h3.output,Nat.le_trans qj h3.size,fun b hb hne=>?_⟩ (by simpa using h5);exact(h3.block b (by simp;omega) (fun e=>hne e.symm)).trans (Below.heap_alloc W _ b hb)
end Go.Proofs.YtmnbgjnipbpiaaaGreat
namespace Go.Proofs.YtmnbgjnipbpiaaaGreat.G
variable {n:Nat}
theorem EF (hn:2≤n)(L:List (PM n)):strip (del::L)=strip L∧cnt (del::L)=cnt L+1:=by
 have h:=C7 hn
 constructor
 ·unfold strip
  rw[List.filter_cons_of_neg]
  simp
 ·unfold cnt
  rw[List.filter_cons_of_pos (by simp[h])]
  rfl
theorem x9 {p:PM n}{L:List (PM n)}(h:Still (p::L))(hp:p≠del):cnt (p::L)=0∧∀q∈p::L,q≠del:=by
 have hd:∀q∈p::L,q≠del:=fun q hq=>by
  rcases List.mem_cons.1 hq with rfl|hq
  ·exact hp
  ·exact lN h hp q hq
 refine⟨?_,hd⟩;unfold cnt;rw[List.length_eq_zero_iff,List.filter_eq_nil_iff];intro q hq
 simp[hd q hq]
theorem last_one (L:List (PM n)):strip (L++[one])=strip L:=by
 rw[gU]
 simp[strip]
theorem DR {L:List (PM n)}{p:PM n}(h:Still (L++[p]))(hd:∀q∈L++[p],q≠del)(hp:p≠one):strip (L++[p])=L++[p]:=by
 obtain⟨b,hb⟩:=jB h hd
 rcases b with _|b
 ·rw[List.replicate_zero,List.append_nil]at hb
  exact hb.symm
 ·rw[List.replicate_succ',←List.append_assoc]at hb
  have:=List.append_inj_right' hb rfl;injection this with this;exact absurd this hp
theorem t8 {L M:List (PM n)}(h:Steps L M):M=L∨mu M<mu L:=by
 induction h with
 |refl=>exact .inl rfl
 |head h _ ih=>
  have:=mu_step h
  rcases ih with rfl|ih
  ·exact .inr this
  ·exact .inr qo
theorem qB {L:List (PM n)}{i:Nat}{p q:PM n}(hp:L[i]?=some p)(hq:L[i+1]?=some q):L=L.take i++(p::q::L.drop (i+2)):=by
 have h1:i<L.length:=(List.getElem?_eq_some_iff.1 hp).1;have h2:i+1<L.length:=(List.getElem?_eq_some_iff.1 hq).1;rw[List.getElem?_eq_getElem h1]at hp;rw[List.getElem?_eq_getElem h2]at hq;injection hp with hp;injection hq with hq;rw[←hp,←hq];rw[←List.drop_eq_getElem_cons h2,←List.drop_eq_getElem_cons h1,List.take_append_drop]
theorem FV {L:List (PM n)}{i:Nat}{p q:PM n}(p' q':PM n)(hp:L[i]?=some p)(hq:L[i+1]?=some q):(L.set i p').set (i+1) q'=L.take i++(p'::q'::L.drop (i+2)):=by
 have h1:i+1<L.length:=(List.getElem?_eq_some_iff.1 hq).1;have hl:(L.take i).length=i:=by rw[List.length_take];omega
 conv=>lhs;rw[qB hp hq]
 generalize L.drop (i+2)=R;generalize L.take i=A at hl;subst hl;rw[List.set_append,if_neg qo,Nat.sub_self,List.set_append,if_neg qo,show A.length+1-A.length=1 by omega]
 rfl
theorem AX {L:List (PM n)}{i:Nat}{p q p' q':PM n}(hp:L[i]?=some p)(hq:L[i+1]?=some q)(h:Steps [p,q] [p',q']):Steps L ((L.set i p').set (i+1) q'):=by
 rw[FV p' q' hp hq]
 conv=>lhs;rw[qB hp hq]
 exact(h.back (L.drop (i+2))).front _
def hG (L:List (PM n))(i:Nat):Prop:=∀j,i≤j→∀p q,L[j]?=some p→L[j+1]?=some q→ext p q=0
theorem rG (L:List (PM n)){i:Nat}(h:L.length≤i+1):hG L i:=fun j hj p q _ hq=>by
 have:=(List.getElem?_eq_some_iff.1 hq).1;omega
theorem pE {L:List (PM n)}{i:Nat}{p q:PM n}(h:hG L (i+1))(hp:L[i]?=some p)(hq:L[i+1]?=some q)(he:ext p q=0):hG L i:=fun j hj p' q' hp' hq'=>by
 by_cases e:j=i
 ·subst e
  rw[hp]at hp';rw[hq]at hq';injection hp' with hp';injection hq' with hq';rw[←hp',←hq',he]
 ·exact h j qo p' q' hp' hq'
theorem rE {L:List (PM n)}(h:hG L 0):Still L:=mZ fun j _ _ p q hp hq=>h j (Nat.zero_le _) p q hp hq
end Go.Proofs.YtmnbgjnipbpiaaaGreat.G
namespace Go.Proofs.YtmnbgjnipbpiaaaGreat
open Go
section
variable {P:Program}{Q:Exit→Act→World→Prop}{md:Region.Mode}
def b8 (P:Program)(st:Oper)(Q:Exit→Act→World→Prop):Exit→Act→World→Prop
 |.normal,a,w=>st.wp P a w (fun a' w'=>Q .normal a' w') Q
 |e,a,w=>Q e a w
theorem b8.of {st:Oper}{a:Act}{w:World}(h:st.wp P a w (fun a' w'=>Q .normal a' w') Q):b8 P st Q .normal a w:=h
theorem BO {st:Oper}(h:LetsOut (b8 P st Q)):LetsOut Q:=h
theorem BC {o st:Oper}{a:Act}{w:World}{K:Act→World→Prop}(h:o.wp P a w K (b8 P st Q)):o.wp P a w K Q:=by
 unfold Oper.wp at*;generalize (execOp a.eval o).run P w=r at*
 cases r with
 |ok n w'=>
  cases n with
  |enter f args=>
   refine Calls.mono h fun e w'' he=>?_
   cases e<;>exact he
  |_=>exact h
 |halt x w'=>
  cases x<;>exact h
theorem fU {l:Array Bool}{i:Nat}:l.getD i true=false↔l[i]?=some false:=by
 rw[Array.getD_eq_getD_getElem?]
 cases h:l[i]? with
 |none=>simp
 |some b=>cases b<;>simp
theorem gY {l:Array Bool}{i:Nat}:l.getD i false=true↔l[i]?=some true:=by
 rw[Array.getD_eq_getD_getElem?]
 cases h:l[i]? with
 |none=>simp
 |some b=>cases b<;>simp
theorem iG (l:Array Bool)(i j:Nat):(l.setIfInBounds i true)[j]?=if i=j then(l[j]?).map (fun _=>true)else l[j]?:=by
 rw[Array.getElem?_setIfInBounds]
 by_cases h:i=j
 ·subst h
  rw[if_pos rfl,if_pos rfl]
  by_cases h:i<l.size
  ·rw[if_pos h,Array.getElem?_eq_getElem h];rfl
  ·rw[if_neg h,Array.getElem?_eq_none qo];rfl
 ·rw[if_neg h,if_neg h]
def Closed (md:Region.Mode)(ops:Array Oper)(l:Array Bool):Prop:=∀(j:Nat) (o:Oper),ops[j]?=some o→l[j]?=some true→∀e∈o.after,Region.binds md e=true→l[e.on]?=some true
structure s8 (md:Region.Mode)(ops ops':Array Oper)(st:Oper)(k:Nat):Prop where
 z:ops.size=k+1
 z':ops'.size=k
 old:∀i,i<k→ops[i]?=ops'[i]?
 last:ops[k]?=some st
 g:∀(i:Nat) (o:Oper),ops[i]?=some o→o.guard=none
 up:∀i,i<k→∃(j:Nat) (o:Oper),i<j∧ops[j]?=some o∧∃e∈o.after,Region.binds md e=true∧e.on=i
 dn:∀(j:Nat) (o:Oper),ops[j]?=some o→∀e∈o.after,Region.binds md e=true→e.on<j
variable {ops ops':Array Oper}{st:Oper}{k:Nat}
theorem KN (L:s8 md ops ops' st k){l':Array Bool}(hz':l'.size=k)(hr:Region.ready md ops' l'=[]):∀i,i<k→l'[i]?=some true:=fun i=>by
 induction i using Nat.strongRecOn with
 |_ i ih=>
  intro hi;obtain⟨b,hb⟩:∃b,l'[i]?=some b:=⟨_,Array.getElem?_eq_getElem qo⟩
  cases b with
  |true=>exact hb
  |false=>
   obtain⟨o,ho⟩:∃o,ops'[i]?=some o:=⟨_,Array.getElem?_eq_getElem (by have:=L.z';omega)⟩;have hm:i∈Region.ready md ops' l':=mem_ready.2 ⟨fU.2 hb,o,ho,fun e he hbd=>gY.2 (by
    have hlt:=L.dn i o ((L.old i hi).trans ho) e he hbd;exact ih _ hlt qo)⟩
   rw[hr]at hm
   cases hm
theorem NG (L:s8 md ops ops' st k){l:Array Bool}(hc:Closed md ops l)(hd:∀e∈st.after,Region.binds md e=true→l[e.on]?=some true):∀q i,i+q=k→i<k→l[i]?=some true:=fun q=>by
 induction q using Nat.strongRecOn with
 |_ q ih=>
  intro i hq hi;obtain⟨j,o,hij,ho,e,he,hb,rfl⟩:=L.up i hi;have hj:j<k+1:=by rw[←L.z];exact(Array.getElem?_eq_some_iff.1 ho).1
  by_cases hjk:j=k
  ·subst hjk
   rw[L.last]at ho
   cases ho
   exact hd e he hb
  ·exact hc j o ho (ih (k-j) qo j qo qo) e he hb
theorem DS (L:s8 md ops ops' st k):∀(fuel:Nat) (l l':Array Bool) (a:Act) (w:World),l.size=k+1→l'.size=k→(∀i,i<k→l[i]?=l'[i]?)→l[k]?=some false→Closed md ops l→
 wpAny P md ops' (b8 P st Q) fuel l' a w→wpAny P md ops Q (fuel+1) l a w:=by
 have fin:∀(fuel:Nat) (l l':Array Bool) (a:Act) (w:World),l.size=k+1→l'.size=k→(∀i,i<k→l[i]?=l'[i]?)→l[k]?=some false→Region.ready md ops' l'=[]→b8 P st Q .normal a w→wpAny P md ops Q (fuel+1) l a w:=by
  intro fuel l l' a w hz hz' hl hk hr hq;have hall:=KN L hz' hr;have hkr:k∈Region.ready md ops l:=mem_ready.2 ⟨fU.2 hk,st,L.last,fun e he hb=>gY.2 (by
   have hlt:=L.dn k st L.last e he hb;rw[hl _ hlt];exact hall _ hlt)⟩
  refine⟨fun h=>(by rw[h]at hkr;cases hkr),fun i hi=>?_⟩;obtain⟨hi0,o,ho,_⟩:=mem_ready.1 hi;have hik:i=k:=by
   have hlt:i<k+1:=by rw[←L.z];exact(Array.getElem?_eq_some_iff.1 ho).1
   rcases Nat.lt_or_ge i k with h|h
   ·have h2:=hall i h
    rw[←hl i h,fU.1 hi0]at h2
    cases h2
   ·omega
  subst hik;have hno:Region.ready md ops (l.setIfInBounds i true)=[]:=by
   refine List.eq_nil_iff_forall_not_mem.2 fun j hj=>?_;obtain⟨hj0,o',ho',_⟩:=mem_ready.1 hj;have hlt:j<i+1:=by rw[←L.z];exact(Array.getElem?_eq_some_iff.1 ho').1
   have hj1:=fU.1 hj0;rw[iG]at hj1
   by_cases hji:i=j
   ·subst hji
    rw[if_pos rfl,hk]at hj1
    cases hj1
   ·rw[if_neg hji,hl j qo,hall j qo]at hj1
    cases hj1
  unfold wpOp;rw[L.last];have hw:Region.wanted st (yielded ops a.tmps)=true:=by simp[Region.wanted,L.g i st L.last]
  simp only[hw,if_true]
  exact .inl (Oper.wp_mono (fun a' w' h=>wpAny_done hno h _) hq)
 intro fuel
 induction fuel with
 |zero=>exact fun l l' a w hz hz' hl hk _ h=>fin 0 l l' a w hz hz' hl hk h.1 h.2
 |succ n ih=>
  intro l l' a w hz hz' hl hk hc h
  by_cases hr:Region.ready md ops' l'=[]
  ·exact fin (n+1) l l' a w hz hz' hl hk hr (h.1 hr)
  ·obtain⟨q,hq⟩:=List.exists_mem_of_ne_nil _ hr
   obtain⟨hq0,oq,hoq,KX⟩:=mem_ready.1 hq;have hqk:q<k:=by rw[←L.z'];exact(Array.getElem?_eq_some_iff.1 hoq).1
   have hqr:q∈Region.ready md ops l:=mem_ready.2 ⟨fU.2 ((hl q hqk).trans (fU.1 hq0)),oq,(L.old q hqk).trans hoq,fun e he hb=>gY.2 ((hl _ (by have:=L.dn q oq ((L.old q hqk).trans hoq) e he hb;omega)).trans (gY.1 (KX e he hb)))⟩;refine⟨fun h0=>(by rw[h0]at hqr;cases hqr),fun i hi=>?_⟩;obtain⟨hi0,o,ho,hd⟩:=mem_ready.1 hi;have hik:i<k:=by
    have hlt:i<k+1:=by rw[←L.z];exact(Array.getElem?_eq_some_iff.1 ho).1
    refine Nat.lt_of_le_of_ne qo ?_;rintro rfl;rw[L.last]at ho
    cases ho
    have h2:=NG L hc (fun e he hb=>gY.1 (hd e he hb)) (i-q) q qo hqk;rw[hl q hqk,fU.1 hq0]at h2
    cases h2
   have hi':i∈Region.ready md ops' l':=mem_ready.2 ⟨fU.2 ((hl i hik).symm.trans (fU.1 hi0)),o,(L.old i hik).symm.trans ho,fun e he hb=>gY.2 ((hl _ (by have:=L.dn i o ho e he hb;omega)).symm.trans (gY.1 (hd e he hb)))⟩;have h1:=h.2 i hi';unfold wpOp at h1 ⊢;rw[←L.old i hik,ho]at h1;rw[ho];have hg:=L.g i o ho;have hw1:Region.wanted o (yielded ops a.tmps)=true:=by simp[Region.wanted,hg]
   have hw2:Region.wanted o (yielded ops' a.tmps)=true:=by simp[Region.wanted,hg]
   simp only[hw1,hw2,if_true]at h1 ⊢
   have hK:∀a' w',wpAny P md ops' (b8 P st Q) n (l'.setIfInBounds i true) a' w'→wpAny P md ops Q (n+1) (l.setIfInBounds i true) a' w':=fun a' w' hh=>by
    refine ih _ _ a' w' (by simpa using hz) (by simpa using hz') (fun j hj=>by rw[iG,iG,hl j hj]) (by rw[iG,if_neg qo,hk]) (fun j oj hoj hj e he hb=>?_) hh;have hdj:=L.dn j oj hoj e he hb;have hold:l[e.on]?=some true:=by
     rw[iG]at hj
     by_cases hij:i=j
     ·subst hij
      rw[ho]at hoj
      cases hoj
      exact gY.1 (hd e he hb)
     ·rw[if_neg hij]at hj
      exact hc j oj hoj hj e he hb
    rw[iG,hold]
    split<;>rfl
   rcases h1 with h1|⟨h1,h2⟩
   ·exact .inl (BC (st:=st) (Oper.wp_mono hK h1))
   ·exact .inr ⟨h1,BO h2⟩
theorem G0 (l:List Oper)(st:Oper)(i:Nat)(h:i<l.length):(l++[st]).toArray[i]?=l.toArray[i]?:=by
 rw[List.getElem?_toArray,List.getElem?_toArray,List.getElem?_append_left h]
def oB (md:Region.Mode)(ops:List Oper)(k:Nat):Bool:=
 ((List.range (k+1)).all fun j=>(ops[j]?).all fun o=>o.guard.isNone&&o.after.all fun e=>!Region.binds md e||decide (e.on<j))&&
 ((List.range k).all fun i=>(List.range (k+1)).any fun j=>decide (i<j)&&(ops[j]?).any fun o=>o.after.any fun e=>Region.binds md e&&e.on==i)
theorem DQ (l:List Oper)(st:Oper)(h:oB md (l++[st]) l.length=true):s8 md (l++[st]).toArray l.toArray st l.length:=by
 unfold oB at h;rw[Bool.and_eq_true,List.all_eq_true,List.all_eq_true]at h;obtain⟨h1,h2⟩:=h;have hz:(l++[st]).toArray.size=l.length+1:=by simp
 have hj:∀(j:Nat) (o:Oper),(l++[st]).toArray[j]?=some o→o.guard.isNone=true∧∀e∈o.after,Region.binds md e=true→e.on<j:=fun j o ho=>by
  have hlt:j<l.length+1:=by rw[←hz];exact(Array.getElem?_eq_some_iff.1 ho).1
  have h3:=h1 j (List.mem_range.2 hlt);rw[List.getElem?_toArray]at ho;rw[ho]at h3
  simp only[Option.all_some,Bool.and_eq_true]at h3
  refine⟨h3.1,fun e he hb=>?_⟩;have h4:=(Array.all_eq_true_iff_forall_mem.1 h3.2) e he
  simpa [hb]using h4
 refine⟨hz,by simp,fun i hi=>G0 l st i hi,by simp,fun i o ho=>by have:=(hj i o ho).1;simpa using this,fun i hi=>?_,fun j o ho=>(hj j o ho).2⟩;obtain⟨j,hjm,h3⟩:=List.any_eq_true.1 (h2 i (List.mem_range.2 hi));rw[Bool.and_eq_true]at h3;obtain⟨h4,h5⟩:=h3
 cases ho:(l++[st])[j]? with
 |none=>rw[ho]at h5;cases h5
 |some o=>
  rw[ho]at h5
  simp only[Option.any_some]at h5
  obtain⟨q,hq,h6⟩:=Array.any_eq_true.1 h5;have he:o.after[q]∈o.after:=Array.getElem_mem hq;rw[Bool.and_eq_true]at h6;exact⟨j,o,by simpa using h4,by rw[List.getElem?_toArray];exact ho,_,he,h6.1,by simpa using h6.2⟩
theorem pB {S:World→Prop}{id:Nat}{a:Act}{w:World}(l:List Oper)(st:Oper)(hm:P.follows .mixedOrders=true)(hb:oB .any (l++[st]) l.length=true)(hS:S w.drew)
 (h:S w.drew→wpAnyH P .any l.toArray (b8 P st Q) S l.length (Array.replicate l.length false) a w.drew):(Code.region id (l++[st]).toArray true).wp P Q a w:=by
 have L:=DQ l st hb;refine wp_region_any hm ?_;rw[L.z];refine DS L l.length _ (Array.replicate l.length false) a _ qj qj (fun i hi=>?_) qj (fun j o _ hj=>?_) (wpAny_of_held _ _ _ _ (h hS))
 ·rw[Array.getElem?_replicate,Array.getElem?_replicate,if_pos qo,if_pos hi]
 ·rw[Array.getElem?_replicate]at hj
  split at hj<;>cases hj
theorem aW {S:World→Prop}{id:Nat}{a:Act}{w:World}(L:List Oper)(hne:L≠[])(hm:P.follows .mixedOrders=true)(hb:oB .any L (L.length-1)=true)(hS:S w.drew)
 (h:S w.drew→wpAnyH P .any L.dropLast.toArray (b8 P (L.getLast hne) Q) S (L.length-1) (Array.replicate (L.length-1) false) a w.drew):(Code.region id L.toArray true).wp P Q a w:=by
 have e:=List.dropLast_concat_getLast hne;have hl:L.dropLast.length=L.length-1:=List.length_dropLast;have h1:=pB (P:=P) (Q:=Q) (S:=S) (id:=id) (a:=a) (w:=w) L.dropLast (L.getLast hne) hm (by rw[e,hl];exact hb) hS (fun hs=>by rw[hl];exact h hs);rwa[e]at h1
end
section
variable {P:Program}{Q:Exit→Act→World→Prop}{md:Region.Mode}{ops:Array Oper}{S:World→Prop}
theorem qt (i:Nat){oi:Oper}{v:Value}{fuel:Nat}{listed:Array Bool}{a:Act}{w:World}(hS:S w)
 (h:wpAnyH P md ops Q S fuel (listed.setIfInBounds i true) (a.put oi.dst v) w)
 (hi:ops[i]?=some oi:=by rfl) (hs:Region.noSelect ops=true:=by kernel_rfl) (hf:Region.free md ops listed i=true:=by kernel_rfl) (hr:(Region.ready md ops listed).contains i=true:=by kernel_rfl)
 (hQ:∀c a w,Q (.panic c) (a.put oi.dst v) w→Q (.panic c) a w:=by exact fun _ _ _ h=>h)
 (hg:Region.wanted oi (yielded ops a.tmps)=true:=by rfl) (hy:∀w,S w→(execOp a.eval oi).run P w=.ok (.value v) w:=by(intro w0 hSw;(try dsimp only at hSw);go_simp<;>with_reducible rfl)):
 wpAnyH P md ops Q S (fuel+1) listed a w:=wpAnyH_take hi hs hf hr hQ (Or.inl ⟨hg,hy⟩) hS h
end
end Go.Proofs.YtmnbgjnipbpiaaaGreat
namespace Go.Proofs.YtmnbgjnipbpiaaaGreat
open Go.RowKit
theorem eO (n lo hi:Int)(w:World):
 Calls Tryz.prog 31 #[.int .i64 n,.int .i64 lo,.int .i64 hi] w fun e w'=>e=.returned (.bool (aC n lo hi))∧w=w':=by
 go_enter Tryz.func31,Tryz.ntmps31
 go_wp2
 all_goals go_ret
 all_goals exact⟨by simp[aC];omega,rfl⟩
theorem bA (n lo hi:Int)(w:World):
 Calls Tryz.prog 71 #[.int .i64 n,.int .i64 lo,.int .i64 hi] w fun e w'=>e=.returned (.bool (aC n lo hi))∧w=w':=by
 go_enter Tryz.func71,Tryz.ntmps71
 go_wp2
 all_goals go_ret
 all_goals exact⟨by simp[aC];omega,rfl⟩
theorem rW (n:Int)(w:World):
 Calls Tryz.prog 108 #[.int .i64 n] w fun e w'=>e=.returned (.bool (aC n 1 4))∧w=w':=by
 go_enter Tryz.func108,Tryz.ntmps108
 go_wp2_with ((go_at_call 71;refine(bA _ _ _ _).mono ?_;rintro e w' ⟨rfl,rfl⟩))
 go_ret
 exact⟨rfl,rfl⟩
theorem dG (n:Int)(w:World):
 Calls Tryz.prog 53 #[.int .i64 n] w fun e w'=>e=.returned (.bool (aC n 1 4))∧w=w':=by
 go_enter Tryz.func53,Tryz.ntmps53
 go_wp2_with ((go_at_call 31;refine(eO _ _ _ _).mono ?_;rintro e w' ⟨rfl,rfl⟩))
 go_ret
 exact⟨rfl,rfl⟩
def K7 (k p c b y d n:Int):Prop:=
 0≤p∧((k=1∧p≤n-2∧(c=1∨c= -1)∧b=0∧y=0∧d=0)∨
  (k=2∧0≤c∧c≤4∧p≤n-c∧(b=1∨b=2)∧1≤y∧y≤4∧(d=1∨d= -1))∨
  (k=3∧c=0∧p≤n∧(b=1∨b=2)∧1≤y∧y≤4∧(d=1∨d= -1))∨
  (k=4∧1≤c∧c≤4∧p≤n-c∧b=0∧y=0∧d=0)∨
  (k=5∧1≤c∧c≤4∧1≤y∧y≤4∧(d=1∨d= -1)∧((b=1∧p≤n-c)∨(b=2∧c≤p∧p≤n))))
instance (k p c b y d n:Int):Decidable (K7 k p c b y d n):=by unfold K7;infer_instance
def aH (k c n:Int):Int:=if k=2 then n-c+1 else if k=3∨k=5 then n+1 else if k=4 then n-c else n
def tZ (d:Int):Bool:=decide (d=1∨d= -1)
def bM (b y d:Int):Bool:=aC b 1 2&&aC y 1 4&&tZ d
theorem iP {n lo hi:Int}(h:aC n lo hi=true):lo≤n∧n≤hi:=by simpa [aC]using h
theorem IN (b:Int):(b==1||b==2)=aC b 1 2:=by
 rw[Bool.eq_iff_iff]
 simp[aC]
 omega
theorem C5 (d:Int):(d==1||d== -1)=tZ d:=by
 rw[Bool.eq_iff_iff]
 simp[tZ]
theorem dX (b:Int)(w:World):Calls Tryz.prog 52 #[.int .i64 b] w fun e w'=>e=.returned (.bool (aC b 1 2))∧w=w':=by
 go_enter Tryz.func52,Tryz.ntmps52
 go_wp2_with ((go_at_call 31;refine(eO _ _ _ _).mono ?_;rintro e w' ⟨rfl,rfl⟩))
 go_ret
 exact⟨rfl,rfl⟩
theorem BS (b:Int)(w:World):Calls Tryz.prog 107 #[.int .i64 b] w fun e w'=>e=.returned (.bool (aC b 1 2))∧w=w':=by
 go_enter Tryz.func107,Tryz.ntmps107
 go_wp2
 all_goals go_ret
 ·obtain rfl:b=1:=by assumption
  exact⟨rfl,rfl⟩
 ·exact⟨qr (IN b),rfl⟩
theorem dW (d:Int)(w:World):Calls Tryz.prog 54 #[.int .i64 d] w fun e w'=>e=.returned (.bool (tZ d))∧w=w':=by
 go_enter Tryz.func54,Tryz.ntmps54
 go_wp2
 all_goals go_ret
 ·obtain rfl:d=1:=by assumption
  exact⟨rfl,rfl⟩
 ·exact⟨qr (C5 d),rfl⟩
theorem BR (d:Int)(w:World):Calls Tryz.prog 109 #[.int .i64 d] w fun e w'=>e=.returned (.bool (tZ d))∧w=w':=by
 go_enter Tryz.func109,Tryz.ntmps109
 go_wp2
 all_goals go_ret
 ·obtain rfl:d=1:=by assumption
  exact⟨rfl,rfl⟩
 ·exact⟨qr (C5 d),rfl⟩
theorem gK (k p c b y d:Int)(w:World):
 Calls Tryz.prog 94 #[.agg #[.int .i64 k,.int .i64 p,.int .i64 c,.int .i64 b,.int .i64 y,.int .i64 d]] w fun e w'=>e=.returned (.bool (bM b y d))∧Below w.heap.size w w':=by
 go_enter Tryz.func94,Tryz.ntmps94
 go_wp2_with (first|(go_at_call 107;refine(BS _ _).mono ?_;rintro e w' ⟨rfl,rfl⟩)|(go_at_call 108;refine(rW _ _).mono ?_;rintro e w' ⟨rfl,rfl⟩)|(go_at_call 109;refine(BR _ _).mono ?_;rintro e w' ⟨rfl,rfl⟩))
 all_goals go_ret
 all_goals exact⟨by simp[bM, *],qb⟩
theorem h9 (k p c b y d n:Int)(w:World)(hn:0≤n∧n≤1000000)(hc: -1000000≤c∧c≤1000000):
 Calls Tryz.prog 69 #[.agg #[.int .i64 k,.int .i64 p,.int .i64 c,.int .i64 b,.int .i64 y,.int .i64 d],.int .i64 n] w fun e w'=>e=.returned (.int .i64 (aH k c n))∧Below w.heap.size w w':=by
 go_enter Tryz.func69,Tryz.ntmps69
 go_wp2
 all_goals go_ret
 all_goals exact⟨by simp_all [aH],qb⟩
def bJ (b y d:Int):Bool:=decide (b=0)&&decide (y=0)&&(d==0)
theorem z9 (p c b y d n:Int)(w:World):
 Calls Tryz.prog 68 #[.agg #[.int .i64 3,.int .i64 p,.int .i64 c,.int .i64 b,.int .i64 y,.int .i64 d],.int .i64 n] w fun e w'=>e=.returned (.bool (decide (0≤p)&&(decide (c=0)&&decide (p≤n)&&bM b y d)))∧Below w.heap.size w w':=by
 by_cases hp:p<0
 ·go_enter Tryz.func68,Tryz.ntmps68
  go_wp2
  go_ret
  exact⟨by rw[show decide (0≤p)=false from decide_eq_false qo];rfl,qz⟩
 ·rw[show decide (0≤p)=true from decide_eq_true qo]
  by_cases hc:c=0
  ·subst hc
   by_cases hpn:p≤n
   ·go_enter Tryz.func68,Tryz.ntmps68
    go_wp2_with ((go_at_call 94;refine(gK _ _ _ _ _ _ _).mono ?_;rintro e w' ⟨rfl,hb⟩;have HB:=qh hb;clear hb))
    all_goals go_ret
    all_goals exact⟨qr (by simp_all),by have hb:=HB.o;(repeat' first|with_reducible exact Below.refl _ _|with_reducible refine Below.alloc ?_ ?_ _|with_reducible refine Below.setCell ?_ ?_ _|with_reducible refine Below.drew ?_|with_reducible refine Below.drewN' ?_ _|with_reducible(refine Below.trans ?_ (Below.mono (by assumption) ?_))|exact Nat.le_refl _|(simp;done)|(simp;omega)|omega)⟩
   ·go_enter Tryz.func68,Tryz.ntmps68
    go_wp2
    all_goals go_ret
    all_goals exact⟨qr (by rw[show decide (p≤n)=false from decide_eq_false qo];simp),qz⟩
  ·go_enter Tryz.func68,Tryz.ntmps68
   go_wp2
   all_goals go_ret
   all_goals exact⟨qr qj,qz⟩
theorem zB (p c b y d n:Int)(w:World)(hn:0≤n∧n≤1000000)(hp:0≤p):
 Calls Tryz.prog 68 #[.agg #[.int .i64 1,.int .i64 p,.int .i64 c,.int .i64 b,.int .i64 y,.int .i64 d],.int .i64 n] w fun e w'=>e=.returned (.bool (decide (p≤n-2)&&(decide (c=1)||decide (c= -1))&&bJ b y d))∧Below w.heap.size w w':=by
 by_cases hpn:p≤n-2
 ·by_cases hc:c=1
  ·subst hc
   go_enter Tryz.func68,Tryz.ntmps68
   go_wp2
   all_goals go_ret
   all_goals exact⟨qr (by simp_all [bJ]),qz⟩
  ·by_cases hc2:c= -1
   ·subst hc2
    go_enter Tryz.func68,Tryz.ntmps68
    go_wp2
    all_goals go_ret
    all_goals exact⟨qr (by simp_all [bJ]),qz⟩
   ·rw[show decide (c=1)=false from decide_eq_false hc,show decide (c= -1)=false from decide_eq_false hc2]
    go_enter Tryz.func68,Tryz.ntmps68
    go_wp2
    all_goals go_ret
    all_goals exact⟨qr qj,qz⟩
 ·rw[show decide (p≤n-2)=false from decide_eq_false hpn]
  go_enter Tryz.func68,Tryz.ntmps68
  go_wp2
  all_goals go_ret
  all_goals exact⟨qr qj,qz⟩
theorem zA (p c b y d n:Int)(w:World)(hn:0≤n∧n≤1000000)(hp:0≤p):
 Calls Tryz.prog 68 #[.agg #[.int .i64 2,.int .i64 p,.int .i64 c,.int .i64 b,.int .i64 y,.int .i64 d],.int .i64 n] w fun e w'=>e=.returned (.bool (aC c 0 4&&decide (p≤n-c)&&bM b y d))∧Below w.heap.size w w':=by
 cases hc:aC c 0 4
 ·go_enter Tryz.func68,Tryz.ntmps68
  go_wp2_with ((go_at_call 71;refine(bA _ _ _ _).mono ?_;rintro e w' ⟨rfl,rfl⟩))
  all_goals go_ret
  all_goals exact⟨qr qj,qz⟩
 ·have hcb:=iP hc
  by_cases hpn:p≤n-c
  ·rw[show decide (p≤n-c)=true from decide_eq_true hpn]
   go_enter Tryz.func68,Tryz.ntmps68
   go_wp2_with (first|(go_at_call 71;refine(bA _ _ _ _).mono ?_;rintro e w' ⟨rfl,rfl⟩)|(go_at_call 94;refine(gK _ _ _ _ _ _ _).mono ?_;rintro e w' ⟨rfl,hb⟩;have HB:=qh hb;clear hb))
   all_goals go_ret
   all_goals exact⟨qr (by simp_all),by have hb:=HB.o;(repeat' first|with_reducible exact Below.refl _ _|with_reducible refine Below.alloc ?_ ?_ _|with_reducible refine Below.setCell ?_ ?_ _|with_reducible refine Below.drew ?_|with_reducible refine Below.drewN' ?_ _|with_reducible(refine Below.trans ?_ (Below.mono (by assumption) ?_))|exact Nat.le_refl _|(simp;done)|(simp;omega)|omega)⟩
  ·rw[show decide (p≤n-c)=false from decide_eq_false hpn]
   go_enter Tryz.func68,Tryz.ntmps68
   go_wp2_with ((go_at_call 71;refine(bA _ _ _ _).mono ?_;rintro e w' ⟨rfl,rfl⟩))
   all_goals go_ret
   all_goals exact⟨qr qj,qz⟩
theorem z8 (p c b y d n:Int)(w:World)(hn:0≤n∧n≤1000000)(hp:0≤p):
 Calls Tryz.prog 68 #[.agg #[.int .i64 4,.int .i64 p,.int .i64 c,.int .i64 b,.int .i64 y,.int .i64 d],.int .i64 n] w fun e w'=>e=.returned (.bool (aC c 1 4&&decide (p≤n-c)&&bJ b y d))∧Below w.heap.size w w':=by
 cases hc:aC c 1 4
 ·go_enter Tryz.func68,Tryz.ntmps68
  go_wp2_with ((go_at_call 71;refine(bA _ _ _ _).mono ?_;rintro e w' ⟨rfl,rfl⟩))
  all_goals go_ret
  all_goals exact⟨qr qj,qz⟩
 ·have hcb:=iP hc
  by_cases hpn:p≤n-c
  ·rw[show decide (p≤n-c)=true from decide_eq_true hpn]
   go_enter Tryz.func68,Tryz.ntmps68
   go_wp2_with ((go_at_call 71;refine(bA _ _ _ _).mono ?_;rintro e w' ⟨rfl,rfl⟩))
   all_goals go_ret
   all_goals exact⟨qr (by simp_all [bJ]),qz⟩
  ·rw[show decide (p≤n-c)=false from decide_eq_false hpn]
   go_enter Tryz.func68,Tryz.ntmps68
   go_wp2_with ((go_at_call 71;refine(bA _ _ _ _).mono ?_;rintro e w' ⟨rfl,rfl⟩))
   all_goals go_ret
   all_goals exact⟨qr qj,qz⟩
theorem fT (k p c b y d:Int)(v:Bool)(w:World)(hv:bM b y d=v):
 Calls Tryz.prog 94 #[.agg #[.int .i64 k,.int .i64 p,.int .i64 c,.int .i64 b,.int .i64 y,.int .i64 d]] w fun e w'=>e=.returned (.bool v)∧Below w.heap.size w w':=
 hv▸gK k p c b y d w
theorem z7 (p c b y d n:Int)(w:World)(hn:0≤n∧n≤1000000)(hp:0≤p):
 Calls Tryz.prog 68 #[.agg #[.int .i64 5,.int .i64 p,.int .i64 c,.int .i64 b,.int .i64 y,.int .i64 d],.int .i64 n] w fun e w'=>e=.returned (.bool (aC c 1 4&&bM b y d&&(if b=1 then decide (p≤n-c)else aC p c n)))∧Below w.heap.size w w':=by
 cases hc:aC c 1 4
 ·go_enter Tryz.func68,Tryz.ntmps68
  go_wp2_with ((go_at_call 71;refine(bA _ _ _ _).mono ?_;rintro e w' ⟨rfl,rfl⟩))
  all_goals go_ret
  all_goals exact⟨qr qj,qz⟩
 ·have hcb:=iP hc
  cases hy:bM b y d
  ·have HY:=qh hy
   go_enter Tryz.func68,Tryz.ntmps68
   go_wp2_with (first|(go_at_call 71;refine(bA _ _ _ _).mono ?_;rintro e w' ⟨rfl,rfl⟩)|(go_at_call 94;refine(fT _ _ _ _ _ _ false _ (by have h:=HY.o;first|assumption|(simp_all;done))).mono ?_;rintro e w' ⟨rfl,hb⟩;have hx:=fun o=>((aJ hb).1 w.heap.size o qj).trans (cP rfl o);have HB:=qh hb;clear hb))
   all_goals go_ret
   all_goals exact⟨qr (by simp_all),by have hb:=HB.o;(repeat' first|with_reducible exact Below.refl _ _|with_reducible refine Below.alloc ?_ ?_ _|with_reducible refine Below.setCell ?_ ?_ _|with_reducible refine Below.drew ?_|with_reducible refine Below.drewN' ?_ _|with_reducible(refine Below.trans ?_ (Below.mono (by assumption) ?_))|exact Nat.le_refl _|(simp;done)|(simp;omega)|omega)⟩
  ·have HY:=qh hy
   by_cases hb1:b=1
   ·subst hb1
    rw[if_pos rfl]
    go_enter Tryz.func68,Tryz.ntmps68
    go_wp2_with (first|(go_at_call 71;refine(bA _ _ _ _).mono ?_;rintro e w' ⟨rfl,rfl⟩)|(go_at_call 94;refine(fT _ _ _ _ _ _ true _ (by have h:=HY.o;first|assumption|(simp_all;done))).mono ?_;rintro e w' ⟨rfl,hb⟩;have hx:=fun o=>((aJ hb).1 w.heap.size o qj).trans (cP rfl o);have HB:=qh hb;clear hb))
    all_goals go_ret
    all_goals exact⟨qr (by simp_all),by have hb:=HB.o;(repeat' first|with_reducible exact Below.refl _ _|with_reducible refine Below.alloc ?_ ?_ _|with_reducible refine Below.setCell ?_ ?_ _|with_reducible refine Below.drew ?_|with_reducible refine Below.drewN' ?_ _|with_reducible(refine Below.trans ?_ (Below.mono (by assumption) ?_))|exact Nat.le_refl _|(simp;done)|(simp;omega)|omega)⟩
   ·rw[if_neg hb1]
    go_enter Tryz.func68,Tryz.ntmps68
    go_wp2_with (first|(go_at_call 71;refine(bA _ _ _ _).mono ?_;rintro e w' ⟨rfl,rfl⟩)|(go_at_call 94;refine(fT _ _ _ _ _ _ true _ (by have h:=HY.o;first|assumption|(simp_all;done))).mono ?_;rintro e w' ⟨rfl,hb⟩;have hx:=fun o=>((aJ hb).1 w.heap.size o qj).trans (cP rfl o);have HB:=qh hb;clear hb))
    all_goals go_ret
    all_goals exact⟨qr (by simp_all),by have hb:=HB.o;(repeat' first|with_reducible exact Below.refl _ _|with_reducible refine Below.alloc ?_ ?_ _|with_reducible refine Below.setCell ?_ ?_ _|with_reducible refine Below.drew ?_|with_reducible refine Below.drewN' ?_ _|with_reducible(refine Below.trans ?_ (Below.mono (by assumption) ?_))|exact Nat.le_refl _|(simp;done)|(simp;omega)|omega)⟩
theorem zC (k p c b y d n:Int)(w:World)(hk:¬k=1∧¬k=2∧¬k=3∧¬k=4∧¬k=5)(hp:0≤p):
 Calls Tryz.prog 68 #[.agg #[.int .i64 k,.int .i64 p,.int .i64 c,.int .i64 b,.int .i64 y,.int .i64 d],.int .i64 n] w fun e w'=>e=.returned (.bool false)∧Below w.heap.size w w':=by
 obtain⟨h1,h2,h3,h4,h5⟩:=hk
 go_enter Tryz.func68,Tryz.ntmps68
 go_wp2
 all_goals go_ret
 all_goals exact⟨qr (by rfl),qz⟩
def bE (k p c b y d n:Int):Bool:=
 if p<0 then false
 else if k=1 then decide (p≤n-2)&&(decide (c=1)||decide (c= -1))&&bJ b y d
 else if k=2 then aC c 0 4&&decide (p≤n-c)&&bM b y d
 else if k=3 then decide (0≤p)&&(decide (c=0)&&decide (p≤n)&&bM b y d)
 else if k=4 then aC c 1 4&&decide (p≤n-c)&&bJ b y d
 else if k=5 then aC c 1 4&&bM b y d&&(if b=1 then decide (p≤n-c)else aC p c n)
 else false
theorem sE (k p c b y d n:Int)(w:World)(hp:p<0):
 Calls Tryz.prog 68 #[.agg #[.int .i64 k,.int .i64 p,.int .i64 c,.int .i64 b,.int .i64 y,.int .i64 d],.int .i64 n] w fun e w'=>e=.returned (.bool false)∧Below w.heap.size w w':=by
 go_enter Tryz.func68,Tryz.ntmps68
 go_wp2
 go_ret
 exact⟨rfl,qz⟩
theorem q7 (k p c b y d n:Int)(w:World)(hn:0≤n∧n≤1000000):
 Calls Tryz.prog 68 #[.agg #[.int .i64 k,.int .i64 p,.int .i64 c,.int .i64 b,.int .i64 y,.int .i64 d],.int .i64 n] w fun e w'=>e=.returned (.bool (bE k p c b y d n))∧Below w.heap.size w w':=by
 unfold bE
 by_cases hp:p<0
 ·rw[if_pos hp]
  exact sE k p c b y d n w hp
 ·rw[if_neg hp]
  have hp0:0≤p:=qo
  by_cases h1:k=1
  ·subst h1
   exact zB p c b y d n w hn hp0
  ·rw[if_neg h1]
   by_cases h2:k=2
   ·subst h2
    exact zA p c b y d n w hn hp0
   ·rw[if_neg h2]
    by_cases h3:k=3
    ·subst h3
     exact z9 p c b y d n w
    ·rw[if_neg h3]
     by_cases h4:k=4
     ·subst h4
      exact z8 p c b y d n w hn hp0
     ·rw[if_neg h4]
      by_cases h5:k=5
      ·subst h5
       exact z7 p c b y d n w hn hp0
      ·rw[if_neg h5]
       exact zC k p c b y d n w ⟨h1,h2,h3,h4,h5⟩ hp0
theorem dP {k p c b y d n:Int}(h:bE k p c b y d n=true):0≤aH k c n∧aH k c n≤n+1∧ -1000000≤c∧c≤1000000∧0≤n:=by
 unfold bE at h
 by_cases hp:p<0
 ·rw[if_pos hp]at h;cases h
 ·rw[if_neg hp]at h
  unfold aH
  by_cases h1:k=1
  ·subst h1
   simp at h
   simp
   omega
  ·rw[if_neg h1]at h
   by_cases h2:k=2
   ·subst h2
    simp[aC]at h
    simp
    omega
   ·rw[if_neg h2]at h
    by_cases h3:k=3
    ·subst h3
     simp at h
     simp
     omega
    ·rw[if_neg h3]at h
     by_cases h4:k=4
     ·subst h4
      simp[aC]at h
      simp
      omega
     ·rw[if_neg h4]at h
      by_cases h5:k=5
      ·subst h5
       simp[aC]at h
       simp
       obtain⟨⟨h6,_⟩,h7⟩:=h
       by_cases hb:b=1
       ·rw[if_pos hb]at h7
        omega
       ·rw[if_neg hb]at h7
        omega
      ·rw[if_neg h5]at h;cases h
def cnt (z:Nat→Int)(n:Int):Nat→Option Int
 |0=>some n
 |k+1=>match cnt z n k with
  |none=>none
  |some m=>if bE (z (k*6)) (z (k*6+1)) (z (k*6+2)) (z (k*6+3)) (z (k*6+4)) (z (k*6+5)) m=true∧aH (z (k*6)) (z (k*6+2)) m≤12 then some (aH (z (k*6)) (z (k*6+2)) m)else none
theorem cO (z:Nat→Int)(n:Int){j k:Nat}(h:j≤k)(hj:cnt z n j=none):cnt z n k=none:=by
 induction k with
 |zero=>
  obtain rfl:j=0:=qo;exact hj
 |succ k ih=>
  rcases Nat.lt_or_ge k j with hlt|hge
  ·obtain rfl:j=k+1:=qo
   exact hj
  ·simp only[cnt,ih hge]
structure jX (w:World)(g o:Nat)(k p c b y d:Int):Prop where
 c0:w.cell? ⟨g,o,none⟩=some (.int .i64 k)
 c1:w.cell? ⟨g,o+1,none⟩=some (.int .i64 p)
 c2:w.cell? ⟨g,o+2,none⟩=some (.int .i64 c)
 c3:w.cell? ⟨g,o+3,none⟩=some (.int .i64 b)
 c4:w.cell? ⟨g,o+4,none⟩=some (.int .i64 y)
 c5:w.cell? ⟨g,o+5,none⟩=some (.int .i64 d)
def gT (ok:Bool)(a:Int)(w:World)(e:Ending)(w':World):Prop:=∃v q,e=.returned (.tuple #[.int .i64 v,.bool ok])∧(ok=true→v=a)∧w'=w.drewN q
theorem f4 {a a':Int}{x x':Bool}(h1:a=a')(h2:x=x'):Ending.returned (.tuple #[.int .i64 a,.bool x])=.returned (.tuple #[.int .i64 a',.bool x']):=by rw[h1,h2]
theorem aO {ok x:Bool}{a v:Int}{w:World}(q:Nat)(h:x=ok)(hv:ok=true→v=a):gT ok a w (.returned (.tuple #[.int .i64 v,.bool x])) (w.drewN q):=⟨v,q,f4 rfl h,hv,rfl⟩
theorem oC (k p c b y d n:Int)(g o:Nat)(w:World)(H:Hq (jX w g o k p c b y d))(hp:p<0∨n<p):
 Calls Tryz.prog 30 #[.pointer (some ⟨g,o,none⟩),.int .i64 n] w (gT false 0 w):=by
 have h0:=H.o.c0;have h1:=H.o.c1;have h3:=H.o.c3;have h4:=H.o.c4;have h5:=H.o.c5
 go_enter Tryz.func30,Tryz.ntmps30
 go_upto_region 1 with fail
 go_cut [6]from 9 to 27 (fun s6 wx=>(∃x,s6=.bool x)∧wx=w)
 case first=>
  go_wp2_with (first|(go_at_call 52;refine(dX _ _).mono ?_;rintro e w' ⟨rfl,rfl⟩)|(go_at_call 53;refine(dG _ _).mono ?_;rintro e w' ⟨rfl,rfl⟩)|(go_at_call 54;refine(dW _ _).mono ?_;rintro e w' ⟨rfl,rfl⟩))
  all_goals go_meet
  all_goals exact⟨⟨_,rfl⟩,rfl⟩
 case rest=>
  obtain⟨⟨x,rfl⟩,rfl⟩:=hcut
  go_upto_region 2 with fail
  go_cut [7]from 28 to 46 (fun s7 wx=>(∃x,s7=.bool x)∧wx=wc)
  case first=>
   go_wp2
   all_goals go_meet
   all_goals exact⟨⟨_,rfl⟩,rfl⟩
  case rest=>
   obtain⟨⟨x',rfl⟩,rfl⟩:=hcut
   rcases hp with hp|hp
   ·go_wp2
    go_ret2
    exact aO 0 rfl (fun h=>by cases h)
   ·by_cases hp0:p<0
    ·go_wp2
     go_ret2
     exact aO 0 rfl (fun h=>by cases h)
    ·go_wp2
     go_ret2
     exact aO 0 rfl (fun h=>by cases h)
theorem gJ (n lo hi:Int)(w:World):Calls Tryz.prog 31 #[.int .i64 n,.int .i64 lo,.int .i64 hi] w fun e w'=>e=.returned (.bool (aC n lo hi))∧w'=w:=(eO n lo hi w).mono fun _ _ h=>⟨h.1,h.2.symm⟩
theorem rO (p c b y d n:Int)(g o:Nat)(w:World)(H:Hq (jX w g o 1 p c b y d))(hn:0≤n∧n≤1000000)(hp0:¬p<0)(hpn:¬n<p):
 Calls Tryz.prog 30 #[.pointer (some ⟨g,o,none⟩),.int .i64 n] w (gT (bE 1 p c b y d n) (aH 1 c n) w):=by
 have h0:=H.o.c0;have h1:=H.o.c1;have h2:=H.o.c2;have h3:=H.o.c3;have h4:=H.o.c4;have h5:=H.o.c5;have he:bE 1 p c b y d n=(decide (p≤n-2)&&(decide (c=1)||decide (c= -1))&&bJ b y d):=by
  unfold bE;rw[if_neg hp0]
  rfl
 rw[he];clear he;obtain⟨Y,hY⟩:∃Y,bM b y d=Y:=⟨_,rfl⟩;obtain⟨N,hN⟩:∃N,bJ b y d=N:=⟨_,rfl⟩
 simp only[hN]
 have HY:=qh hY;have HN:=qh hN;clear hY hN
 go_enter Tryz.func30,Tryz.ntmps30
 go_upto_region 1 with fail
 go_cut [6]from 9 to 27 (fun s6 wx=>s6=.bool Y∧wx=w)
 case first=>
  go_wp2_with (first|(go_at_call 52;refine(dX _ _).mono ?_;rintro e w' ⟨rfl,rfl⟩)|(go_at_call 53;refine(dG _ _).mono ?_;rintro e w' ⟨rfl,rfl⟩)|(go_at_call 54;refine(dW _ _).mono ?_;rintro e w' ⟨rfl,rfl⟩))
  all_goals go_meet
  all_goals exact⟨congrArg Value.bool (by rw[←HY.o];simp_all [bM]),rfl⟩
 case rest=>
  obtain⟨rfl,rfl⟩:=hcut
  go_upto_region 2 with fail
  go_cut [7]from 28 to 46 (fun s7 wx=>s7=.bool N∧wx=wc)
  case first=>
   go_wp2
   all_goals go_meet
   all_goals exact⟨congrArg Value.bool (by rw[←HN.o];simp_all [bJ]),rfl⟩
  case rest=>
   obtain⟨rfl,rfl⟩:=hcut
   cases N
   ·go_wp2
    go_quiet (fail)
    go_wp2_with fail
    go_ret2
    exact aO nq (by first|rfl|(simp;done)|(rw[Bool.eq_iff_iff];simp;done)|(simp_all;done)|(simp_all [aC];done)|(simp_all [aC];omega)) (fun h=>by first|rfl|cases h|(simp at h;done)|(exfalso;simp_all;done)|(exfalso;simp_all;omega))
   ·by_cases hc1:c=1
    ·subst hc1
     by_cases hl:p+1<n
     ·have s1:IntKind.i64.wrap (p+1)=p+1:=IntWalk.i64_in _ qo
      go_wp2
      go_quiet (fail)
      go_wp2_with fail
      go_ret2
      exact aO nq (by first|rfl|(simp;done)|(rw[Bool.eq_iff_iff];simp;done)|(simp_all;done)|(simp_all [aC];done)|(simp_all [aC];omega)) (fun h=>by first|rfl|cases h|(simp at h;done)|(exfalso;simp_all;done)|(exfalso;simp_all;omega))
     ·have s1:IntKind.i64.wrap (p+1)=p+1:=IntWalk.i64_in _ qo
      go_wp2
      go_quiet (fail)
      go_wp2_with fail
      go_ret2
      exact aO nq (by first|rfl|(simp;done)|(rw[Bool.eq_iff_iff];simp;done)|(simp_all;done)|(simp_all [aC];done)|(simp_all [aC];omega)) (fun h=>by first|rfl|cases h|(simp at h;done)|(exfalso;simp_all;done)|(exfalso;simp_all;omega))
    ·have b1:(c==1)=false:=by simpa using hc1
     by_cases hc2:c= -1
     ·subst hc2
      by_cases hl:p+1<n
      ·have s1:IntKind.i64.wrap (p+1)=p+1:=IntWalk.i64_in _ qo
       go_wp2
       go_quiet (fail)
       go_wp2_with fail
       go_ret2
       exact aO nq (by first|rfl|(simp;done)|(rw[Bool.eq_iff_iff];simp;done)|(simp_all;done)|(simp_all [aC];done)|(simp_all [aC];omega)) (fun h=>by first|rfl|cases h|(simp at h;done)|(exfalso;simp_all;done)|(exfalso;simp_all;omega))
      ·have s1:IntKind.i64.wrap (p+1)=p+1:=IntWalk.i64_in _ qo
       go_wp2
       go_quiet (fail)
       go_wp2_with fail
       go_ret2
       exact aO nq (by first|rfl|(simp;done)|(rw[Bool.eq_iff_iff];simp;done)|(simp_all;done)|(simp_all [aC];done)|(simp_all [aC];omega)) (fun h=>by first|rfl|cases h|(simp at h;done)|(exfalso;simp_all;done)|(exfalso;simp_all;omega))
     ·have b2:(c== -1)=false:=by simpa using hc2
      go_wp2
      go_quiet (fail)
      go_wp2_with fail
      go_ret2
      exact aO nq (by first|rfl|(simp;done)|(rw[Bool.eq_iff_iff];simp;done)|(simp_all;done)|(simp_all [aC];done)|(simp_all [aC];omega)) (fun h=>by first|rfl|cases h|(simp at h;done)|(exfalso;simp_all;done)|(exfalso;simp_all;omega))
theorem rM (p c b y d n:Int)(g o:Nat)(w:World)(H:Hq (jX w g o 3 p c b y d))(hn:0≤n∧n≤1000000)(hp0:¬p<0)(hpn:¬n<p):
 Calls Tryz.prog 30 #[.pointer (some ⟨g,o,none⟩),.int .i64 n] w (gT (bE 3 p c b y d n) (aH 3 c n) w):=by
 have h0:=H.o.c0;have h1:=H.o.c1;have h2:=H.o.c2;have h3:=H.o.c3;have h4:=H.o.c4;have h5:=H.o.c5;have he:bE 3 p c b y d n=(decide (c=0)&&bM b y d):=by
  unfold bE;rw[if_neg hp0];rw[if_neg (show¬(3:Int)=1 by decide),if_neg (show¬(3:Int)=2 by decide),if_pos rfl,show decide (0≤p)=true from decide_eq_true qo,show decide (p≤n)=true from decide_eq_true qo];simp
 rw[he];clear he;obtain⟨Y,hY⟩:∃Y,bM b y d=Y:=⟨_,rfl⟩;obtain⟨N,hN⟩:∃N,bJ b y d=N:=⟨_,rfl⟩
 simp only[hY]
 have HY:=qh hY;have HN:=qh hN;clear hY hN
 go_enter Tryz.func30,Tryz.ntmps30
 go_upto_region 1 with fail
 go_cut [6]from 9 to 27 (fun s6 wx=>s6=.bool Y∧wx=w)
 case first=>
  go_wp2_with (first|(go_at_call 52;refine(dX _ _).mono ?_;rintro e w' ⟨rfl,rfl⟩)|(go_at_call 53;refine(dG _ _).mono ?_;rintro e w' ⟨rfl,rfl⟩)|(go_at_call 54;refine(dW _ _).mono ?_;rintro e w' ⟨rfl,rfl⟩))
  all_goals go_meet
  all_goals exact⟨congrArg Value.bool (by rw[←HY.o];simp_all [bM]),rfl⟩
 case rest=>
  obtain⟨rfl,rfl⟩:=hcut
  go_upto_region 2 with fail
  go_cut [7]from 28 to 46 (fun s7 wx=>s7=.bool N∧wx=wc)
  case first=>
   go_wp2
   all_goals go_meet
   all_goals exact⟨congrArg Value.bool (by rw[←HN.o];simp_all [bJ]),rfl⟩
  case rest=>
   obtain⟨rfl,rfl⟩:=hcut;have s1:IntKind.i64.wrap (n+1)=n+1:=IntWalk.i64_in _ qo
   cases Y
   ·go_wp2
    go_quiet (fail)
    go_wp2_with fail
    go_ret2
    exact aO nq (by first|rfl|(simp;done)|(rw[Bool.eq_iff_iff];simp;done)|(simp_all;done)|(simp_all [aC];done)|(simp_all [aC];omega)) (fun h=>by first|rfl|cases h|(simp at h;done)|(exfalso;simp_all;done)|(exfalso;simp_all;omega))
   ·go_wp2
    go_quiet (fail)
    go_wp2_with fail
    go_ret2
    exact aO nq (by first|rfl|(simp;done)|(rw[Bool.eq_iff_iff];simp;done)|(simp_all;done)|(simp_all [aC];done)|(simp_all [aC];omega)) (fun h=>by first|rfl|cases h|(simp at h;done)|(exfalso;simp_all;done)|(exfalso;simp_all;omega))
theorem rL (p c b y d n:Int)(g o:Nat)(w:World)(H:Hq (jX w g o 4 p c b y d))(hn:0≤n∧n≤1000000)(hp0:¬p<0)(hpn:¬n<p):
 Calls Tryz.prog 30 #[.pointer (some ⟨g,o,none⟩),.int .i64 n] w (gT (bE 4 p c b y d n) (aH 4 c n) w):=by
 have h0:=H.o.c0;have h1:=H.o.c1;have h2:=H.o.c2;have h3:=H.o.c3;have h4:=H.o.c4;have h5:=H.o.c5;have he:bE 4 p c b y d n=(aC c 1 4&&decide (p≤n-c)&&bJ b y d):=by
  unfold bE;rw[if_neg hp0]
  rfl
 rw[he];clear he;obtain⟨Y,hY⟩:∃Y,bM b y d=Y:=⟨_,rfl⟩;obtain⟨N,hN⟩:∃N,bJ b y d=N:=⟨_,rfl⟩
 simp only[hN]
 have HY:=qh hY;have HN:=qh hN;clear hY hN
 go_enter Tryz.func30,Tryz.ntmps30
 go_upto_region 1 with fail
 go_cut [6]from 9 to 27 (fun s6 wx=>s6=.bool Y∧wx=w)
 case first=>
  go_wp2_with (first|(go_at_call 52;refine(dX _ _).mono ?_;rintro e w' ⟨rfl,rfl⟩)|(go_at_call 53;refine(dG _ _).mono ?_;rintro e w' ⟨rfl,rfl⟩)|(go_at_call 54;refine(dW _ _).mono ?_;rintro e w' ⟨rfl,rfl⟩))
  all_goals go_meet
  all_goals exact⟨congrArg Value.bool (by rw[←HY.o];simp_all [bM]),rfl⟩
 case rest=>
  obtain⟨rfl,rfl⟩:=hcut
  go_upto_region 2 with fail
  go_cut [7]from 28 to 46 (fun s7 wx=>s7=.bool N∧wx=wc)
  case first=>
   go_wp2
   all_goals go_meet
   all_goals exact⟨congrArg Value.bool (by rw[←HN.o];simp_all [bJ]),rfl⟩
  case rest=>
   obtain⟨rfl,rfl⟩:=hcut
   cases N
   ·go_wp2
    go_quiet ((go_at_call 31;exact Calls.quiet_of_same (gJ _ _ _ _)))
    go_wp2_with fail
    go_ret2
    exact aO nq (by first|rfl|(simp;done)|(rw[Bool.eq_iff_iff];simp;done)|(simp_all;done)|(simp_all [aC];done)|(simp_all [aC];omega)) (fun h=>by first|rfl|cases h|(simp at h;done)|(exfalso;simp_all;done)|(exfalso;simp_all;omega))
   ·cases hI:aC c 1 4
    ·go_wp2
     go_quiet ((go_at_call 31;exact Calls.quiet_of_same (gJ _ _ _ _)))
     go_wp2_with fail
     go_ret2
     exact aO nq (by first|rfl|(simp;done)|(rw[Bool.eq_iff_iff];simp;done)|(simp_all;done)|(simp_all [aC];done)|(simp_all [aC];omega)) (fun h=>by first|rfl|cases h|(simp at h;done)|(exfalso;simp_all;done)|(exfalso;simp_all;omega))
    ·have hI2:=iP hI
     have s1:IntKind.i64.wrap (n-c)=n-c:=IntWalk.i64_in _ qo;have s3:IntKind.i64.wrap (p+c)=p+c:=IntWalk.i64_in _ qo
     go_wp2
     go_quiet ((go_at_call 31;exact Calls.quiet_of_same (gJ _ _ _ _)))
     go_wp2_with fail
     go_ret2
     exact aO nq (by first|rfl|(simp;done)|(rw[Bool.eq_iff_iff];simp;done)|(simp_all;done)|(simp_all [aC];done)|(simp_all [aC];omega)) (fun h=>by first|rfl|cases h|(simp at h;done)|(exfalso;simp_all;done)|(exfalso;simp_all;omega))
theorem rN (p c b y d n:Int)(g o:Nat)(w:World)(H:Hq (jX w g o 2 p c b y d))(hn:0≤n∧n≤1000000)(hp0:¬p<0)(hpn:¬n<p):
 Calls Tryz.prog 30 #[.pointer (some ⟨g,o,none⟩),.int .i64 n] w (gT (bE 2 p c b y d n) (aH 2 c n) w):=by
 have h0:=H.o.c0;have h1:=H.o.c1;have h2:=H.o.c2;have h3:=H.o.c3;have h4:=H.o.c4;have h5:=H.o.c5;have he:bE 2 p c b y d n=(aC c 0 4&&decide (p≤n-c)&&bM b y d):=by
  unfold bE;rw[if_neg hp0]
  rfl
 rw[he];clear he;obtain⟨Y,hY⟩:∃Y,bM b y d=Y:=⟨_,rfl⟩;obtain⟨N,hN⟩:∃N,bJ b y d=N:=⟨_,rfl⟩
 simp only[hY]
 have HY:=qh hY;have HN:=qh hN;clear hY hN
 go_enter Tryz.func30,Tryz.ntmps30
 go_upto_region 1 with fail
 go_cut [6]from 9 to 27 (fun s6 wx=>s6=.bool Y∧wx=w)
 case first=>
  go_wp2_with (first|(go_at_call 52;refine(dX _ _).mono ?_;rintro e w' ⟨rfl,rfl⟩)|(go_at_call 53;refine(dG _ _).mono ?_;rintro e w' ⟨rfl,rfl⟩)|(go_at_call 54;refine(dW _ _).mono ?_;rintro e w' ⟨rfl,rfl⟩))
  all_goals go_meet
  all_goals exact⟨congrArg Value.bool (by rw[←HY.o];simp_all [bM]),rfl⟩
 case rest=>
  obtain⟨rfl,rfl⟩:=hcut
  go_upto_region 2 with fail
  go_cut [7]from 28 to 46 (fun s7 wx=>s7=.bool N∧wx=wc)
  case first=>
   go_wp2
   all_goals go_meet
   all_goals exact⟨congrArg Value.bool (by rw[←HN.o];simp_all [bJ]),rfl⟩
  case rest=>
   obtain⟨rfl,rfl⟩:=hcut
   cases Y
   ·go_wp2
    go_quiet ((go_at_call 31;exact Calls.quiet_of_same (gJ _ _ _ _)))
    go_wp2_with fail
    go_ret2
    exact aO nq (by first|rfl|(simp;done)|(rw[Bool.eq_iff_iff];simp;done)|(simp_all;done)|(simp_all [aC];done)|(simp_all [aC];omega)) (fun h=>by first|rfl|cases h|(simp at h;done)|(exfalso;simp_all;done)|(exfalso;simp_all;omega))
   ·cases hI:aC c 0 4
    ·go_wp2
     go_quiet ((go_at_call 31;exact Calls.quiet_of_same (gJ _ _ _ _)))
     go_wp2_with fail
     go_ret2
     exact aO nq (by first|rfl|(simp;done)|(rw[Bool.eq_iff_iff];simp;done)|(simp_all;done)|(simp_all [aC];done)|(simp_all [aC];omega)) (fun h=>by first|rfl|cases h|(simp at h;done)|(exfalso;simp_all;done)|(exfalso;simp_all;omega))
    ·have hI2:=iP hI
     have s1:IntKind.i64.wrap (n-c)=n-c:=IntWalk.i64_in _ qo;have s2:IntKind.i64.wrap (n-c+1)=n-c+1:=IntWalk.i64_in _ qo;have s3:IntKind.i64.wrap (p+c)=p+c:=IntWalk.i64_in _ qo
     go_wp2
     go_quiet ((go_at_call 31;exact Calls.quiet_of_same (gJ _ _ _ _)))
     go_wp2_with fail
     go_ret2
     exact aO nq (by first|rfl|(simp;done)|(rw[Bool.eq_iff_iff];simp;done)|(simp_all;done)|(simp_all [aC];done)|(simp_all [aC];omega)) (fun h=>by first|rfl|cases h|(simp at h;done)|(exfalso;simp_all;done)|(exfalso;simp_all;omega))
theorem rK (p c b y d n:Int)(g o:Nat)(w:World)(H:Hq (jX w g o 5 p c b y d))(hn:0≤n∧n≤1000000)(hp0:¬p<0)(hpn:¬n<p):
 Calls Tryz.prog 30 #[.pointer (some ⟨g,o,none⟩),.int .i64 n] w (gT (bE 5 p c b y d n) (aH 5 c n) w):=by
 have h0:=H.o.c0;have h1:=H.o.c1;have h2:=H.o.c2;have h3:=H.o.c3;have h4:=H.o.c4;have h5:=H.o.c5;have he:bE 5 p c b y d n=(aC c 1 4&&bM b y d&&(if b=1 then decide (p≤n-c)else aC p c n)):=by
  unfold bE;rw[if_neg hp0]
  rfl
 rw[he];clear he;obtain⟨Y,hY⟩:∃Y,bM b y d=Y:=⟨_,rfl⟩;obtain⟨N,hN⟩:∃N,bJ b y d=N:=⟨_,rfl⟩
 simp only[hY]
 have HY:=qh hY;have HN:=qh hN;clear hY hN
 go_enter Tryz.func30,Tryz.ntmps30
 go_upto_region 1 with fail
 go_cut [6]from 9 to 27 (fun s6 wx=>s6=.bool Y∧wx=w)
 case first=>
  go_wp2_with (first|(go_at_call 52;refine(dX _ _).mono ?_;rintro e w' ⟨rfl,rfl⟩)|(go_at_call 53;refine(dG _ _).mono ?_;rintro e w' ⟨rfl,rfl⟩)|(go_at_call 54;refine(dW _ _).mono ?_;rintro e w' ⟨rfl,rfl⟩))
  all_goals go_meet
  all_goals exact⟨congrArg Value.bool (by rw[←HY.o];simp_all [bM]),rfl⟩
 case rest=>
  obtain⟨rfl,rfl⟩:=hcut
  go_upto_region 2 with fail
  go_cut [7]from 28 to 46 (fun s7 wx=>s7=.bool N∧wx=wc)
  case first=>
   go_wp2
   all_goals go_meet
   all_goals exact⟨congrArg Value.bool (by rw[←HN.o];simp_all [bJ]),rfl⟩
  case rest=>
   obtain⟨rfl,rfl⟩:=hcut
   by_cases hb:b=1
   ·subst hb
    cases Y
    ·have s1:IntKind.i64.wrap (n+1)=n+1:=IntWalk.i64_in _ qo
     go_wp2
     go_quiet (fail)
     go_wp2_with fail
     go_ret2
     exact aO nq (by first|rfl|(simp;done)|(rw[Bool.eq_iff_iff];simp;done)|(simp_all;done)|(simp_all [aC];done)|(simp_all [aC];omega)) (fun h=>by first|rfl|cases h|(simp at h;done)|(exfalso;simp_all;done)|(exfalso;simp_all;omega))
    ·cases hI:aC c 1 4
     ·have s1:IntKind.i64.wrap (n+1)=n+1:=IntWalk.i64_in _ qo
      go_wp2_with (go_at_call 31;refine(eO _ _ _ _).mono ?_;rintro e w' ⟨rfl,rfl⟩)
      go_quiet (fail)
      go_wp2_with fail
      go_ret2
      exact aO nq (by first|rfl|(simp;done)|(rw[Bool.eq_iff_iff];simp;done)|(simp_all;done)|(simp_all [aC];done)|(simp_all [aC];omega)) (fun h=>by first|rfl|cases h|(simp at h;done)|(exfalso;simp_all;done)|(exfalso;simp_all;omega))
     ·have hI2:=iP hI
      have s1:IntKind.i64.wrap (n+1)=n+1:=IntWalk.i64_in _ qo;have s3:IntKind.i64.wrap (p+c)=p+c:=IntWalk.i64_in _ qo
      go_wp2_with (go_at_call 31;refine(eO _ _ _ _).mono ?_;rintro e w' ⟨rfl,rfl⟩)
      go_quiet (fail)
      go_wp2_with fail
      go_ret2
      exact aO nq (by first|rfl|(simp;done)|(rw[Bool.eq_iff_iff];simp;done)|(simp_all;done)|(simp_all [aC];done)|(simp_all [aC];omega)) (fun h=>by first|rfl|cases h|(simp at h;done)|(exfalso;simp_all;done)|(exfalso;simp_all;omega))
   ·have bb:(b==1)=false:=by simpa using hb
    cases Y
    ·have s1:IntKind.i64.wrap (n+1)=n+1:=IntWalk.i64_in _ qo
     go_wp2
     go_quiet (fail)
     go_wp2_with fail
     go_ret2
     exact aO nq (by first|rfl|(simp;done)|(rw[Bool.eq_iff_iff];simp;done)|(simp_all;done)|(simp_all [aC];done)|(simp_all [aC];omega)) (fun h=>by first|rfl|cases h|(simp at h;done)|(exfalso;simp_all;done)|(exfalso;simp_all;omega))
    ·cases hI:aC c 1 4
     ·have s1:IntKind.i64.wrap (n+1)=n+1:=IntWalk.i64_in _ qo
      go_wp2_with (go_at_call 31;refine(eO _ _ _ _).mono ?_;rintro e w' ⟨rfl,rfl⟩)
      go_quiet (fail)
      go_wp2_with fail
      go_ret2
      exact aO nq (by first|rfl|(simp;done)|(rw[Bool.eq_iff_iff];simp;done)|(simp_all;done)|(simp_all [aC];done)|(simp_all [aC];omega)) (fun h=>by first|rfl|cases h|(simp at h;done)|(exfalso;simp_all;done)|(exfalso;simp_all;omega))
     ·have hI2:=iP hI
      have s1:IntKind.i64.wrap (n+1)=n+1:=IntWalk.i64_in _ qo;have s3:IntKind.i64.wrap (p+c)=p+c:=IntWalk.i64_in _ qo
      go_wp2_with (go_at_call 31;refine(eO _ _ _ _).mono ?_;rintro e w' ⟨rfl,rfl⟩)
      go_quiet (fail)
      go_wp2_with fail
      go_ret2
      exact aO nq (by first|rfl|(simp;done)|(rw[Bool.eq_iff_iff];simp;done)|(simp_all;done)|(simp_all [aC];done)|(simp_all [aC];omega)) (fun h=>by first|rfl|cases h|(simp at h;done)|(exfalso;simp_all;done)|(exfalso;simp_all;omega))
theorem rP (k p c b y d n:Int)(g o:Nat)(w:World)(H:Hq (jX w g o k p c b y d))(hn:0≤n∧n≤1000000)(hp0:¬p<0)(hpn:¬n<p)(hk:¬k=1∧¬k=2∧¬k=3∧¬k=4∧¬k=5):
 Calls Tryz.prog 30 #[.pointer (some ⟨g,o,none⟩),.int .i64 n] w (gT (bE k p c b y d n) (aH k c n) w):=by
 have h0:=H.o.c0;have h1:=H.o.c1;have h2:=H.o.c2;have h3:=H.o.c3;have h4:=H.o.c4;have h5:=H.o.c5;have he:bE k p c b y d n=false:=by
  unfold bE;rw[if_neg hp0];rw[if_neg hk.1,if_neg hk.2.1,if_neg hk.2.2.1,if_neg hk.2.2.2.1,if_neg hk.2.2.2.2]
 rw[he];clear he;obtain⟨Y,hY⟩:∃Y,bM b y d=Y:=⟨_,rfl⟩;obtain⟨N,hN⟩:∃N,bJ b y d=N:=⟨_,rfl⟩;have HY:=qh hY;have HN:=qh hN;clear hY hN
 go_enter Tryz.func30,Tryz.ntmps30
 go_upto_region 1 with fail
 go_cut [6]from 9 to 27 (fun s6 wx=>s6=.bool Y∧wx=w)
 case first=>
  go_wp2_with (first|(go_at_call 52;refine(dX _ _).mono ?_;rintro e w' ⟨rfl,rfl⟩)|(go_at_call 53;refine(dG _ _).mono ?_;rintro e w' ⟨rfl,rfl⟩)|(go_at_call 54;refine(dW _ _).mono ?_;rintro e w' ⟨rfl,rfl⟩))
  all_goals go_meet
  all_goals exact⟨congrArg Value.bool (by rw[←HY.o];simp_all [bM]),rfl⟩
 case rest=>
  obtain⟨rfl,rfl⟩:=hcut
  go_upto_region 2 with fail
  go_cut [7]from 28 to 46 (fun s7 wx=>s7=.bool N∧wx=wc)
  case first=>
   go_wp2
   all_goals go_meet
   all_goals exact⟨congrArg Value.bool (by rw[←HN.o];simp_all [bJ]),rfl⟩
  case rest=>
   obtain⟨rfl,rfl⟩:=hcut;obtain⟨k1,k2,k3,k4,k5⟩:=hk
   go_wp2
   go_ret2
   exact aO 0 rfl (fun h=>by cases h)
theorem GD (k p c b y d n:Int)(h:p<0):bE k p c b y d n=false:=by unfold bE;rw[if_pos h]
theorem GE (k p c b y d n:Int)(h:n<p):bE k p c b y d n=false:=by
 cases hv:bE k p c b y d n
 ·rfl
 ·exfalso
  unfold bE at hv
  by_cases hp:p<0
  ·rw[if_pos hp]at hv;cases hv
  ·rw[if_neg hp]at hv
   by_cases h1:k=1
   ·rw[if_pos h1]at hv;simp at hv;omega
   ·rw[if_neg h1]at hv
    by_cases h2:k=2
    ·rw[if_pos h2]at hv;simp[aC]at hv;omega
    ·rw[if_neg h2]at hv
     by_cases h3:k=3
     ·rw[if_pos h3]at hv;simp at hv;omega
     ·rw[if_neg h3]at hv
      by_cases h4:k=4
      ·rw[if_pos h4]at hv;simp[aC]at hv;omega
      ·rw[if_neg h4]at hv
       by_cases h5:k=5
       ·rw[if_pos h5]at hv
        by_cases hb:b=1
        ·simp[aC,hb]at hv;omega
        ·simp[aC,hb]at hv;omega
       ·rw[if_neg h5]at hv;cases hv
theorem fR (k p c b y d n:Int)(g o:Nat)(w:World)(H:Hq (jX w g o k p c b y d))(hn:0≤n∧n≤1000000):
 Calls Tryz.prog 30 #[.pointer (some ⟨g,o,none⟩),.int .i64 n] w (gT (bE k p c b y d n) (aH k c n) w):=by
 by_cases hp:p<0
 ·rw[GD _ _ _ _ _ _ _ hp]
  exact(oC k p c b y d n g o w H (.inl hp)).mono fun e w' ⟨v,q,he,_,hw⟩=>⟨v,q,he,(fun h=>by cases h),hw⟩
 by_cases hf:n<p
 ·rw[GE _ _ _ _ _ _ _ hf]
  exact(oC k p c b y d n g o w H (.inr hf)).mono fun e w' ⟨v,q,he,_,hw⟩=>⟨v,q,he,(fun h=>by cases h),hw⟩
 by_cases h1:k=1
 ·subst h1;exact rO p c b y d n g o w H hn hp hf
 by_cases h2:k=2
 ·subst h2;exact rN p c b y d n g o w H hn hp hf
 by_cases h3:k=3
 ·subst h3;exact rM p c b y d n g o w H hn hp hf
 by_cases h4:k=4
 ·subst h4;exact rL p c b y d n g o w H hn hp hf
 by_cases h5:k=5
 ·subst h5;exact rK p c b y d n g o w H hn hp hf
 exact rP k p c b y d n g o w H hn hp hf ⟨h1,h2,h3,h4,h5⟩
theorem vN {w:World}{A:Option Addr}{n:Nat}{z:Nat→Int}(h:Rd w A (n*6) (fun j=>.int .i64 (z j))){k:Nat}(hk:k<n):
 ∃g o,A=some ⟨g,o,none⟩∧g<w.heap.size∧jX w g (o+k*6) (z (k*6)) (z (k*6+1)) (z (k*6+2)) (z (k*6+3)) (z (k*6+4)) (z (k*6+5)):=by
 obtain⟨g,o,e,hg,hr⟩:=h qo;refine⟨g,o,e,hg,?_,?_,?_,?_,?_,?_⟩
 ·exact hr (k*6) qo
 all_goals rw[Nat.add_assoc];exact hr _ qo
def dY (z:Nat→Int)(n:Nat):Option Int:=if n≤2000 then cnt z 0 n else none
theorem iE {z:Nat→Int}{k:Nat}{m:Int}(h:cnt z 0 k=some m):0≤m∧m≤12:=by
 induction k generalizing m with
 |zero=>simp[cnt]at h;omega
 |succ k ih=>
  simp only[cnt]at h
  cases h1:cnt z 0 k with
  |none=>rw[h1]at h;cases h
  |some m1=>
   rw[h1]at h
   simp only at h
   by_cases h2:bE (z (k*6)) (z (k*6+1)) (z (k*6+2)) (z (k*6+3)) (z (k*6+4)) (z (k*6+5)) m1=true∧aH (z (k*6)) (z (k*6+2)) m1≤12
   ·rw[if_pos h2]at h
    injection h with h;subst h;exact⟨(dP h2.1).1,h2.2⟩
   ·rw[if_neg h2]at h;cases h
theorem l1 {z:Nat→Int}{k:Nat}{m:Int}(h:cnt z 0 k=some m)(hv:bE (z (k*6)) (z (k*6+1)) (z (k*6+2)) (z (k*6+3)) (z (k*6+4)) (z (k*6+5)) m=true)(ha:aH (z (k*6)) (z (k*6+2)) m≤12):cnt z 0 (k+1)=some (aH (z (k*6)) (z (k*6+2)) m):=by
 simp only[cnt,h]
 rw[if_pos ⟨hv,ha⟩]
theorem iV {z:Nat→Int}{k:Nat}{m:Int}(h:cnt z 0 k=some m)(hv:¬(bE (z (k*6)) (z (k*6+1)) (z (k*6+2)) (z (k*6+3)) (z (k*6+4)) (z (k*6+5)) m=true∧aH (z (k*6)) (z (k*6+2)) m≤12)):cnt z 0 (k+1)=none:=by
 simp only[cnt,h]
 rw[if_neg hv]
theorem tB (A:OA)(n c:Nat)(z:Nat→Int)(w:World)(ha:Rd w A (n*6) (fun j=>.int .i64 (z j)))(hn:n≤1048576):
 Calls Tryz.prog 14 #[.slice A n c] w fun e w'=>∃v,e=.returned (.tuple #[.int .i64 v,.bool (dY z n).isSome])∧∃q,w'=w.drewN q:=by
 have HA:=qh ha;clear ha
 go_enter Tryz.func14,Tryz.ntmps14
 go_wp2
 go_loopw [4,5] (fun m i wr=>∃k:Nat,k≤n∧i=.int .i64 k∧(∃x,Hq (cnt z 0 k=some x)∧m=.int .i64 x)∧∃q,wr=w.drewN q) (fun _ i _=>n-(intOf i).toNat)
 case atStart=>exact⟨0,Nat.zero_le _,rfl,⟨0,qh rfl,rfl⟩,0,rfl⟩
 case round=>
  obtain⟨k,hk,rfl,⟨x,HX,rfl⟩,q,rfl⟩:=hrel;have hxb:=iE HX.o
  by_cases hlt:k<n
  ·obtain⟨g,o,rfl,hg,hev⟩:=vN HA.o hlt
   obtain⟨E,hE⟩:=qx (bE (z (k*6)) (z (k*6+1)) (z (k*6+2)) (z (k*6+3)) (z (k*6+4)) (z (k*6+5)) x);obtain⟨F,hF⟩:=qx (aH (z (k*6)) (z (k*6+2)) x);have hb:=fun h=>dP (k:=z (k*6)) (p:=z (k*6+1)) (c:=z (k*6+2)) (b:=z (k*6+3)) (y:=z (k*6+4)) (d:=z (k*6+5)) (n:=x) h;have hcall:∀w',Calls Tryz.prog 30 #[.pointer (some ⟨g,o+k*6,none⟩),.int .i64 x] (w.drewN w') (gT E F (w.drewN w')):=fun w'=>by
    rw[hE,hF];exact fR _ _ _ _ _ _ x g (o+k*6) (w.drewN w') (qh ⟨hev.c0,hev.c1,hev.c2,hev.c3,hev.c4,hev.c5⟩) ⟨by omega,by omega⟩
   rw[←hE,←hF]at hb;have HC:=qh hcall;have HE:=qh hE;have HF:=qh hF;have cV:=qh hb;clear hcall hE hF hev hb
   go_wp2_with fail
   refine(HC.o q).mono ?_;rintro e w1 ⟨v,q1,rfl,hv,rfl⟩;have HV:=qh hv;clear hv
   cases E
   ·go_wp2
    go_ret2
    refine⟨_,f4 rfl ?_,_,rfl⟩;have:=cO z 0 (show k+1≤n by omega) (iV HX.o (fun h=>by rw[←HE.o]at h;exact absurd h.1 qj))
    simp[dY,this]
   ·obtain rfl:v=F:=HV.o rfl
    have hb:=cV.o rfl
    by_cases h12:12<v
    ·go_wp2
     go_ret2
     refine⟨_,f4 rfl ?_,_,rfl⟩;have:=cO z 0 (show k+1≤n by omega) (iV HX.o (fun h=>by rw[←HF.o]at h;omega))
     simp[dY,this]
    ·go_wp2
     go_roundw
     case rel=>exact⟨k+1,by omega,qg,⟨v,qh (by rw[HF.o];exact l1 HX.o HE.o.symm (by rw[←HF.o];omega)),rfl⟩,_,rfl⟩
     case measure=>exact qs
  ·obtain rfl:n=k:=qo
   go_wp2
   go_ret2
   refine⟨_,f4 rfl ?_,_,rfl⟩;have hx:=HX.o;unfold dY
   by_cases h2:n≤2000
   ·simp[h2,hx];omega
   ·simp[h2];omega
theorem nM (A:OA)(n c:Nat)(z:Nat→Int)(w:World)(ha:Rd w A (n*6) (fun j=>.int .i64 (z j)))(hn:n≤1048576):
 Calls Tryz.prog 39 #[.int .i64 0,.slice A n c] w fun e w'=>∃v,e=.returned (.tuple #[.int .i64 v,.bool (cnt z 0 n).isSome])∧Below w.heap.size w w':=by
 have HA:=qh ha;clear ha
 go_enter Tryz.func39,Tryz.ntmps39
 go_wp2
 go_loopw [0,10] (fun m i wr=>∃k:Nat,k≤n∧i=.int .i64 k∧(∃x,Hq (cnt z 0 k=some x)∧m=.int .i64 x)∧Below w.heap.size w wr) (fun _ i _=>n-(intOf i).toNat)
 case atStart=>exact⟨0,Nat.zero_le _,rfl,⟨0,qh rfl,rfl⟩,Below.refl _ _⟩
 case round=>
  obtain⟨k,hk,rfl,⟨x,HX,rfl⟩,hbl⟩:=hrel;have HB:=qh hbl;clear hbl;have hxb:=iE HX.o
  by_cases hlt:k<n
  ·obtain⟨g,o,rfl,hg,hev⟩:=vN (HA.o.below HB.o) hlt
   obtain⟨k0,hk0⟩:=qx (z (k*6));obtain⟨p0,hp0⟩:=qx (z (k*6+1));obtain⟨c0,hc0⟩:=qx (z (k*6+2));obtain⟨b0,hb0⟩:=qx (z (k*6+3));obtain⟨y0,hy0⟩:=qx (z (k*6+4));obtain⟨d0,hd0⟩:=qx (z (k*6+5));rw[←hk0,←hp0,←hc0,←hb0,←hy0,←hd0]at hev;have p7:=qh (l1 HX.o);have lJ:=qh (iV HX.o);rw[←hk0,←hp0,←hc0,←hb0,←hy0,←hd0]at p7 lJ;have a0:=hev.c0;have a1:=hev.c1;have a2:=hev.c2;have a3:=hev.c3;have a4:=hev.c4;have a5:=hev.c5;clear hev hk0 hp0 hc0 hb0 hy0 hd0;obtain⟨E,hE⟩:=qx (bE k0 p0 c0 b0 y0 d0 x);have hb:=fun h=>dP (k:=k0) (p:=p0) (c:=c0) (b:=b0) (y:=y0) (d:=d0) (n:=x) h;have HE:=qh hE;have cV:=qh hb;clear hE hb
   go_wp2_with fail
   refine(q7 k0 p0 c0 b0 y0 d0 x _ ⟨by omega,by omega⟩).mono ?_;rintro e w1 ⟨rfl,hb1⟩;rw[←HE.o];have x1:=fun o=>((aJ hb1).1 wr.heap.size o qj).trans (cP rfl o);have HB1:=qh (HB.o.trans (Below.trans ((Below.refl _ _).alloc HB.o.size _) (hb1.mono (by simp;have:=HB.o.size;omega))));clear hb1
   cases E
   ·go_wp2
    go_ret2
    refine⟨_,f4 rfl ?_,HB1.o⟩;have:=cO z 0 (show k+1≤n by omega) (lJ.o (fun h=>by rw[←HE.o]at h;exact absurd h.1 qj))
    simp[this]
   ·have hb:=cV.o HE.o.symm
    go_wp2_with fail
    refine(h9 k0 p0 c0 b0 y0 d0 x _ ⟨by omega,by omega⟩ ⟨by omega,by omega⟩).mono ?_;rintro e w2 ⟨rfl,hb2⟩;have HB2:=HB1.st hb2;clear hb2 x1;obtain⟨F,hF⟩:=qx (aH k0 c0 x);rw[←hF]at hb ⊢;have HF:=qh hF;clear hF
    by_cases h12:12<F
    ·go_wp2
     go_ret2
     refine⟨_,f4 rfl ?_,HB2.o⟩;have:=cO z 0 (show k+1≤n by omega) (lJ.o (fun h=>by rw[←HF.o]at h;omega))
     simp[this]
    ·go_wp2
     go_roundw
     case rel=>exact⟨k+1,by omega,qg,⟨F,qh (by rw[HF.o];exact p7.o HE.o.symm (by rw[←HF.o];omega)),rfl⟩,HB2.o⟩
     case measure=>exact qs
  ·obtain rfl:n=k:=qo
   have CJ:=qh HX.o
   go_wp2
   go_ret2
   exact⟨_,f4 rfl (by rw[HX.o];rfl),HB.o⟩
theorem jA (A:OA)(n c:Nat)(z:Nat→Int)(w:World)(ha:Rd w A (n*6) (fun j=>.int .i64 (z j)))(hn:n≤1048576):
 Calls Tryz.prog 22 #[.slice A n c] w fun e w'=>e=.returned (.bool (dY z n).isSome)∧Below w.heap.size w w':=by
 have HC:=qh (nM A n c z w ha hn);clear ha
 go_enter Tryz.func22,Tryz.ntmps22
 go_wp2_with fail
 refine HC.o.mono ?_;rintro e w1 ⟨v,rfl,hb⟩;have HB:=qh hb;clear hb
 by_cases h2:n≤2000
 ·go_wp2
  all_goals go_ret
  all_goals exact⟨sS (by unfold dY;rw[if_pos qo];first|(simp_all;done)|(simp_all;omega)),HB.o⟩
 ·go_wp2
  all_goals go_ret
  all_goals exact⟨sS (by unfold dY;rw[if_neg qo];first|(simp_all;done)|(simp_all;omega)),HB.o⟩
end Go.Proofs.YtmnbgjnipbpiaaaGreat
namespace Go.Proofs.YtmnbgjnipbpiaaaGreat
open Go.RowKit
open Classical in
noncomputable def triv (n:Nat)(w:List Int):Bool:=decide (G.acts n (0,[]) w=(0,[]))
open Classical in
noncomputable def gP (n:Nat)(a b:List Int):Bool:=decide (G.acts n (0,[]) a=G.acts n (0,[]) b)
theorem sH (n:Nat):triv n []=true:=by simp[triv,G.acts]
theorem jD (n:Nat)(w:List Int):gP n w []=triv n w:=rfl
def oA (z:Nat→Int)(k:Nat):Int:=z (k*6+2)*(z (k*6+1)+1)
def jY (z:Nat→Int):Nat→List Int
 |0=>[]
 |k+1=>if z (k*6)=1 then jY z k++[oA z k]else []
def dC (z:Nat→Int):Nat→List Int
 |0=>[]
 |k+1=>if z (k*6)=1 then G.red (dC z k++[oA z k])else []
theorem FQ (z:Nat→Int)(k:Nat):G.red (jY z k)=dC z k:=by
 induction k with
 |zero=>rfl
 |succ k ih=>
  simp only[jY,dC]
  by_cases h:z (k*6)=1
  ·rw[if_pos h,if_pos h,←ih,G.DJ]
  ·rw[if_neg h,if_neg h]
   rfl
abbrev aF:=Int×List Int×List Int
def eQ (z:Nat→Int)(k:Nat):List Int:=[z (k*6),z (k*6+1),z (k*6+2),z (k*6+3),z (k*6+4),z (k*6+5)]
def aR (o:List aF)(s:List Int):List aF:=match o.getLast? with
 |some b=>o.dropLast++[(b.1,b.2.1,b.2.2++s)]
 |none=>[]
def bC (z:Nat→Int)(k:Nat):Int:=(cnt z 0 k).getD 0
noncomputable def flush (n:Int)(w:List Int)(o:List aF):Option (List aF):=if 40<w.length then none else if triv n.toNat w=true then some o else some (o++[(n,w,[])])
noncomputable def cG (z:Nat→Int):Nat→Option (List aF)
 |0=>some [(0,[],[])]
 |k+1=>if z (k*6)=1 then cG z k else(cG z k).bind fun o=>(flush (bC z k) (dC z k) o).map fun o'=>aR o' (eQ z k)
noncomputable def cA (z:Nat→Int)(n:Nat):Option (List aF):=((cG z n).bind fun o=>flush (bC z n) (dC z n) o).bind fun o=>if o.length≤60 then some o else none
theorem m4 {n:Int}{w:List Int}{o o':List aF}(h:flush n w o=some o'):o.length≤o'.length∧o'.length≤o.length+1:=by
 unfold flush at h
 split at h
 ·cases h
 ·split at h
  ·injection h with h
   rw[←h];omega
  ·injection h with h
   rw[←h]
   simp
theorem aI (o:List aF)(s:List Int):(aR o s).length=o.length:=by
 unfold aR
 cases h:o.getLast? with
 |none=>
  have:=List.getLast?_eq_none_iff.1 h
  simp[this]
 |some b=>
  have:0<o.length:=List.length_pos_iff.2 fun e=>by rw[e]at h;cases h
  simp
  omega
theorem GH {z:Nat→Int}{k:Nat}{o:List aF}(h:cG z k=some o):1≤o.length∧o.length≤k+1:=by
 induction k generalizing o with
 |zero=>injection h with h;rw[←h];simp
 |succ k ih=>
  simp only[cG]at h
  split at h
  ·have:=ih h
   omega
  ·cases hk:cG z k with
   |none=>rw[hk]at h;cases h
   |some o1=>
    rw[hk]at h
    simp only[Option.bind_some]at h
    cases hf:flush (bC z k) (dC z k) o1 with
    |none=>rw[hf]at h;cases h
    |some o2=>
     rw[hf]at h;injection h with h;rw[←h,aI];have:=ih hk;have:=m4 hf;omega
theorem vI {z:Nat→Int}{j k:Nat}(hjk:j≤k){o:List aF}(h:cG z k=some o):∃o1,cG z j=some o1∧o1.length≤o.length:=by
 induction k generalizing o with
 |zero=>
  obtain rfl:j=0:=qo;exact⟨o,h,Nat.le_refl _⟩
 |succ k ih=>
  by_cases hj:j=k+1
  ·subst hj
   exact⟨o,h,Nat.le_refl _⟩
  ·simp only[cG]at h
   split at h
   ·exact ih qo h
   ·cases hk:cG z k with
    |none=>rw[hk]at h;cases h
    |some o1=>
     rw[hk]at h
     simp only[Option.bind_some]at h
     cases hf:flush (bC z k) (dC z k) o1 with
     |none=>rw[hf]at h;cases h
     |some o2=>
      rw[hf]at h;injection h with h;obtain⟨o3,h3,h4⟩:=ih qo hk;refine⟨o3,h3,?_⟩;rw[←h,aI];have:=m4 hf;omega
theorem EJ {z:Nat→Int}{j k:Nat}(hjk:j≤k)(h:cG z j=none):cG z k=none:=by
 cases hk:cG z k with
 |none=>rfl
 |some o=>
  obtain⟨o1,h1,_⟩:=vI hjk hk;rw[h]at h1
  cases h1
theorem vJ {z:Nat→Int}{j n:Nat}(hj:j≤n)(h:cG z j=none):cA z n=none:=by
 unfold cA;rw[EJ hj h]
 rfl
theorem EK {z:Nat→Int}{j n:Nat}(hj:j≤n){o:List aF}(h:cG z j=some o)(ho:60<o.length):cA z n=none:=by
 unfold cA
 cases hk:cG z n with
 |none=>rfl
 |some o1=>
  obtain⟨o2,h2,h3⟩:=vI hj hk;rw[h]at h2;injection h2 with h2;subst h2
  simp only[Option.bind_some]
  cases hf:flush (bC z n) (dC z n) o1 with
  |none=>rfl
  |some o3=>
   have:=m4 hf
   simp only[Option.bind_some]
   rw[if_neg qo]
theorem jJ {p c b y d n:Int}(h:bE 1 p c b y d n=true):0≤p∧p≤n-2∧(c=1∨c= -1):=by
 unfold bE at h
 by_cases hp:p<0
 ·rw[if_pos hp]at h
  cases h
 ·rw[if_neg hp,if_pos rfl]at h
  simp only[Bool.and_eq_true,decide_eq_true_eq,Bool.or_eq_true]at h
  exact⟨by omega,h.1.1,h.1.2⟩
theorem kS {z:Nat→Int}{n:Nat}(hv:(cnt z 0 n).isSome=true){k:Nat}(hk:k≤n):G.Word (bC z k).toNat (dC z k):=by
 induction k with
 |zero=>intro x hx;cases hx
 |succ k ih=>
  have h1:=ih qo
  simp only[dC]
  by_cases h:z (k*6)=1
  ·rw[if_pos h]
   obtain⟨m,hm⟩:∃m,cnt z 0 (k+1)=some m:=by
    cases h2:cnt z 0 (k+1)with
    |none=>rw[cO z 0 hk h2]at hv;cases hv
    |some m=>exact⟨m,rfl⟩
   obtain⟨m0,hm0⟩:∃m,cnt z 0 k=some m:=by
    cases h2:cnt z 0 k with
    |none=>rw[cO z 0 qo h2]at hv;cases hv
    |some m=>exact⟨m,rfl⟩
   have tG:bE (z (k*6)) (z (k*6+1)) (z (k*6+2)) (z (k*6+3)) (z (k*6+4)) (z (k*6+5)) m0=true∧aH (z (k*6)) (z (k*6+2)) m0≤12:=Decidable.byContradiction fun hn=>by
    rw[iV hm0 hn]at hm
    cases hm
   have hm2:=l1 hm0 tG.1 tG.2;rw[hm]at hm2;injection hm2 with hm2;have hmm:m=m0:=by rw[hm2,h];simp[aH]
   have e1:bC z (k+1)=m0:=by simp[bC,hm,hmm]
   have e0:bC z k=m0:=by simp[bC,hm0]
   rw[e1];rw[e0]at h1;intro x hx
   rcases List.mem_append.1 (G.pH hx)with hx|hx
   ·exact h1 x hx
   ·rw[List.mem_singleton.1 hx]
    have h3:=tG.1;rw[h]at h3;obtain⟨h4,h5,h6⟩:=jJ h3;unfold oA
    rcases h6 with h6|h6
    ·rw[h6]
     omega
    ·rw[h6]
     omega
  ·rw[if_neg h]
   intro x hx
   cases hx
end Go.Proofs.YtmnbgjnipbpiaaaGreat
namespace Go.Proofs.YtmnbgjnipbpiaaaGreat
open Go.RowKit
theorem rV (n:Int)(w:World):
 Calls Tryz.prog 70 #[.int .i64 n] w fun e w'=>e=.returned (.bool (aC n 0 12))∧w=w':=by
 go_enter Tryz.func70,Tryz.ntmps70
 go_wp2_with ((go_at_call 71;refine(bA _ _ _ _).mono ?_;rintro e w' ⟨rfl,rfl⟩))
 go_ret
 exact⟨rfl,rfl⟩
end Go.Proofs.YtmnbgjnipbpiaaaGreat
namespace Go.Proofs.YtmnbgjnipbpiaaaGreat.G
theorem OG (n:Nat):∀(f:Nat→Nat),(∀i,i<n→f i<n)→(∀i,i<n→∀j,j<n→f i=f j→i=j)→∀y,y<n→∃x,x<n∧f x=y:=by
 induction n with
 |zero=>intro f _ _ y hy;omega
 |succ n ih=>
  intro f hb hi y hy;have hne:∀i,i<n→f i≠f n:=fun i h e=>by have:=hi i qo n qo e;omega
  have h0:=hb n qo;have key:=ih (fun i=>if f i=n then f n else f i)
   (fun i h=>by
    have h1:=hb i qo;have h2:=hne i h
    split<;>omega)
   (fun i h j h'=>by
    have h1:=hne i h;have h2:=hne j h';intro e
    apply hi i qo j qo
    split at e<;>split at e<;>omega)
  by_cases hm:y=f n
  ·exact⟨n,by omega,hm.symm⟩
  ·by_cases hn:y=n
   ·obtain⟨x,hx,e⟩:=key (f n) qo
    have:=hne x hx;refine⟨x,by omega,?_⟩
    split at e
    ·omega
    ·exact absurd e this
   ·obtain⟨x,hx,e⟩:=key y qo
    refine⟨x,by omega,?_⟩
    split at e<;>omega
def gS (L:List Int)(k:Nat):Prop:=∀i,i<k→(0≤L.getD i 0∧L.getD i 0<L.length)∧∀j,j<i→L.getD j 0≠L.getD i 0
theorem gS.next {L:List Int}{k:Nat}(h:gS L k)(h1:0≤L.getD k 0∧L.getD k 0<L.length)(h2:∀j,j<k→L.getD j 0≠L.getD k 0):gS L (k+1):=by
 intro i hi
 rcases Nat.lt_or_ge i k with h'|h'
 ·exact h i h'
 ·obtain rfl:i=k:=qo
  exact⟨h1,h2⟩
theorem gS.inj {L:List Int}{k:Nat}(h:gS L k)(i j:Nat)(hi:i<k)(hj:j<k)(e:L.getD i 0=L.getD j 0):i=j:=by
 rcases Nat.lt_trichotomy i j with a|a|a
 ·exact absurd e ((h j hj).2 i a)
 ·exact a
 ·exact absurd e.symm ((h i hi).2 j a)
theorem gS.pm {L:List Int}{n:Nat}(hl:L.length=n)(h:gS L n):∃p:PM n,L=pl p:=by
 have hf:∀i,i<n→((L.getD i 0).toNat:Int)=L.getD i 0:=fun i hi=>by have:=(h i hi).1;omega
 have hs:=OG n (fun i=>(L.getD i 0).toNat) (fun i hi=>by have:=(h i hi).1;omega)
  (fun i hi j hj e=>h.inj i j hi hj (by have:=hf i hi;have:=hf j hj;omega))
 have hs':∀y,∃x,(y<n→x<n∧(L.getD x 0).toNat=y)∧(¬y<n→x=y):=fun y=>by
  by_cases hy:y<n
  ·obtain⟨x,hx⟩:=hs y hy
   exact⟨x,fun _=>hx,fun h=>absurd hy h⟩
  ·exact⟨y,fun h=>absurd h hy,fun _=>rfl⟩
 let g:Nat→Nat:=fun y=>Classical.choose (hs' y)
 have hg:∀y,(y<n→g y<n∧(L.getD (g y) 0).toNat=y)∧(¬y<n→g y=y):=fun y=>Classical.choose_spec (hs' y)
 let f:Nat→Nat:=fun i=>if i<n then(L.getD i 0).toNat else i
 have fb:∀i,i<n→f i<n:=fun i hi=>by have:=(h i hi).1;show(if i<n then _ else _)<n;rw[if_pos hi];omega
 have fg:∀i,f (g i)=i:=fun i=>by
  by_cases hi:i<n
  ·show(if g i<n then _ else _)=i
   rw[if_pos ((hg i).1 hi).1];exact((hg i).1 hi).2
  ·show(if g i<n then _ else _)=i
   rw[(hg i).2 hi,if_neg hi]
 have gf:∀i,g (f i)=i:=fun i=>by
  by_cases hi:i<n
  ·have h1:=fb i hi
   have h2:=(hg (f i)).1 h1;have h3:f i=(L.getD i 0).toNat:=if_pos hi
   apply h.inj _ _ h2.1 hi
   have:=hf _ h2.1;have:=hf i hi;omega
  ·have:f i=i:=if_neg hi
   rw[this,(hg i).2 hi]
 refine⟨⟨f,g,gf,fg,fun i hi=>if_neg qo⟩,zK hl fun i hi=>?_⟩;show L.getD i 0=((if i<n then(L.getD i 0).toNat else i:Nat):Int);rw[if_pos hi,hf i hi]
end Go.Proofs.YtmnbgjnipbpiaaaGreat.G
namespace Go.Proofs.YtmnbgjnipbpiaaaGreat
open Go.RowKit
theorem zH {P:Program}{o:Oper}{cond:Bool}{a:Act}{K:Act→World→Prop}{Q:Exit→Act→World→Prop}{E:Prop}(W:World)(hcond:cond=true)(s x:Operand)(t:TypeId)
 (ho:o.op=.call {callee:=.builtin .append,args:=#[s,x],argTypes:=#[t,t]})
 (base:Nat) (e:TypeId) (i:TypeInfo) (z:Value) (size bytes:Nat) (ht:P.underlying t=some (.slice e)) (hi:P.info? e=some i) (hz:i.zero=some z)
 (hsize:i.size=size) (hby:i.bytes=bytes) (hzs:z.cells.size=size) (hsz:0<size)
 (v:Value) (n:Nat) (xs:List Value) (hs:a.eval s=v) (hown:W.ownsRow base e size v n xs)
 (A2:OA) (m c:Nat) (f:Nat→Value) (hx:a.eval x=.slice A2 m c) (hrd:Rd W A2 (m*size) f) (h1:∀j,(f j).oneCell'=true)
 (h63:n+m≤maxLen) (hbytes:(n+m)*bytes≤140737488355328) (hbase:base≤W.heap.size)
 (h:∀v' w',w'.ownsRow base e size v' (n+m) (xs++(List.range (m*size)).map f)→Fr W w' (fun b=>v.ownBlock=some b)→K (a.put o.dst v') w'):
 if cond=true then Oper.wp P o a W K Q else E:=by
 rw[if_pos hcond]
 rcases A2 with _|ad
 ·have hm:m=0:=by
   rcases Nat.eq_zero_or_pos m with h0|h0
   ·exact h0
   ·obtain⟨g,o',e,_⟩:=hrd (Nat.mul_pos h0 hsz)
    cases e
  subst hm;have hr:=kI (P:=P) W base t o.type e i size ht hi v n xs hown c;unfold Oper.wp execOp
  simp only[ho,resolve,invoke,builtin,Sem.run_bind,Sem.run_pure,Result.andThen_ok,List.map_toArray,List.map_cons,List.map_nil,hs,hx,hr]
  exact h _ _ (by simpa using hown) (Fr.refl _ _)
 ·refine wp_append_own W s x t ho base e i z size bytes ht hi hz hsize hby hzs hsz v n xs hs hown ad m c ((List.range (m*size)).map f) hx qj (fun j u hu=>?_) (fun u hu=>?_) h63 hbytes hbase ?_
  ·obtain⟨hj,rfl⟩:j<m*size∧f j=u:=by
    by_cases hj:j<m*size
    ·simp[hj]at hu;exact⟨hj,hu⟩
    ·rw[List.getElem?_eq_none (by simpa using hj)]at hu;cases hu
   obtain⟨g,o',e,_,hr⟩:=hrd qo;injection e with e;subst e;rw[Addr.add_lit];exact hr j hj
  ·obtain⟨j,_,rfl⟩:=List.mem_map.1 hu
   exact h1 j
  ·intro v' w' h2 h3 _
   exact h v' w' h2 ⟨h3.os,h3.tape,h3.output,h3.size,fun b hb hne=>h3.block b hb (fun e=>hne e.symm)⟩
theorem tX (A A':OA)(n c c':Nat)(z:Nat→Int)(w:World)(ha:Rd w A (n*1) (fun j=>.int .i64 (z j)))(hb:Rd w A' (n*1) (fun j=>.int .i64 (z j)))(hn:n≤1000000000):
 Calls Tryz.prog 105 #[.slice A n c,.slice A' n c'] w fun e w'=>e=.returned (.bool true)∧Below w.heap.size w w':=by
 have HA:=qh ha;have HB:=qh hb;clear ha hb
 go_enter Tryz.func105,Tryz.ntmps105
 go_wp2
 go_loopw [5] (fun i wr=>∃k:Nat,k≤n∧i=.int .i64 k∧Below w.heap.size w wr) (fun i _=>n-(intOf i).toNat)
 case atStart=>exact⟨0,Nat.zero_le _,rfl,Below.refl _ _⟩
 case round=>
  obtain⟨k,hk,rfl,hbl⟩:=hrel;have HL:=qh hbl;clear hbl
  by_cases hlt:k<n
  ·obtain⟨g,o,rfl,hg,hc⟩:=HA.o qo
   obtain⟨g',o',rfl,hg',hc'⟩:=HB.o qo;have a0:=((aJ HL.o).1 g _ hg).trans (hc (k*1+0) qo);have b0:=((aJ HL.o).1 g' _ hg').trans (hc' (k*1+0) qo)
   simp only[←Nat.add_assoc]at a0 b0
   obtain⟨y0,hy0⟩:=qx (z (k*1+0))
   simp only[Nat.mul_one,Nat.add_zero]at a0 b0 hy0
   simp only[←hy0]at a0 b0
   clear hy0 hc hc';have hgr:g<wr.heap.size:=blt HL.o hg;have I3:g'<wr.heap.size:=blt HL.o hg'
   go_wp2
   go_quiet (fail)
   go_wp2
   go_roundw
   case rel=>exact⟨k+1,by omega,qg,Below.drewN' HL.o nq⟩
   case measure=>exact qs
  ·obtain rfl:k=n:=qo
   go_wp2
   go_ret
   exact⟨rfl,HL.o⟩
def P4 (w:World)(L n:Nat)(e:Ending)(w':World):Prop:=∃r:Int,(r<0∨(n≤L∧r=L-n))∧e=.returned (.int .i64 r)∧w=w'
theorem sL (A:OA)(n c L:Nat)(w:World)(hn:n≤maxLen)(hL:L≤1048576):
 Calls Tryz.prog 87 #[.slice A n c,.int .i64 L] w (P4 w L n):=by
 unfold maxLen at hn
 by_cases hle:n≤L
 ·go_enter Tryz.func87,Tryz.ntmps87
  go_wp2
  go_ret
  exact⟨(L:Int)-n,.inr ⟨hle,rfl⟩,rfl,rfl⟩
 ·go_enter Tryz.func87,Tryz.ntmps87
  go_wp2
  go_ret
  exact⟨-1,.inl qo,rfl,rfl⟩
theorem zP:(Tryz.prog.info? 2).map (fun i=>(i.zero,i.size,i.bytes))=some (some (.int .i64 0),1,8):=by kernel_rfl
def KF (w:World)(n N:Nat)(f:Nat→Value)(e:Ending)(w':World):Prop:=∃A c,e=.returned (.slice A n c)∧n≤c∧New w w' A N f
theorem rD (A:OA)(n c:Nat)(z:Nat→Int)(w:World)(ha:Rd w A n (fun j=>.int .i64 (z j)))(hn:n≤1048576):
 Calls Tryz.prog 93 #[.slice A n c] w (KF w n n (fun j=>.int .i64 (z j))):=by
 have HA:=qh ha;clear ha;obtain⟨i0,hi,hz0,hz1,hz2⟩:=info_parts zP
 go_enter Tryz.func93,Tryz.ntmps93
 go_wp2_with (at_make;refine wpList_make_full _ rfl _ _ 74 rfl w.heap.size 2 i0 (.int .i64 0) 1 Tryz.underlying74 hi hz0 hz1 .i64 .i64 n n n rfl rfl rfl rfl (by rw[hz2];omega) qm ql ?_;intro w1 hown hg1)
 have hb1:=(Below.refl w.heap.size w).grown hg1 ql (fun k e=>by cases e);have hw1:=bK.iM hown;have hg1:w.heap.size<w1.heap.size:=(hown.lt _ rfl).2;have HB:=qh hb1;have HW:=qh hw1;clear hb1 hw1 hown
 go_loopw [4] (fun i wr=>∃k:Nat,k≤n∧i=.int .i64 k∧Below w.heap.size w wr∧w.heap.size<wr.heap.size∧bK wr w.heap.size 0 n∧bY wr w.heap.size 0 k (fun j=>.int .i64 (z j))) (fun i _=>n-(intOf i).toNat)
 case atStart=>exact⟨0,Nat.zero_le _,rfl,HB.o,hg1,by simpa using HW.o,fun j hj=>absurd hj qo⟩
 case round=>
  obtain⟨k,hk,rfl,hb,hgr,hw,hr⟩:=hrel;have HB:=qh hb;have HW:=qh hw;have HR:=qh hr;clear hb hw hr
  by_cases hlt:k<n
  ·obtain⟨g,o,rfl,hg,hra⟩:=HA.o qo
   have hc:=((aJ HB.o).1 _ _ hg).trans (hra k hlt);obtain⟨⟨u,hu⟩,hf⟩:=HW.o k hlt;rw[Nat.zero_add]at hu hf;obtain⟨x,hx⟩:=qx (z k)
   simp only[←hx]at hc
   have HX:=qh hx;clear hx hra
   go_wp2
   go_roundw
   case rel=>
    refine⟨k+1,by omega,qg,HB.o.setCell ql _,by simp;exact hgr,HW.o.set _ _,fun j hj=>?_⟩
    by_cases hjk:j=k
    ·subst hjk
     rw[Nat.zero_add];exact(World.cell?_setCell_same _ _ _ hu).trans (by rw[HX.o])
    ·have:=(HR.o.set ql (.int .i64 x)) j qo
     rw[Nat.zero_add]at this;exact this
   case measure=>exact qs
  ·obtain rfl:k=n:=qo
   go_wp2
   go_ret
   exact⟨_,_,rfl,Nat.le_refl _,New.BG HB.o ql hgr HW.o HR.o⟩
theorem xG (z0 z1 z2 z3 z4 z5:Int)(w:World):
 Calls Tryz.prog 26 #[.agg #[.int .i64 z0,.int .i64 z1,.int .i64 z2,.int .i64 z3,.int .i64 z4,.int .i64 z5],.agg #[.int .i64 z0,.int .i64 z1,.int .i64 z2,.int .i64 z3,.int .i64 z4,.int .i64 z5]] w fun e w'=>e=.returned (.bool true)∧Below w.heap.size w w':=by
 go_enter Tryz.func26,Tryz.ntmps26
 go_wp2
 go_ret
 exact⟨rfl,qz⟩
theorem m6 (A A':OA)(n c c':Nat)(z:Nat→Int)(w:World)(ha:Rd w A (n*6) (fun j=>.int .i64 (z j)))(hb:Rd w A' (n*6) (fun j=>.int .i64 (z j)))(hn:n≤1000000000):
 Calls Tryz.prog 10 #[.slice A n c,.slice A' n c'] w fun e w'=>e=.returned (.bool true)∧Below w.heap.size w w':=by
 have HA:=qh ha;have HB:=qh hb;clear ha hb
 go_enter Tryz.func10,Tryz.ntmps10
 go_wp2
 go_loopw [5] (fun i wr=>∃k:Nat,k≤n∧i=.int .i64 k∧Below w.heap.size w wr) (fun i _=>n-(intOf i).toNat)
 case atStart=>exact⟨0,Nat.zero_le _,rfl,Below.refl _ _⟩
 case round=>
  obtain⟨k,hk,rfl,hbl⟩:=hrel;have HL:=qh hbl;clear hbl
  by_cases hlt:k<n
  ·obtain⟨g,o,rfl,hg,hc⟩:=HA.o qo
   obtain⟨g',o',rfl,hg',hc'⟩:=HB.o qo;have a0:=((aJ HL.o).1 g _ hg).trans (hc (k*6+0) qo);have b0:=((aJ HL.o).1 g' _ hg').trans (hc' (k*6+0) qo);have a1:=((aJ HL.o).1 g _ hg).trans (hc (k*6+1) qo);have b1:=((aJ HL.o).1 g' _ hg').trans (hc' (k*6+1) qo);have a2:=((aJ HL.o).1 g _ hg).trans (hc (k*6+2) qo);have b2:=((aJ HL.o).1 g' _ hg').trans (hc' (k*6+2) qo);have a3:=((aJ HL.o).1 g _ hg).trans (hc (k*6+3) qo);have b3:=((aJ HL.o).1 g' _ hg').trans (hc' (k*6+3) qo);have a4:=((aJ HL.o).1 g _ hg).trans (hc (k*6+4) qo);have b4:=((aJ HL.o).1 g' _ hg').trans (hc' (k*6+4) qo);have a5:=((aJ HL.o).1 g _ hg).trans (hc (k*6+5) qo);have b5:=((aJ HL.o).1 g' _ hg').trans (hc' (k*6+5) qo)
   simp only[←Nat.add_assoc]at a0 b0 a1 b1 a2 b2 a3 b3 a4 b4 a5 b5
   obtain⟨y0,hy0⟩:=qx (z (k*6+0));obtain⟨y1,hy1⟩:=qx (z (k*6+1));obtain⟨y2,hy2⟩:=qx (z (k*6+2));obtain⟨y3,hy3⟩:=qx (z (k*6+3));obtain⟨y4,hy4⟩:=qx (z (k*6+4));obtain⟨y5,n6⟩:=qx (z (k*6+5))
   simp only[Nat.add_zero]at a0 b0 hy0
   simp only[←hy0,←hy1,←hy2,←hy3,←hy4,←n6]at a0 b0 a1 b1 a2 b2 a3 b3 a4 b4 a5 b5
   clear hy0 hy1 hy2 hy3 hy4 n6 hc hc';have hgr:g<wr.heap.size:=blt HL.o hg;have I3:g'<wr.heap.size:=blt HL.o hg'
   go_wp2
   go_region_held3 (fun w'=>w'.cell? ⟨g,o+k*6,none⟩=some (.int .i64 y0)∧w'.cell? ⟨g',o'+k*6,none⟩=some (.int .i64 y0)∧w'.cell? ⟨g,o+k*6+1,none⟩=some (.int .i64 y1)∧w'.cell? ⟨g',o'+k*6+1,none⟩=some (.int .i64 y1)∧w'.cell? ⟨g,o+k*6+2,none⟩=some (.int .i64 y2)∧w'.cell? ⟨g',o'+k*6+2,none⟩=some (.int .i64 y2)∧w'.cell? ⟨g,o+k*6+3,none⟩=some (.int .i64 y3)∧w'.cell? ⟨g',o'+k*6+3,none⟩=some (.int .i64 y3)∧w'.cell? ⟨g,o+k*6+4,none⟩=some (.int .i64 y4)∧w'.cell? ⟨g',o'+k*6+4,none⟩=some (.int .i64 y4)∧w'.cell? ⟨g,o+k*6+5,none⟩=some (.int .i64 y5)∧w'.cell? ⟨g',o'+k*6+5,none⟩=some (.int .i64 y5)) (go_keep) (first|(go_at_call 26;refine(xG y0 y1 y2 y3 y4 y5 _).mono ?_;rintro e w1 ⟨rfl,hb1⟩;have hk1:=fun x=>(aJ hb1).1 g x (by simpa using hgr);have hk2:=fun x=>(aJ hb1).1 g' x (by simpa using I3)))
   go_wp2
   go_roundw
   case rel=>exact⟨k+1,by omega,qg,(Below.drewN' HL.o 1).trans (hb1.mono HL.o.size)⟩
   case measure=>exact qs
  ·obtain rfl:k=n:=qo
   go_wp2
   go_ret
   exact⟨rfl,HL.o⟩
theorem lM (A:OA)(n c L:Nat)(w:World)(hn:n≤maxLen)(hL:L≤1048576):
 Calls Tryz.prog 4 #[.slice A n c,.int .i64 L] w fun e w'=>∃r:Int,(r<0∨(n≤L∧r=L-n))∧e=.returned (.int .i64 r)∧w=w':=by
 unfold maxLen at hn
 by_cases hle:n≤L
 ·go_enter Tryz.func4,Tryz.ntmps4
  go_wp2
  go_ret
  exact⟨(L:Int)-n,.inr ⟨hle,rfl⟩,rfl,rfl⟩
 ·go_enter Tryz.func4,Tryz.ntmps4
  go_wp2
  go_ret
  exact⟨-1,.inl qo,rfl,rfl⟩
theorem wL (z0 z1 z2 z3 z4 z5:Int)(w:World):
 Calls Tryz.prog 19 #[.agg #[.int .i64 z0,.int .i64 z1,.int .i64 z2,.int .i64 z3,.int .i64 z4,.int .i64 z5]] w fun e w'=>e=.returned (.agg #[.int .i64 z0,.int .i64 z1,.int .i64 z2,.int .i64 z3,.int .i64 z4,.int .i64 z5])∧Below w.heap.size w w':=by
 go_enter Tryz.func19,Tryz.ntmps19
 go_wp2
 refine bodyPost_ret (v:=.agg #[.int .i64 z0,.int .i64 z1,.int .i64 z2,.int .i64 z3,.int .i64 z4,.int .i64 z5]) (by simp[results,Tryz.results19,go_sem]) rfl ⟨rfl,?_⟩;exact qz
theorem zQ:(Tryz.prog.info? 52).map (fun i=>(i.zero,i.size,i.bytes))=some (some (.agg #[.int .i64 0,.int .i64 0,.int .i64 0,.int .i64 0,.int .i64 0,.int .i64 0]),6,48):=by kernel_rfl
theorem lL (A:OA)(n c:Nat)(z:Nat→Int)(w:World)(ha:Rd w A (n*6) (fun j=>.int .i64 (z j)))(hn:n≤1048576):
 Calls Tryz.prog 7 #[.slice A n c] w (ND w n (n*6) (fun j=>.int .i64 (z j))):=by
 have HA:=qh ha;clear ha;obtain⟨i0,hi,hz0,hz1,hz2⟩:=info_parts zQ
 go_enter Tryz.func7,Tryz.ntmps7
 go_wp2_with (at_make;refine wpList_make_full _ rfl _ _ 31 rfl w.heap.size 52 i0 (.agg #[.int .i64 0,.int .i64 0,.int .i64 0,.int .i64 0,.int .i64 0,.int .i64 0]) 6 Tryz.underlying31 hi hz0 hz1 .i64 .i64 n n n rfl rfl rfl rfl (by rw[hz2];omega) qm ql ?_;intro w1 hown hg1)
 have hb1:=(Below.refl w.heap.size w).grown hg1 ql (fun k e=>by cases e);have hw1:=bK.iM hown;have hg1:w.heap.size<w1.heap.size:=(hown.lt _ rfl).2;have HB:=qh hb1;have HW:=qh hw1;clear hb1 hw1 hown
 go_loopw [4] (fun i wr=>∃k:Nat,k≤n∧i=.int .i64 k∧Below w.heap.size w wr∧w.heap.size<wr.heap.size∧bK wr w.heap.size 0 (n*6)∧bY wr w.heap.size 0 (k*6) (fun j=>.int .i64 (z j))) (fun i _=>n-(intOf i).toNat)
 case atStart=>exact⟨0,Nat.zero_le _,rfl,HB.o,hg1,HW.o,fun j hj=>absurd hj qo⟩
 case round=>
  obtain⟨k,hk,rfl,hb,hgr,hw,hr⟩:=hrel;have HB:=qh hb;have HW:=qh hw;have HR:=qh hr;clear hb hw hr
  by_cases hlt:k<n
  ·obtain⟨g,o,rfl,hg,hra⟩:=HA.o qo
   have hc0:=((aJ HB.o).1 _ _ hg).trans (hra (k*6+0) qo);obtain⟨x0,hx0⟩:=qx (z (k*6))
   simp only[←hx0,Nat.add_zero]at hc0
   have HX0:=qh hx0;clear hx0;have hc1:=((aJ HB.o).1 _ _ hg).trans (hra (k*6+1) qo);obtain⟨x1,hx1⟩:=qx (z (k*6+1))
   simp only[←hx1,←Nat.add_assoc]at hc1
   have PC:=qh hx1;clear hx1;have hc2:=((aJ HB.o).1 _ _ hg).trans (hra (k*6+2) qo);obtain⟨x2,hx2⟩:=qx (z (k*6+2))
   simp only[←hx2,←Nat.add_assoc]at hc2
   have dE:=qh hx2;clear hx2;have hc3:=((aJ HB.o).1 _ _ hg).trans (hra (k*6+3) qo);obtain⟨x3,hx3⟩:=qx (z (k*6+3))
   simp only[←hx3,←Nat.add_assoc]at hc3
   have PB:=qh hx3;clear hx3;have hc4:=((aJ HB.o).1 _ _ hg).trans (hra (k*6+4) qo);obtain⟨x4,hx4⟩:=qx (z (k*6+4))
   simp only[←hx4,←Nat.add_assoc]at hc4
   have PA:=qh hx4;clear hx4;have lC:=((aJ HB.o).1 _ _ hg).trans (hra (k*6+5) qo);obtain⟨x5,hx5⟩:=qx (z (k*6+5))
   simp only[←hx5,←Nat.add_assoc]at lC
   have P9:=qh hx5;clear hx5;clear hra
   go_wp2_with fail
   refine(wL x0 x1 x2 x3 x4 x5 _).mono ?_;rintro e w2 ⟨rfl,hb2⟩;have hw2:=HW.o.below (hb2.mono ql);have HR2:=qh (HR.o.below hgr hb2);have HB2:=HB.st hb2;have N7:w.heap.size<w2.heap.size:=blt hb2 hgr;obtain⟨⟨u0,hu0⟩,hf0⟩:=hw2 (k*6+0) qo
   simp only[Nat.zero_add,Nat.add_zero]at hu0 hf0
   obtain⟨⟨u1,hu1⟩,hf1⟩:=hw2 (k*6+1) qo
   simp only[Nat.zero_add]at hu1 hf1
   obtain⟨⟨u2,hu2⟩,hf2⟩:=hw2 (k*6+2) qo
   simp only[Nat.zero_add]at hu2 hf2
   obtain⟨⟨u3,hu3⟩,hf3⟩:=hw2 (k*6+3) qo
   simp only[Nat.zero_add]at hu3 hf3
   obtain⟨⟨u4,BX⟩,OO⟩:=hw2 (k*6+4) qo
   simp only[Nat.zero_add]at BX OO
   obtain⟨⟨u5,OK⟩,ON⟩:=hw2 (k*6+5) qo
   simp only[Nat.zero_add]at OK ON
   have HW2:=qh hw2;clear hw2 hb2 hc0 hc1 hc2 hc3 hc4 lC
   go_wp2
   go_roundw
   case rel=>
    refine⟨k+1,by omega,qg,by exact((((((HB2.o.setCell ql _).setCell ql _).setCell ql _).setCell ql _).setCell ql _).setCell ql _),by simp[World.setCell];exact N7,by exact((((((HW2.o.set _ _).set _ _).set _ _).set _ _).set _ _).set _ _),?_⟩;have h0:=HR2.o;have h1:=h0.step (a:=k*6+0) (u:=.int .i64 x0) (HW2.o) qo qo (by rw[HX0.o]);have h2:=h1.step (a:=k*6+1) (u:=.int .i64 x1) ((HW2.o.set _ _)) qo qo (by rw[PC.o]);have h3:=h2.step (a:=k*6+2) (u:=.int .i64 x2) (((HW2.o.set _ _).set _ _)) qo qo (by rw[dE.o]);have h4:=h3.step (a:=k*6+3) (u:=.int .i64 x3) ((((HW2.o.set _ _).set _ _).set _ _)) qo qo (by rw[PB.o]);have h5:=h4.step (a:=k*6+4) (u:=.int .i64 x4) (((((HW2.o.set _ _).set _ _).set _ _).set _ _)) qo qo (by rw[PA.o]);have h6:=h5.step (a:=k*6+5) (u:=.int .i64 x5) ((((((HW2.o.set _ _).set _ _).set _ _).set _ _).set _ _)) qo qo (by rw[P9.o]);exact bY.cast qo h6
   case measure=>exact qs
  ·obtain rfl:k=n:=qo
   go_wp2
   go_ret
   exact⟨_,_,rfl,New.BG HB.o ql hgr HW.o HR.o⟩
end Go.Proofs.YtmnbgjnipbpiaaaGreat
namespace Go.Proofs.YtmnbgjnipbpiaaaGreat
open Go.RowKit Go.WideShapes Go.ChangeShapes Go.Deep Go.Joins Go.ChangeAt
theorem own:ownKnob Tryz.prog.godebug=none:=by kernel_rfl
theorem laidOut:laidOutB Tryz.prog=true:=by kernel_rfl
theorem lK {H:Type}{enc:TypeId×Value→H}{P:Program}(hl:laidOutB P=true){W W':World}(hb:Below W.heap.size W W'):
 ∀(ts:List TypeId) (vs:List Value) (ds:List (DataW H)) (ps:List MemPlace),(∀t∈ts,P.readableRec t=true∧t<P.types.size)→(∀x∈ps,x.block<W.heap.size)→
  DataW.TrodAll enc P W 0 (fun _=>true) true ts vs ds ps→DataW.TrodAll enc P W' 0 (fun b=>decide (b<W.heap.size)) true ts vs ds ps
 |[],vs,ds,ps,_,_,h=>by
  obtain⟨rfl,rfl,rfl⟩:=trodAll_nil h;exact trodAll_mk0
 |t::ts,vs,ds,ps,ht,hlt,h=>by
  obtain⟨v,vs',d,ds',p,q,rfl,rfl,rfl,h0,h1⟩:=trodAll_cons h;exact trodAll_cons_mk (Below.trod hl (ht t (by simp)).1 (ht t (by simp)).2 h0 hb (fun x hx=>hlt x (by simp[hx])))
   (lK hl hb ts vs' ds' q (fun u hu=>ht u (by simp[hu])) (fun x hx=>hlt x (by simp[hx])) h1)
theorem DM {H:Type}{enc:TypeId×Value→H}{P:Program}(hl:laidOutB P=true){f:Func}{s:ChangeSpec}{W W':World}{args:Array Value}{ds:List (DataW H)}{before:List MemPlace}{tb:TypeId}
 (hv:s.vars=[]) (hfn:s.fn H (ds++[])={results:=[.lit (.bool true)],args:=ds}) (hrt:f.resultTypes=#[tb]) (htb:P.underlying tb=some .bool)
 (hread:∀t∈f.params.toList,P.readableRec t=true∧t<P.types.size)
 (hW:DataW.Whole enc P f.params.toList s.vars false W args.toList ds [] before) (hb:Below W.heap.size W W'):
 ∃v,Ending.returned (.bool true)=.returned v∧s.post enc P f false true false false W args v W':=by
 have hlt:∀p∈before,p.block<W.heap.size:=fun p hp=>hW.lt p hp;have hW':=hW;obtain⟨p,q,hA,hV,rfl,hfz,hnd⟩:=hW';rw[hv]at hV;obtain⟨_,rfl⟩:=trodVars_none hV;refine⟨_,rfl,ds,[],_,[],p,[],hW,?_,?_,?_,hb.frame _,fun h=>by cases h⟩
 ·rw[hfn,hrt]
  exact trodAll_mk1 (shut_bool htb _)
 ·rw[hfn]
  exact lK hl hb _ _ _ _ hread (fun x hx=>hlt x (by simp[hx])) hA
 ·rw[hfn,hv]
  rfl
section
variable {H:Type}{enc:TypeId×Value→H}{P:Program}{w:World}{base:Nat}{spare:Nat→Bool}{held:Bool}
theorem mW {t e:TypeId}{fs:Array Field}{fuel:Nat}{cs:List Value}{x:DataW H×List MemPlace}(ht:P.underlying t=some (.slice e))(he:P.underlying e=some (.struct fs))
 (hone:oneCellFields P fs=true) (hC:P.cellsOf e=fs.size) (h:DataW.trod enc P w base spare held fuel t cs=some x):
 (cs=[.slice none 0 0]∧x=(.nil,[]))∨
 ∃(a:Addr) (len cap m:Nat) (D:Nat→DataW H) (Pl:Nat→List MemPlace),cs=[.slice (some a) len cap]∧base≤a.block∧len≤cap∧cap≤maxLen∧m=(if spare a.block then cap else len)∧
  x=(.slice ((List.range len).map D) ((List.range (m-len)).map fun j=>D (len+j)),MemPlace.row a (m*fs.size)++(List.range m).flatMap Pl)∧
  ∀i,i<m→∃(ys:List (DataW H×List MemPlace)) (n:Nat),D i=.agg (ys.map (·.1))∧Pl i=ys.flatMap (·.2)∧ys.length=fs.size∧
   ∀(j:Nat) (f:Field),fs[j]?=some f→∃(v:Value) (y:DataW H×List MemPlace),w.cell? (a.add (i*fs.size+j))=some v∧ys[j]?=some y∧DataW.trod enc P w base spare held n f.type [v]=some y:=by
 rcases open_slice ht h with h0|⟨a,len,cap,m,n,D,Pl,hcs,hb,hl,hm,hmm,hx,hi⟩
 ·exact .inl h0
 ·refine .inr ⟨a,len,cap,m,D,Pl,hcs,hb,hl,hm,hmm,by rw[hC]at hx;exact hx,fun i him=>?_⟩
  obtain⟨cs',hc,ht'⟩:=hi i him;rw[hC]at hc;obtain⟨ys,n',hn',hy,hlen,hyl,hf⟩:=DataW.trod_struct he ht';obtain⟨_,hcl,hat⟩:=World.cells?_some hc
  simp only[Prod.mk.injEq]at hy
  refine⟨ys,n',hy.1,hy.2,hyl,fun j f hj=>?_⟩;obtain⟨ho,hk⟩:=hone_of hone j f hj;have hjl:j<fs.size:=(Array.getElem?_eq_some_iff.1 hj).1;have hcell:=hat j hjl;have hv:cs'[j]?=some (cs'[j]'(by omega)):=List.getElem?_eq_getElem (by omega);have h1:=hf j f hj;rw[ho,hk]at h1;have KB:(cs'.drop j).take 1=[cs'[j]'(by omega)]:=by
   rw[List.drop_eq_getElem_cons (by omega)]
   rfl
  rw[KB]at h1;have hys:ys[j]?=some (ys[j]'(by omega)):=List.getElem?_eq_getElem (by omega);refine⟨_,_,?_,hys,h1.trans hys⟩;rw[←Go.Deep.add_add,hcell,hv]
end
section
variable {H:Type}{enc:TypeId×Value→H}{P:Program}{w:World}{base:Nat}{spare:Nat→Bool}{held:Bool}
theorem zN {r:Reach}{b0:Nat}{t:TypeId}{f0 f1:Field}{v:Value}{d:DataW H}{p:List MemPlace}(hs:P.underlying t=some (.struct #[f0,f1]))(hone:oneCellFields P #[f0,f1]=true)(hC:P.cellsOf t=2)
 (hv:Value.okWide P w r b0 t v) (h:DataW.Trod enc P w base spare held t v d p):
 ∃(v0 v1:Value) (y0 y1:DataW H×List MemPlace) (n:Nat),v=.agg #[v0,v1]∧d=.agg [y0.1,y1.1]∧p=y0.2++y1.2∧
  DataW.trod enc P w base spare held n f0.type [v0]=some y0∧DataW.trod enc P w base spare held n f1.type [v1]=some y1:=by
 obtain⟨cs,rfl,hsz⟩:=okWide_struct hs hv;obtain⟨l⟩:=cs
 match l,hsz.trans hC with
 |[c0,c1],_=>
  obtain⟨fuel,hf⟩:=h;obtain⟨xs,n,_,hx,_,hlen,hg⟩:=DataW.trod_struct hs hf;obtain⟨o0,k0⟩:=hone_of hone 0 f0 rfl;obtain⟨o1,k1⟩:=hone_of hone 1 f1 rfl
  match xs,hlen with
  |[y0,y1],_=>
   simp only[Prod.mk.injEq]at hx
   exact⟨c0,c1,y0,y1,n,rfl,by simpa using hx.1,by simpa using hx.2,by simpa [Value.cells,o0,k0]using hg 0 f0 rfl,by simpa [Value.cells,o1,k1]using hg 1 f1 rfl⟩
end
theorem lP {w:World}{a:Addr}{v:Value}(h:w.cell? a=some v):∃g o,a=⟨g,o,none⟩:=by
 obtain⟨g,o,sp⟩:=a;obtain rfl:sp=none:=by simpa using World.cell?_spot h
 exact⟨g,o,rfl⟩
theorem sW {H:Type}{enc:TypeId×Value→H}{P:Program}{W:World}{spare:Nat→Bool}{held:Bool}{t e:TypeId}{k:IntKind}{fuel:Nat}{u:Value}{x:DataW H×List MemPlace}(ht:P.underlying t=some (.slice e))(he:P.underlying e=some (.int k))(hc:P.cellsOf e=1)
 (hf:DataW.trod enc P W 0 spare held fuel t [u]=some x):
 ∃(A:Option Addr) (n c:Nat) (z:Nat→Int),u=.slice A n c∧Rd W A n (fun j=>.int k (z j))∧n≤maxLen∧∀j,j<n→(Lit.int k (z j)).wf=true:=by
 rcases open_ints ht he hc hf with⟨hcs,hx⟩|⟨a,len,cap,zs,hcs,_,hl,hm,hz,hx,hcell,hws⟩
 ·simp at hcs
  subst hcs;exact⟨none,0,0,fun _=>0,rfl,fun h=>absurd h (by omega),by simp,fun j hj=>absurd hj (by omega)⟩
 ·simp at hcs
  subst hcs;have hle:len≤zs.length:=by rw[hz];split<;>omega
  refine⟨some a,len,cap,fun j=>zs.getD j 0,rfl,fun hN=>?_,by omega,fun j hj=>hws _ ?_⟩
  ·obtain⟨g,o,rfl⟩:∃g o,a=⟨g,o,none⟩:=by
    have:=hcell 0 (by omega);rw[show a.add 0=a by simp[Addr.add]]at this;exact lP this
   refine⟨g,o,rfl,by simpa [Addr.add_lit]using World.block_lt_of_cell? W _ (hcell 0 (by omega)),fun j hj=>?_⟩;have:=hcell j (by omega);rw[Addr.add_lit]at this;exact this
  ·simp[List.getD,List.getElem?_eq_getElem (show j<zs.length by omega)]
end Go.Proofs.YtmnbgjnipbpiaaaGreat
namespace Go.Proofs.YtmnbgjnipbpiaaaGreat
open Go.RowKit Go.WideShapes Go.ChangeShapes Go.Deep Go.Joins Go.ChangeAt
variable {H:Type}{enc:TypeId×Value→H}{P:Program}{W:World}{spare:Nat→Bool}{held:Bool}
theorem lS {S:Nat}{t e:TypeId}{fs:Array Field}{fuel:Nat}{u:Value}{x:DataW H×List MemPlace}(ht:P.underlying t=some (.slice e))(he:P.underlying e=some (.struct fs))(hone:oneCellFields P fs=true)(hC:P.cellsOf e=fs.size)
 (hi:fs.toList.map (fun f=>P.underlying f.type)=List.replicate S (some (.int .i64))) (hS:fs.size=S) (h0:0<S) (hf:DataW.trod enc P W 0 spare held fuel t [u]=some x):
 ∃(A:OA) (n q:Nat) (z:Nat→Int),u=.slice A n q∧Rd W A (n*S) (fun j=>.int .i64 (z j))∧n≤maxLen:=by
 subst hS
 rcases mW ht he hone hC hf with⟨hcs,_⟩|⟨a,len,cap,m,D,Pl,hcs,_,hl,hm,hmm,_,hel⟩
 ·simp at hcs
  subst hcs;exact⟨none,0,0,fun _=>0,rfl,fun h=>absurd h qo,by simp⟩
 ·simp at hcs
  subst hcs;have hle:len≤m:=by rw[hmm];split<;>omega
  have hall:∀q,∃z:Int,q<len*fs.size→W.cell? (a.add q)=some (.int .i64 z):=by
   intro q
   by_cases hq:q<len*fs.size
   ·have KX:q/fs.size<len:=Nat.div_lt_of_lt_mul (by rw[Nat.mul_comm];exact hq)
    have hqm:q%fs.size<fs.size:=Nat.mod_lt _ h0;obtain⟨ys,k,_,_,_,hfl⟩:=hel (q/fs.size) qo;obtain⟨v,y,hc,_,htr⟩:=hfl (q%fs.size) (fs[q%fs.size]'hqm) (Array.getElem?_eq_getElem hqm);have hu:P.underlying (fs[q%fs.size]'hqm).type=some (.int .i64):=by
     have:=congrArg (fun l=>l[q%fs.size]?) hi
     simp only[List.getElem?_map,List.getElem?_replicate]at this
     rw[if_pos hqm,Array.getElem?_toList,Array.getElem?_eq_getElem hqm]at this
     simpa using this
    obtain⟨z,ez,_,_⟩:=DataW.trod_int hu htr
    simp at ez
    subst ez;rw[show q/fs.size*fs.size+q%fs.size=q from Nat.div_add_mod' q fs.size]at hc;exact⟨z,fun _=>hc⟩
   ·exact⟨0,fun h=>absurd h hq⟩
  obtain⟨z,hz⟩:=Classical.axiomOfChoice hall;refine⟨some a,len,cap,z,rfl,fun hN=>?_,by omega⟩;have h00:=hz 0 hN;obtain⟨g,o,rfl⟩:∃g o,a=⟨g,o,none⟩:=by
   rw[show a.add 0=a by simp[Addr.add]]at h00;exact lP h00
  refine⟨g,o,rfl,by simpa [Addr.add_lit]using World.block_lt_of_cell? W _ h00,fun q hq=>?_⟩;have:=hz q hq;rw[Addr.add_lit]at this;exact this
theorem BD {S:Nat}{r:Reach}{b0:Nat}{t e:TypeId}{fs:Array Field}{v:Value}{d:DataW H}{p:List MemPlace}(ht:P.underlying t=some (.slice e))(he:P.underlying e=some (.struct fs))(hone:oneCellFields P fs=true)(hC:P.cellsOf e=fs.size)
 (hi:fs.toList.map (fun f=>P.underlying f.type)=List.replicate S (some (.int .i64))) (hS:fs.size=S) (h0:0<S) (hv:Value.okWide P W r b0 t v) (h:DataW.Trod enc P W 0 spare held t v d p):
 ∃(A:OA) (n q:Nat) (z:Nat→Int),v=.slice A n q∧Rd W A (n*S) (fun j=>.int .i64 (z j))∧n≤maxLen:=by
 obtain⟨a0,MU,cap0,rfl⟩:=okWide_slice ht hv;obtain⟨fuel,hf⟩:=h;exact lS ht he hone hC hi hS h0 (show DataW.trod enc P W 0 spare held fuel t [.slice a0 MU cap0]=some _ by simpa [Value.cells]using hf)
end Go.Proofs.YtmnbgjnipbpiaaaGreat
