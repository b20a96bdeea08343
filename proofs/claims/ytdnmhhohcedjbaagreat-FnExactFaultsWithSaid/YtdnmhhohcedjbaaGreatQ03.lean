/- Walks and plain lemmas. -/
import Derived.Test.YtdnmhhohcedjbaaGreatQ01
set_option linter.unusedVariables false
set_option linter.unusedSimpArgs false
namespace Go.Proofs.YtdnmhhohcedjbaaGreat
open Go.RowKit
theorem Loc.drewN {P:World→Prop}{F:Nat→Prop}{w:World}(h:Loc P F)(hp:P w)(n:Nat):P (w.drewN n):=h.1 w _ hp fun _ _=>rfl
theorem D6.lo {w w':World}{R W:World→Prop}{F:Nat→Prop}{k:Nat}(h:D6 w w' R W F)(hk:k≤w.heap.size):∀b,F b→k≤b:=fun b hb=>Nat.le_trans hk (h.ab b hb)
theorem D6.hi {w w':World}{R W:World→Prop}{F:Nat→Prop}(h:D6 w w' R W F):∀b,F b→b<w'.heap.size:=fun b hb=>h.or.2 _ b h.r hb
def aB (w:World)(g:Nat)(t:TypeId)(cs:Array Value):Prop:=w.heap[g]?=some (.cells cs t (0,0))
section
variable {w w':World}{g:Nat}{t:TypeId}{cs:Array Value}
theorem aB.lt (h:aB w g t cs):g<w.heap.size:=(Array.getElem?_eq_some_iff.1 h).1
theorem aB.cell (h:aB w g t cs)(i:Nat):w.cell? ⟨g,i,none⟩=cs[i]?:=cell_of_row w g i cs t (0,0) h
theorem aB.frozen (h:aB w g t cs)(i:Nat):w.frozen? ⟨g,i,none⟩=false:=by
 unfold aB at h
 simp[World.frozen?,h]
theorem aB.at_ {g':Nat}(w:World)(t:TypeId)(cs:Array Value)(hg:g'=w.heap.size):aB (w.alloc (.cells cs t)) g' t cs:=by
 subst hg;exact heap_alloc_new w _
theorem aB.drewN (h:aB w g t cs)(n:Nat):aB (w.drewN n) g t cs:=h
theorem aB.alloc (h:aB w g t cs)(o:Obj):aB (w.alloc o) g t cs:=(Below.heap_alloc w o g h.lt).trans h
theorem aB.bJ (h:aB w g t cs)(i:Nat)(u:Value):aB (w.setCell ⟨g,i,none⟩ u) g t (cs.setIfInBounds i u):=by
 unfold aB at h ⊢
 simp[World.setCell,Array.getElem?_modify,h]
theorem aB.far (h:aB w g t cs){p:Addr}(hp:g≠p.block)(u:Value):aB (w.setCell p u) g t cs:=(Below.heap_setCell w p u g hp).trans h
theorem aB.below {B:Nat}(h:aB w g t cs)(hb:Below B w w')(hg:g<B):aB w' g t cs:=(hb.block g hg).trans h
theorem aB.fr {F:Nat→Prop}(h:aB w g t cs)(hf:Fr w w' F)(hg:¬F g):aB w' g t cs:=(hf.block g h.lt hg).trans h
end
theorem aaC {B:Nat}{w w':World}{e:TypeId}{size n:Nat}{v:Value}{xs:List Value}(ho:w.ownsRow B e size v n xs)(hblk:∀b,B≤b→b<w.heap.size→w'.heap[b]?=w.heap[b]?):w'.ownsRow B e size v n xs:=by
 refine⟨ho.1,?_⟩
 rcases ho.2 with hn|⟨g,cap,cur,rfl,hb,hgg,rest⟩
 ·exact .inl hn
 ·exact .inr ⟨g,cap,cur,rfl,hb,(hblk g hb (Array.getElem?_eq_some_iff.1 hgg).1).trans hgg,rest⟩
theorem qw {B:Nat}{w:World}{e:TypeId}{size n:Nat}{v:Value}{xs:List Value}(ho:w.ownsRow B e size v n xs){p:Addr}(hp:p.block<B)(u:Value):(w.setCell p u).ownsRow B e size v n xs:=
 aaC ho fun b hb _=>Below.heap_setCell w p u b qo
theorem aF {B:Nat}{w:World}{e:TypeId}{size n:Nat}{v:Value}{xs:List Value}(ho:w.ownsRow B e size v n xs):∃A c,v=.slice A n c:=by
 rcases ho.2 with⟨rfl,rfl⟩|⟨g,cap,cur,rfl,_⟩
 ·exact⟨none,0,rfl⟩
 ·exact⟨_,_,rfl⟩
theorem own_drewN {B:Nat}{w:World}{e:TypeId}{size n:Nat}{v:Value}{xs:List Value}(ho:w.ownsRow B e size v n xs)(q:Nat):(w.drewN q).ownsRow B e size v n xs:=ho
theorem aaP {w w':World}{A:Option Addr}{N:Nat}{f:Nat→Value}(hp:New w w' A N f)(hN:0<N):∃g o,A=some ⟨g,o,none⟩∧w.heap.size≤g∧g<w'.heap.size∧bI w' g o N f∧dS w' g o N:=by
 obtain⟨g,o,e,hg,hr⟩:=hp.rd hN;obtain⟨g',o',e',hw⟩:=hp.wr hN;rw[e]at e';injection e' with e';injection e' with e1 e2;subst e1 e2;exact⟨g,o,e,hp.ab _ e,hg,hr,hw⟩
theorem qc {w:World}{g:Nat}{t:TypeId}{cs:Array Value}{v:Value}(h:aB w g t cs)(i:Nat)(hv:cs[i]?=some v):w.cell? ⟨g,i,none⟩=some v:=(h.cell i).trans hv
theorem gq {P:Program}(W:World){ops:Array Oper}{rest:List Oper}{o:Oper}{a:Act}{Q:Exit→Act→World→Prop}(hgd:o.guard=none)(s x:Operand)(t:TypeId)
 (ho:o.op=.call {callee:=.builtin .append,args:=#[s,x],argTypes:=#[t,t]})
 (base:Nat) (e:TypeId) (i:TypeInfo) (z:Value) (size bytes:Nat) (ht:P.underlying t=some (.slice e)) (hi:P.info? e=some i) (hz:i.zero=some z)
 (hsize:i.size=size) (hby:i.bytes=bytes) (hzs:z.cells.size=size) (hsz:0<size)
 (v:Value) (n:Nat) (xs:List Value) (hs:a.eval s=v) (hown:W.ownsRow base e size v n xs)
 (te:TypeId) (m c:Nat) (news:List Value) (hx:a.eval x=.slice (some ⟨W.heap.size,0,none⟩) m c) (hl:news.length=m*size) (h1:∀u∈news,u.oneCell'=true)
 (h63:n+m≤maxLen) (hbytes:(n+m)*bytes≤140737488355328) (hbase:base≤W.heap.size)
 (h:∀v' w',w'.ownsRow base e size v' (n+m) (xs++news)→Fr W w' (fun b=>v.ownBlock=some b)→wpList P ops Q rest (a.put o.dst v') w'):
 wpList P ops Q (o::rest) a (W.alloc (.cells news.toArray te)):=by
 have hn:=heap_alloc_new W (.cells news.toArray te);refine wpList_append_own _ hgd s x t ho base e i z size bytes ht hi hz hsize hby hzs hsz v n xs hs (hown.alloc _) ⟨W.heap.size,0,none⟩ m c news hx hl ?_ h1 h63 hbytes (by simp;omega) ?_
 ·intro j u hu
  rw[Addr.add_lit,cell_of_row _ _ _ _ _ _ hn]
  simpa using hu
 ·intro v' w' h2 h3 _
  refine h v' w' h2 ⟨h3.os,h3.tape,h3.output,Nat.le_trans qj h3.size,fun b hb hne=>?_⟩;exact(h3.block b (by simp;omega) (fun e=>hne e.symm)).trans (Below.heap_alloc W _ b hb)
theorem Fr.own {B:Nat}{w w':World}{e:TypeId}{size n:Nat}{v:Value}{xs:List Value}(h:Fr w w' (fun b=>v.ownBlock=some b))(ho:w.ownsRow B e size v n xs)(hB:B≤w.heap.size):Below B w w':=
 h.below hB fun b hb=>(ho.lt b hb).1
theorem Fr.cells {g:Nat}{w w':World}{F:Nat→Prop}(h:Fr w w' F)(hg:g<w.heap.size)(hF:¬F g)(o:Nat):w'.cell? ⟨g,o,none⟩=w.cell? ⟨g,o,none⟩:=World.cell?_of_block (h.block g hg hF)
theorem cB {P:Program}(W:World){ops:Array Oper}{rest:List Oper}{o:Oper}{a:Act}{Q:Exit→Act→World→Prop}(hgd:o.guard=none)(s x:Operand)(t:TypeId)
 (ho:o.op=.call {callee:=.builtin .append,args:=#[s,x],argTypes:=#[t,t]})
 (base:Nat) (e:TypeId) (i:TypeInfo) (z:Value) (size bytes:Nat) (ht:P.underlying t=some (.slice e)) (hi:P.info? e=some i) (hz:i.zero=some z)
 (hsize:i.size=size) (hby:i.bytes=bytes) (hzs:z.cells.size=size) (hsz:0<size)
 (v:Value) (n:Nat) (xs:List Value) (hs:a.eval s=v) (hown:W.ownsRow base e size v n xs)
 (te:TypeId) (m c:Nat) (news:List Value) (hx:a.eval x=.slice (some ⟨W.heap.size,0,none⟩) m c) (hl:news.length=m*size) (h1:∀u∈news,u.oneCell'=true)
 (h63:n+m≤maxLen) (hbytes:(n+m)*bytes≤140737488355328) (hbase:base≤W.heap.size)
 (h:∀v' w',w'.ownsRow base e size v' (n+m) (xs++news)→Fr W w' (fun b=>v.ownBlock=some b)→(v'.ownBlock=v.ownBlock∨v'.ownBlock=some (W.heap.size+1))→wpList P ops Q rest (a.put o.dst v') w'):
 wpList P ops Q (o::rest) a (W.alloc (.cells news.toArray te)):=by
 have hn:=heap_alloc_new W (.cells news.toArray te);refine wpList_append_own_at _ hgd s x t ho base e i z size bytes ht hi hz hsize hby hzs hsz v n xs hs (hown.alloc _) ⟨W.heap.size,0,none⟩ m c news hx hl ?_ h1 h63 hbytes (by simp;omega) ?_
 ·intro j u hu
  rw[Addr.add_lit,cell_of_row _ _ _ _ _ _ hn]
  simpa using hu
 ·intro v' w' h2 h3 _ h5
  refine h v' w' h2 ⟨h3.os,h3.tape,h3.output,Nat.le_trans qj h3.size,fun b hb hne=>?_⟩ (by simpa using h5);exact(h3.block b (by simp;omega) (fun e=>hne e.symm)).trans (Below.heap_alloc W _ b hb)
end Go.Proofs.YtdnmhhohcedjbaaGreat
