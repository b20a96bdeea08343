/- Walks and plain lemmas. -/
import Derived.Test.YtmnbgjnipbpiaaaGreatDoorP00
set_option linter.unusedVariables false
set_option linter.unusedSimpArgs false
namespace Go.Proofs.YtmnbgjnipbpiaaaGreatDoor
open Go.RowKit
def Loc (P:World→Prop)(F:Nat→Prop):Prop:=(∀w w',P w→(∀b,F b→w'.heap[b]?=w.heap[b]?)→P w')∧∀w b,P w→F b→b<w.heap.size
structure Fr (w w':World)(F:Nat→Prop):Prop where
 os:w'.os=w.os
 tape:w'.tape=w.tape
 output:w'.output=w.output
 size:w.heap.size≤w'.heap.size
 block:∀b,b<w.heap.size→¬F b→w'.heap[b]?=w.heap[b]?
structure iS (w w':World)(R W:World→Prop)(F:Nat→Prop):Prop where
 bl:Below w.heap.size w w'
 ab:∀b,F b→w.heap.size≤b
 r:R w'
 w:W w'
 or:Loc R F
 ow:Loc W F
section
variable {w w' w'':World}{P R W M:World→Prop}{F F':Nat→Prop}
theorem Loc.below (h:Loc P F)(hp:P w)(hb:Below w.heap.size w w'):P w':=h.1 w w' hp fun b hF=>hb.block b (h.2 w b hp hF)
theorem Loc.fr (h:Loc P F)(hp:P w)(hf:Fr w w' F')(hd:∀b,F b→¬F' b):P w':=h.1 w w' hp fun b hF=>hf.block b (h.2 w b hp hF) (hd b hF)
theorem Loc.kept {w0:World}{P0 R' W':World→Prop}{B w1:World}(h:Loc P F)(hp:P w)(h0:Loc P0 F)(hp0:P0 w0)(hn:iS B w1 R' W' F')(hB:w0.heap.size≤B.heap.size)(hf:Fr w w' F'):P w':=
 h.fr hp hf fun b hb hb'=>by
  have:=hn.ab b hb';have:=h0.2 w0 b hp0 hb;omega
theorem Loc.later {w0:World}{P0 R' W':World→Prop}{B w1:World}(h:Loc P F)(hp:P w)(hn:iS B w1 R' W' F)(h0:Loc P0 F')(hp0:P0 w0)(hB:w0.heap.size≤B.heap.size)(hf:Fr w w' F'):P w':=
 h.fr hp hf fun b hb hb'=>by
  have:=hn.ab b hb;have:=h0.2 w0 b hp0 hb';omega
theorem Fr.below {B:Nat}(h:Fr w w' F)(hB:B≤w.heap.size)(hF:∀b,F b→B≤b):Below B w w':=
 ⟨h.os,h.tape,h.output,h.size,fun k hk=>h.block k qo fun hk'=>by have:=hF k hk';omega⟩
theorem Fr.refl (w:World)(F:Nat→Prop):Fr w w F:=⟨rfl,rfl,rfl,Nat.le_refl _,fun _ _ _=>rfl⟩
theorem Fr.trans (h:Fr w w' F)(h':Fr w' w'' F):Fr w w'' F:=
 ⟨h'.os.trans h.os,h'.tape.trans h.tape,h'.output.trans h.output,Nat.le_trans h.size h'.size,fun b hb hF=>(h'.block b (Nat.lt_of_lt_of_le hb h.size) hF).trans (h.block b hb hF)⟩
theorem Fr.mono (h:Fr w w' F)(hF:∀b,F b→F' b):Fr w w' F':=⟨h.os,h.tape,h.output,h.size,fun b hb hn=>h.block b hb fun hb'=>hn (hF b hb')⟩
theorem Fr.of_below (h:Below w.heap.size w w')(F:Nat→Prop):Fr w w' F:=⟨h.os,h.tape,h.output,h.size,fun b hb _=>h.block b hb⟩
theorem Fr.set (h:Fr w w' F){p:Addr}(hp:F p.block)(v:Value):Fr w (w'.setCell p v) F:=
 ⟨h.os,h.tape,h.output,by simpa [World.setCell]using h.size,fun b hb hn=>(Below.heap_setCell w' p v b (fun e=>hn (e▸hp))).trans (h.block b hb hn)⟩
theorem Fr.m2 {g:Nat}(h:Only w w' g)(hF:F g):Fr w w' F:=⟨h.os,h.tape,h.output,h.size,fun b hb hn=>h.block b hb fun e=>by injection e with e;subst e;exact hn hF⟩
theorem Loc.mono (h:Loc P F)(hF:∀b,F' b→F b)(h':∀w w',P w→(∀b,F' b→w'.heap[b]?=w.heap[b]?)→P w'):Loc P F':=⟨h',fun w b hp hb=>h.2 w b hp (hF b hb)⟩
end
def Fb (A:OA)(N:Nat)(b:Nat):Prop:=0<N∧∃a,A=some a∧a.block=b
section
variable {w w':World}{A:Option Addr}{N:Nat}{f:Nat→Value}
theorem aU (A:OA)(N:Nat)(f:Nat→Value):Loc (fun w=>Rd w A N f) (Fb A N):=by
 refine⟨fun w w' h hF hN=>?_,fun w b h ⟨hN,a,e,hb⟩=>?_⟩
 ·obtain⟨g,o,e,hg,hr⟩:=h hN
  have hblk:=hF g ⟨hN,_,e,rfl⟩;have hr':b9 w' g o N f:=fun j hj=>(World.cell?_of_block (w:=w) (a:=⟨g,o+j,none⟩) hblk).trans (hr j hj);exact⟨g,o,e,World.block_lt_of_cell? w' _ (hr' 0 hN),hr'⟩
 ·obtain⟨g,o,e',hg,_⟩:=h hN
  rw[e]at e';injection e' with e';subst e';subst hb;exact hg
theorem rN (A:OA)(N:Nat):Loc (fun w=>Wr w A N) (Fb A N):=by
 refine⟨fun w w' h hF hN=>?_,fun w b h ⟨hN,a,e,hb⟩=>?_⟩
 ·obtain⟨g,o,e,hr⟩:=h hN
  have hblk:=hF g ⟨hN,_,e,rfl⟩;refine⟨g,o,e,fun j hj=>?_⟩;obtain⟨⟨u,hu⟩,hf⟩:=hr j hj;exact⟨⟨u,(World.cell?_of_block (w:=w) (a:=⟨g,o+j,none⟩) hblk).trans hu⟩,(World.frozen?_of_block (w:=w) (a:=⟨g,o+j,none⟩) hblk).trans hf⟩
 ·obtain⟨g,o,e',hr⟩:=h hN
  rw[e]at e';injection e' with e';subst e';subst hb;exact hr.lt hN
end
theorem New.after {w W w1 w2:World}{A:Option Addr}{N:Nat}{f:Nat→Value}{F:Nat→Prop}(hn:New W w1 A N f)(h0:Below w.heap.size w W)(hf:Fr w1 w2 F)(hF:∀b,F b→w.heap.size≤b∧b<W.heap.size):New w w2 A N f:=by
 have hd:∀b,Fb A N b→¬F b:=fun b ⟨_,a,e,hb⟩ xH=>by
  have:=hn.ab a e;have:=(hF b xH).2;omega
 have hs:=h0.size;have hs1:=hn.bl.size;refine⟨(h0.trans (hn.bl.mono hs)).trans (hf.below qo fun b hb=>(hF b hb).1),hn.ab.mono hs,fun a e=>Nat.lt_of_lt_of_le (hn.bb a e) hf.size,(rN A N).fr hn.wr hf hd,(aU A N f).fr hn.rd hf hd⟩
theorem qf {w w':World}{F:Nat→Prop}(h:Fr w w' F:=by(repeat' first|with_reducible exact Fr.refl _ _|with_reducible refine Fr.set ?_ ?_ _|(simp;done)|omega)):Fr w w' F:=h
end Go.Proofs.YtmnbgjnipbpiaaaGreatDoor
