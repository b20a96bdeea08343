/- Walks and plain lemmas. -/
import Derived.Test.YtmnbgjnipbpiaaaGreatP20
set_option linter.unusedVariables false
set_option linter.unusedSimpArgs false
namespace Go.Proofs.YtmnbgjnipbpiaaaGreat
open Go.RowKit
def dZ (o:List aF)(d:aV)(i:Nat):Value:=if i%3=0 then .int .i64 (o.getD (i/3) (0,[],[])).1 else if i%3=1 then .slice (d.W (i/3)) (o.getD (i/3) (0,[],[])).2.1.length (d.cw (i/3))else .slice (d.S (i/3)) (d.m (i/3)) (d.cs (i/3))
def bB (N:Nat)(d:aV):Value:=.slice (d.S (N-1)) (d.m (N-1)) (d.cs (N-1))
structure cB (B:Nat)(v:Value)(o:List aF)(d:aV)(w:World):Prop where
 own:w.ownsRow B 78 3 v o.length ((List.range (o.length*3)).map (dZ o d))
 rw:∀j b,o[j]?=some b→aG w (d.W j) b.2.1
 ln:∀j b,o[j]?=some b→b.2.2.length=d.m j*6
 rs:∀j b,o[j]?=some b→Rd w (d.S j) (d.m j*6) (fun i=>.int .i64 (b.2.2.getD i 0))
 fw:∀j b,o[j]?=some b→∀x,Fb (d.W j) b.2.1.length x→¬v.ownBlock=some x∧¬(bB o.length d).ownBlock=some x
 fs:∀j b,o[j]?=some b→∀x,Fb (d.S j) (d.m j*6) x→¬v.ownBlock=some x∧(j+1<o.length→¬(bB o.length d).ownBlock=some x)
 lo:∀b,o.getLast?=some b→w.ownsRow B 52 6 (bB o.length d) (d.m (o.length-1)) (ints b.2.2)
 lv:∀x,v.ownBlock=some x→¬(bB o.length d).ownBlock=some x
 bw:∀j b,o[j]?=some b→∀x,Fb (d.W j) b.2.1.length x→B≤x
 bs:∀j b,o[j]?=some b→∀x,Fb (d.S j) (d.m j*6) x→B≤x
section
variable {B:Nat}{v:Value}{o:List aF}{d:aV}{w w':World}
theorem cB.below (h:cB B v o d w)(hb:Below w.heap.size w w'):cB B v o d w':=
 ⟨own_below h.own hb,fun j b hj=>(h.rw j b hj).below hb,h.ln,fun j b hj=>(h.rs j b hj).below hb,h.fw,h.fs,fun b hl=>own_below (h.lo b hl) hb,h.lv,h.bw,h.bs⟩
theorem cB.drewN (h:cB B v o d w)(q:Nat):cB B v o d (w.drewN q):=⟨h.own,h.rw,h.ln,h.rs,h.fw,h.fs,h.lo,h.lv,h.bw,h.bs⟩
theorem tR {j:Nat}{b:aF}(h:o[j]?=some b):o.getD j (0,[],[])=b:=by simp[List.getD,h]
theorem kH {g cap:Nat}(h:cB B (.slice (some ⟨g,0,none⟩) o.length cap) o d w){j:Nat}{b:aF}(hj:o[j]?=some b):w.cell? ⟨g,j*3,none⟩=some (.int .i64 b.1)∧w.cell? ⟨g,j*3+1,none⟩=some (.slice (d.W j) b.2.1.length (d.cw j))∧w.cell? ⟨g,j*3+2,none⟩=some (.slice (d.S j) (d.m j) (d.cs j)):=by
 have hlt:j<o.length:=(List.getElem?_eq_some_iff.1 hj).1;have e0:(j*3)/3=j:=qo;have e1:(j*3+1)/3=j:=qo;have e2:(j*3+2)/3=j:=qo;have m0:(j*3)%3=0:=qo;have m1:(j*3+1)%3=1:=qo;have m2:(j*3+2)%3=2:=qo;refine⟨?_,?_,?_⟩
 ·rw[h.own.cellAt _ qo,List.getElem?_map,List.getElem?_range qo,Option.map_some,dZ,e0,if_pos m0,tR hj]
 ·rw[h.own.cellAt _ qo,List.getElem?_map,List.getElem?_range qo,Option.map_some,dZ,e1,if_neg qo,if_pos m1,tR hj]
 ·rw[h.own.cellAt _ qo,List.getElem?_map,List.getElem?_range qo,Option.map_some,dZ,e2,if_neg qo,if_neg qo]
theorem cB.form (h:cB B v o d w)(h0:0<o.length):∃g cap,v=.slice (some ⟨g,0,none⟩) o.length cap∧B≤g∧g<w.heap.size:=by
 rcases h.own.2 with⟨_,h1⟩|⟨g,cap,_,e,hB,hc,_⟩
 ·omega
 ·exact⟨g,cap,e,hB,(Array.getElem?_eq_some_iff.1 hc).1⟩
theorem cB.KT {A:Option Addr}{c:Nat}(h:cB B (.slice A o.length c) o d w):nC w A o d:=fun h0=>by
 obtain⟨g,cap,e,_,hg⟩:=h.form h0;injection e with e1 _ e2;subst e1 e2;refine⟨g,0,rfl,hg,fun j b hj=>?_⟩;obtain⟨c0,c1,c2⟩:=kH h hj;rw[Nat.zero_add];exact⟨c0,c1,c2,h.rw j b hj,h.ln j b hj,h.rs j b hj⟩
def aV.push (d:aV)(k:Nat)(A:OA)(c:Nat):aV:=⟨fun j=>if j=k then A else d.W j,fun j=>if j=k then none else d.S j,fun j=>if j=k then c else d.cw j,fun j=>if j=k then 0 else d.cs j,fun j=>if j=k then 0 else d.m j⟩
theorem dV {b b':aF}{j:Nat}(h:(o++[b])[j]?=some b'):(j<o.length∧o[j]?=some b')∨(j=o.length∧b'=b):=by
 by_cases hj:j<o.length
 ·rw[List.getElem?_append_left hj]at h
  exact .inl ⟨hj,h⟩
 ·rw[List.getElem?_append_right qo]at h
  by_cases hj2:j-o.length=0
  ·rw[hj2]at h
   simp at h
   exact .inr ⟨by omega,h.symm⟩
  ·rw[List.getElem?_eq_none (by simp;omega)]at h
   cases h
theorem cB.push (h:cB B v o d w){A:Option Addr}{W:List Int}{c:Nat}{n:Int}{v':Value}(hA:aG w A W)(hv:∀x,Fb A W.length x→¬v.ownBlock=some x)(hB:∀x,Fb A W.length x→B≤x)
 (hown:w'.ownsRow B 78 3 v' (o.length+1) ((List.range (o.length*3)).map (dZ o d)++[.int .i64 n,.slice A W.length c,.slice none 0 0])) (hf:Fr w w' (fun x=>v.ownBlock=some x)) (hat:v'.ownBlock=v.ownBlock∨v'.ownBlock=some (w.heap.size+1)):
 cB B v' (o++[(n,W,[])]) (d.push o.length A c) w':=by
 have oJ:∀x,x<w.heap.size→¬v.ownBlock=some x→¬v'.ownBlock=some x:=fun x h1 h2 h3=>by
  rcases hat with e|e
  ·exact h2 (e.symm.trans h3)
  ·rw[e]at h3
   injection h3 with h3;omega
 have hll:(o++[(n,W,[])]).length=o.length+1:=by simp
 have hlv:(bB (o++[(n,W,[])]).length (d.push o.length A c))=.slice none 0 0:=by
  simp[bB,aV.push]
 have hwl:∀x,Fb A W.length x→x<w.heap.size:=fun x hx=>(aB _ _ _).2 w x hA hx;refine⟨?_,fun j b hj=>?_,fun j b hj=>?_,fun j b hj=>?_,fun j b hj x hx=>?_,fun j b hj x hx=>?_,fun b hb=>?_,fun x hx=>?_,fun j b hj x hx=>?_,fun j b hj x hx=>?_⟩
 ·rw[hll]
  have e:(List.range ((o.length+1)*3)).map (dZ (o++[(n,W,[])]) (d.push o.length A c))=(List.range (o.length*3)).map (dZ o d)++[.int .i64 n,.slice A W.length c,.slice none 0 0]:=by
   rw[show(o.length+1)*3=o.length*3+3 by omega,List.range_add,List.map_append]
   congr 1
   ·refine List.map_congr_left fun i hi=>?_
    have hi:=List.mem_range.1 hi;have hi3:i/3<o.length:=qo;have hne:i/3≠o.length:=qo;have hg:(o++[(n,W,[])]).getD (i/3) (0,[],[])=o.getD (i/3) (0,[],[]):=by
     simp only[List.getD]
     rw[List.getElem?_append_left hi3]
    simp only[dZ,aV.push,hg,if_neg hne]
   ·have g0:(o++[(n,W,[])]).getD o.length (0,[],[])=(n,W,[]):=by simp[List.getD]
    have a0:(o.length*3)/3=o.length:=qo;have a1:(o.length*3+1)/3=o.length:=qo;have a2:(o.length*3+2)/3=o.length:=qo;have b0:(o.length*3)%3=0:=qo;have b1:(o.length*3+1)%3=1:=qo;have b2:(o.length*3+2)%3=2:=qo
    simp only[List.range,List.range.loop,List.map_cons,List.map_nil,Nat.add_zero,dZ,a0,a1,a2,b0,b1,b2,g0,aV.push,if_true]
    simp
  rw[e];exact hown
 ·rcases dV hj with⟨hlt,hj⟩|⟨rfl,rfl⟩
  ·simp only[aV.push,if_neg (show j≠o.length by omega)]
   exact(aB _ _ _).fr (h.rw j b hj) hf fun x hx he=>(h.fw j b hj x hx).1 he
  ·simp only[aV.push,if_true]
   exact(aB _ _ _).fr hA hf fun x hx he=>hv x hx he
 ·rcases dV hj with⟨hlt,hj⟩|⟨rfl,rfl⟩
  ·simp only[aV.push,if_neg (show j≠o.length by omega)]
   exact h.ln j b hj
  ·simp[aV.push]
 ·rcases dV hj with⟨hlt,hj⟩|⟨rfl,rfl⟩
  ·simp only[aV.push,if_neg (show j≠o.length by omega)]
   exact(aB _ _ _).fr (h.rs j b hj) hf fun x hx he=>(h.fs j b hj x hx).1 he
  ·simp only[aV.push,if_true]
   intro h0;omega
 ·rw[hlv]
  refine⟨?_,fun e=>by cases e⟩
  rcases dV hj with⟨hlt,hj⟩|⟨rfl,rfl⟩
  ·simp only[aV.push,if_neg (show j≠o.length by omega)]at hx
   exact oJ x ((aB _ _ _).2 w x (h.rw j b hj) hx) (h.fw j b hj x hx).1
  ·simp only[aV.push,if_true]at hx
   exact oJ x (hwl x hx) (hv x hx)
 ·rw[hlv]
  refine⟨?_,fun _ e=>by cases e⟩
  rcases dV hj with⟨hlt,hj⟩|⟨rfl,rfl⟩
  ·simp only[aV.push,if_neg (show j≠o.length by omega)]at hx
   exact oJ x ((aB _ _ _).2 w x (h.rs j b hj) hx) (h.fs j b hj x hx).1
  ·simp only[aV.push,if_true]at hx
   obtain⟨h0,_⟩:=hx;omega
 ·rw[hlv]
  have e:b=(n,W,[]):=by simpa using hb.symm
  subst e;have:(d.push o.length A c).m ((o++[(n,W,[])]).length-1)=0:=by simp[aV.push]
  rw[this];exact World.ownsRow_nil _ _ _ _
 ·rw[hlv]
  intro e
  cases e
 ·rcases dV hj with⟨hlt,hj⟩|⟨rfl,rfl⟩
  ·simp only[aV.push,if_neg (show j≠o.length by omega)]at hx
   exact h.bw j b hj x hx
  ·simp only[aV.push,if_true]at hx
   exact hB x hx
 ·rcases dV hj with⟨hlt,hj⟩|⟨rfl,rfl⟩
  ·simp only[aV.push,if_neg (show j≠o.length by omega)]at hx
   exact h.bs j b hj x hx
  ·simp only[aV.push,if_true]at hx
   obtain⟨h0,_⟩:=hx;omega
def aV.add (d:aV)(k:Nat)(A:OA)(c:Nat):aV:=⟨d.W,fun j=>if j=k then A else d.S j,d.cw,fun j=>if j=k then c else d.cs j,fun j=>if j=k then d.m j+1 else d.m j⟩
theorem oT {b:aF}(h:o.getLast?=some b)(s:List Int):aR o s=o.set (o.length-1) (b.1,b.2.1,b.2.2++s):=by
 unfold aR;rw[h];have h0:0<o.length:=List.length_pos_iff.2 fun e=>by rw[e]at h;cases h
 apply List.ext_getElem?
 intro i;rw[List.getElem?_set,List.getElem?_append,List.length_dropLast]
 by_cases h1:i<o.length-1
 ·rw[if_pos h1,if_neg qo,List.getElem?_dropLast,if_pos h1]
 ·rw[if_neg h1]
  by_cases h2:o.length-1=i
  ·subst h2
   rw[if_pos rfl,if_pos qo,Nat.sub_self]
   rfl
  ·rw[if_neg h2,List.getElem?_eq_none (l:=[_]) (by rw[List.length_singleton];omega),List.getElem?_eq_none qo]
theorem xN {w:World}{A:Option Addr}{n c:Nat}{L:List Int}(ho:w.ownsRow B 52 6 (.slice A n c) n (ints L)):Rd w A (n*6) (fun i=>.int .i64 (L.getD i 0)):=fun h0=>by
 have hl:L.length=n*6:=by have:=ho.1;simpa [ints]using this
 rcases ho.2 with⟨_,h1⟩|⟨g',cap,_,hg,_⟩
 ·omega
 injection hg with hA _ hc;subst hA;refine⟨g',0,rfl,(ho.lt g' rfl).2,fun j hj=>?_⟩;rw[Nat.zero_add,ho.cellAt j qo]
 simp[ints,List.getD,show j<L.length by omega]
theorem cB.add {g cap:Nat}(h:cB B (.slice (some ⟨g,0,none⟩) o.length cap) o d w){b:aF}(hb:o.getLast?=some b){A':Option Addr}{c':Nat}{s:List Int}(hs:s.length=6)
 (hown:w'.ownsRow B 52 6 (.slice A' (d.m (o.length-1)+1) c') (d.m (o.length-1)+1) (ints b.2.2++ints s)) (hf:Fr w w' (fun x=>(bB o.length d).ownBlock=some x)) (hat:(Value.slice A' (d.m (o.length-1)+1) c').ownBlock=(bB o.length d).ownBlock∨(Value.slice A' (d.m (o.length-1)+1) c').ownBlock=some (w.heap.size+1)):
 cB B (.slice (some ⟨g,0,none⟩) o.length cap) (aR o s) (d.add (o.length-1) A' c') (w'.setCell ⟨g,(o.length-1)*3+2,none⟩ (.slice A' (d.m (o.length-1)+1) c')):=by
 have h0:0<o.length:=List.length_pos_iff.2 fun e=>by rw[e]at hb;cases hb
 obtain⟨l,hl⟩:∃l,o.length=l+1:=⟨o.length-1,by omega⟩;have hl1:o.length-1=l:=qo;have hbl:o[l]?=some b:=by rw[←hb,List.getLast?_eq_getElem?,hl1]
 have hgz:g<w.heap.size:=(h.own.lt g rfl).2;have hgl:¬(bB o.length d).ownBlock=some g:=h.lv g rfl;rw[oT hb];have hlen:(o.set (o.length-1) (b.1,b.2.1,b.2.2++s)).length=o.length:=by rw[List.length_set]
 have hnew:∀x,x<w.heap.size→¬(bB o.length d).ownBlock=some x→¬(Value.slice A' (d.m (o.length-1)+1) c').ownBlock=some x:=fun x h1 h2 h3=>by
  rcases hat with e|e
  ·exact h2 (e.symm.trans h3)
  ·rw[e]at h3
   injection h3 with h3;omega
 have hgn:=hnew g hgz hgl;have hlv:bB (o.set (o.length-1) (b.1,b.2.1,b.2.2++s)).length (d.add (o.length-1) A' c')=.slice A' (d.m (o.length-1)+1) c':=by
  rw[hlen]
  simp[bB,aV.add]
 have hcs:∀j b',(o.set (o.length-1) (b.1,b.2.1,b.2.2++s))[j]?=some b'→(j≠l∧o[j]?=some b')∨(j=l∧b'=(b.1,b.2.1,b.2.2++s)):=fun j b' hj=>by
  rw[List.getElem?_set,hl1]at hj
  by_cases e:l=j
  ·rw[if_pos e,if_pos qo]at hj
   injection hj with hj;exact .inr ⟨e.symm,hj.symm⟩
  ·rw[if_neg e]at hj
   exact .inl ⟨fun e'=>e e'.symm,hj⟩
 have hset:∀x,x≠g→(w'.setCell ⟨g,(o.length-1)*3+2,none⟩ (.slice A' (d.m (o.length-1)+1) c')).heap[x]?=w'.heap[x]?:=fun x hx=>Below.heap_setCell w' _ _ x hx;have hown2:w'.ownsRow B 52 6 (.slice A' (d.m (o.length-1)+1) c') (d.m (o.length-1)+1) (ints (b.2.2++s)):=by rw[dI];exact hown
 refine⟨?_,fun j b' hj=>?_,fun j b' hj=>?_,fun j b' hj=>?_,fun j b' hj x hx=>?_,fun j b' hj x hx=>?_,fun b' hb'=>?_,fun x hx=>?_,fun j b' hj x hx=>?_,fun j b' hj x hx=>?_⟩
 ·rw[hlen]
  have h1:w'.ownsRow B 78 3 (.slice (some ⟨g,0,none⟩) o.length cap) o.length ((List.range (o.length*3)).map (dZ o d)):=b9 h.own fun x hx=>hf.block x (h.own.lt x hx).2 fun e=>h.lv x hx e;have h2:=(h1.stored ((o.length-1)*3+2) (.slice A' (d.m (o.length-1)+1) c')).1;have e:(List.range (o.length*3)).map (dZ (o.set (o.length-1) (b.1,b.2.1,b.2.2++s)) (d.add (o.length-1) A' c'))=((List.range (o.length*3)).map (dZ o d)).set ((o.length-1)*3+2) (.slice A' (d.m (o.length-1)+1) c'):=by
   apply List.ext_getElem?
   intro i;rw[List.getElem?_set]
   by_cases hi:i<o.length*3
   ·rw[List.getElem?_map,List.getElem?_range hi,Option.map_some]
    by_cases e:(o.length-1)*3+2=i
    ·rw[if_pos e,if_pos (by simp;omega)]
     have e3:i/3=o.length-1:=qo;have e4:i%3=2:=qo
     simp only[dZ,e3,e4,aV.add,if_true]
     simp
    ·rw[if_neg e,List.getElem?_map,List.getElem?_range hi,Option.map_some]
     congr 1
     have hg3:(o.set (o.length-1) (b.1,b.2.1,b.2.2++s)).getD (i/3) (0,[],[])=if i/3=l then(b.1,b.2.1,b.2.2++s)else o.getD (i/3) (0,[],[]):=by
      rw[hl1]
      simp only[List.getD,List.getElem?_set]
      by_cases e5:l=i/3
      ·rw[if_pos e5,if_pos qo,if_pos e5.symm]
       rfl
      ·rw[if_neg e5,if_neg fun e=>e5 e.symm]
     by_cases e5:i/3=l
     ·have e6:i%3=0∨i%3=1:=qo
      simp only[dZ,hg3,if_pos e5,aV.add]
      rw[e5,tR hbl]
      rcases e6 with e6|e6
      ·simp[e6]
      ·simp[e6]
     ·rw[hl1]at hg3
      simp only[dZ,hl1,hg3,if_neg e5,aV.add]
   ·rw[if_neg qo,List.getElem?_eq_none (by simp;omega),List.getElem?_eq_none (by simp;omega)]
  rw[e];exact h2
 ·rcases hcs j b' hj with⟨hjl,hj⟩|⟨rfl,rfl⟩
  ·exact(aB _ _ _).1 _ _ ((aB _ _ _).fr (h.rw j b' hj) hf fun x hx he=>(h.fw j b' hj x hx).2 he) fun x hx=>hset x fun e=>(h.fw j b' hj x hx).1 (by rw[e];rfl)
  ·exact(aB _ _ _).1 _ _ ((aB _ _ _).fr (h.rw j b hbl) hf fun x hx he=>(h.fw j b hbl x hx).2 he) fun x hx=>hset x fun e=>(h.fw j b hbl x hx).1 (by rw[e];rfl)
 ·rcases hcs j b' hj with⟨hjl,hj⟩|⟨rfl,rfl⟩
  ·simp only[aV.add,if_neg (show j≠o.length-1 by omega)]
   exact h.ln j b' hj
  ·simp only[aV.add,if_pos hl1.symm,List.length_append,h.ln j b hbl,hs]
   omega
 ·rcases hcs j b' hj with⟨hjl,hj⟩|⟨rfl,rfl⟩
  ·simp only[aV.add,if_neg (show j≠o.length-1 by omega)]
   have hjlt:j<o.length:=(List.getElem?_eq_some_iff.1 hj).1;exact(aB _ _ _).1 _ _ ((aB _ _ _).fr (h.rs j b' hj) hf fun x hx he=>(h.fs j b' hj x hx).2 qo he) fun x hx=>hset x fun e=>(h.fs j b' hj x hx).1 (by rw[e];rfl)
  ·simp only[aV.add,if_pos hl1.symm]
   have h1:=xN hown2;rw[hl1]at h1;refine(aB _ _ _).1 _ _ h1 fun x hx=>hset x fun e=>?_;obtain⟨_,a,rfl,rfl⟩:=hx;exact hgn (by rw[←e];rfl)
 ·rw[hlv]
  rcases hcs j b' hj with⟨hjl,hj⟩|⟨rfl,rfl⟩
  ·exact⟨(h.fw j b' hj x hx).1,hnew x ((aB _ _ _).2 w x (h.rw j b' hj) hx) (h.fw j b' hj x hx).2⟩
  ·exact⟨(h.fw j b hbl x hx).1,hnew x ((aB _ _ _).2 w x (h.rw j b hbl) hx) (h.fw j b hbl x hx).2⟩
 ·rw[hlv,hlen]
  rcases hcs j b' hj with⟨hjl,hj⟩|⟨rfl,rfl⟩
  ·simp only[aV.add,if_neg (show j≠o.length-1 by omega)]at hx
   exact⟨(h.fs j b' hj x hx).1,fun hlt=>hnew x ((aB _ _ _).2 w x (h.rs j b' hj) hx) ((h.fs j b' hj x hx).2 hlt)⟩
  ·simp only[aV.add,if_pos hl1.symm]at hx
   obtain⟨_,a,rfl,rfl⟩:=hx;refine⟨fun e=>?_,fun hlt=>by omega⟩;have e:some g=some a.block:=e;exact hgn (by rw[e];rfl)
 ·rw[hlv,hlen]
  have e:b'=(b.1,b.2.1,b.2.2++s):=by
   rw[List.getLast?_eq_getElem?,hlen,hl1,List.getElem?_set_self qo]at hb';injection hb' with hb';exact hb'.symm
  subst e
  simp only[aV.add,if_true]
  exact b9 hown2 fun x hx=>hset x fun e=>hgn (by rw[←e];exact hx)
 ·rw[hlv]
  have e:some g=some x:=hx;injection e with e;rw[←e];exact hgn
 ·rcases hcs j b' hj with⟨hjl,hj⟩|⟨rfl,rfl⟩
  ·exact h.bw j b' hj x hx
  ·exact h.bw j b hbl x hx
 ·rcases hcs j b' hj with⟨hjl,hj⟩|⟨rfl,rfl⟩
  ·simp only[aV.add,if_neg (show j≠o.length-1 by omega)]at hx
   exact h.bs j b' hj x hx
  ·simp only[aV.add,if_pos hl1.symm]at hx
   obtain⟨_,a,rfl,rfl⟩:=hx;exact(hown2.lt a.block rfl).1
def kJ (v:Value)(o:List aF)(d:aV)(x:Nat):Prop:=v.ownBlock=some x∨(bB o.length d).ownBlock=some x∨∃j b,o[j]?=some b∧(Fb (d.W j) b.2.1.length x∨Fb (d.S j) (d.m j*6) x)
theorem cB.jS (h:cB B v o d w)(ho:0<o.length){x:Nat}(hx:kJ v o d x):x<w.heap.size:=by
 rcases hx with hx|hx|⟨j,b,hj,hx|hx⟩
 ·exact(h.own.lt x hx).2
 ·obtain⟨b,hb⟩:∃b,o.getLast?=some b:=⟨o[o.length-1],by rw[List.getLast?_eq_getElem?,List.getElem?_eq_getElem]⟩
  exact((h.lo b hb).lt x hx).2
 ·exact(aB _ _ _).2 w x (h.rw j b hj) hx
 ·exact(aB _ _ _).2 w x (h.rs j b hj) hx
theorem cB.keep (h:cB B v o d w)(ho:0<o.length)(hk:∀x,kJ v o d x→w'.heap[x]?=w.heap[x]?):cB B v o d w':=
 ⟨b9 h.own fun x hx=>hk x (.inl hx),
  fun j b hj=>(aB _ _ _).1 _ _ (h.rw j b hj) fun x hx=>hk x (.inr (.inr ⟨j,b,hj,.inl hx⟩)),
  h.ln,
  fun j b hj=>(aB _ _ _).1 _ _ (h.rs j b hj) fun x hx=>hk x (.inr (.inr ⟨j,b,hj,.inr hx⟩)),
  h.fw,h.fs,
  fun b hb=>b9 (h.lo b hb) fun x hx=>hk x (.inr (.inl hx)),
  h.lv,h.bw,h.bs⟩
theorem cB.fr {F:Nat→Prop}(h:cB B v o d w)(ho:0<o.length)(hf:Fr w w' F)(hF:∀x,kJ v o d x→¬F x):cB B v o d w':=
 ⟨b9 h.own fun x hx=>hf.block x (h.jS ho (.inl hx)) (hF x (.inl hx)),
  fun j b hj=>(aB _ _ _).fr (h.rw j b hj) hf fun x hx=>hF x (.inr (.inr ⟨j,b,hj,.inl hx⟩)),
  h.ln,
  fun j b hj=>(aB _ _ _).fr (h.rs j b hj) hf fun x hx=>hF x (.inr (.inr ⟨j,b,hj,.inr hx⟩)),
  h.fw,h.fs,
  fun b hb=>b9 (h.lo b hb) fun x hx=>hf.block x (h.jS ho (.inr (.inl hx))) (hF x (.inr (.inl hx))),
  h.lv,h.bw,h.bs⟩
theorem BU {b:aF}(hb:o.getLast?=some b){A':Option Addr}{c':Nat}{s:List Int}{x:Nat}(hx:kJ v (aR o s) (d.add (o.length-1) A' c') x):(Value.slice A' (d.m (o.length-1)+1) c').ownBlock=some x∨kJ v o d x:=by
 have h0:0<o.length:=List.length_pos_iff.2 fun e=>by rw[e]at hb;cases hb
 have hbl:o[o.length-1]?=some b:=by rw[←hb,List.getLast?_eq_getElem?]
 rw[oT hb]at hx
 rcases hx with hx|hx|⟨j,b',hj,hx⟩
 ·exact .inr (.inl hx)
 ·rw[List.length_set]at hx
  simp only[bB,aV.add,if_true]at hx
  exact .inl hx
 ·rw[List.getElem?_set]at hj
  by_cases e:o.length-1=j
  ·rw[if_pos e,if_pos qo]at hj
   injection hj with hj;subst hj;subst e
   simp only[aV.add,if_true]at hx
   rcases hx with hx|hx
   ·exact .inr (.inr (.inr ⟨_,b,hbl,.inl hx⟩))
   ·obtain⟨_,a,rfl,rfl⟩:=hx
    exact .inl rfl
  ·rw[if_neg e]at hj
   simp only[aV.add,if_neg (fun e'=>e e'.symm:¬j=o.length-1)]at hx
   exact .inr (.inr (.inr ⟨j,b',hj,hx⟩))
end
theorem cW {P:Program}(W:World){ops:Array Oper}{rest:List Oper}{o:Oper}{a:Act}{Q:Exit→Act→World→Prop}(hgd:o.guard=none)(s x:Operand)(t:TypeId)
 (ho:o.op=.call {callee:=.builtin .append,args:=#[s,x],argTypes:=#[t,t]})
 (base:Nat) (e:TypeId) (i:TypeInfo) (z:Value) (size bytes:Nat) (ht:P.underlying t=some (.slice e)) (hi:P.info? e=some i) (hz:i.zero=some z)
 (hsize:i.size=size) (hby:i.bytes=bytes) (hzs:z.cells.size=size) (hsz:0<size)
 (v:Value) (n:Nat) (xs:List Value) (hs:a.eval s=v) (hown:W.ownsRow base e size v n xs)
 (te:TypeId) (m c:Nat) (news:List Value) (q:Nat) (hq:q=W.heap.size) (hx:a.eval x=.slice (some ⟨q,0,none⟩) m c) (hl:news.length=m*size) (h1:∀u∈news,u.oneCell'=true)
 (h63:n+m≤maxLen) (hbytes:(n+m)*bytes≤140737488355328) (hbase:base≤W.heap.size)
 (h:∀v' w',w'.ownsRow base e size v' (n+m) (xs++news)→Fr W w' (fun b=>v.ownBlock=some b)→(v'.ownBlock=v.ownBlock∨v'.ownBlock=some (q+1))→wpList P ops Q rest (a.put o.dst v') w'):
 wpList P ops Q (o::rest) a (W.alloc (.cells news.toArray te)):=by
 subst hq;exact eJ W hgd s x t ho base e i z size bytes ht hi hz hsize hby hzs hsz v n xs hs hown te m c news hx hl h1 h63 hbytes hbase h
end Go.Proofs.YtmnbgjnipbpiaaaGreat
