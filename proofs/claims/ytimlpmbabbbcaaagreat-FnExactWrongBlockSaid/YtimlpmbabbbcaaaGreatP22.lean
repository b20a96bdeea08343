/- Walks and plain lemmas. -/
import Derived.Test.YtimlpmbabbbcaaaGreatP21
import Derived.Sort.OwnSortedInts
set_option linter.unusedVariables false
set_option linter.unusedSimpArgs false
set_option maxRecDepth 20000
namespace Go.Proofs.YtimlpmbabbbcaaaGreat
open Go.RowKit
section
variable {tg:Nat→Nat}{a:bV}{s s':aP}{D:Nat}{w w0 w':World}{g:Nat}
theorem Moved.of_below (hb:Below w.heap.size w w0)(h:Moved w0 tg g s w'):Moved w tg g s w':=by
 obtain⟨eZ,a',h1,h2,h3,h4⟩:=h;exact⟨eZ,a',h1,h2,(Fr.of_below hb _).next h3 fun _ h=>.inl h,fun q hq=>by
  rcases h4 q hq with h|h
  ·exact .inl h
  ·exact .inr (Nat.le_trans hb.size h)⟩
theorem At.comp {wb:World}{eP eZ:Nat→Nat}{a':bV}(h:At wb eP g s w tg a)(h2:At w tg g s' w' eZ a'):At wb eP g s' w' eZ a':=
 ⟨h2.g,h2.m,h.fr h2.f,fun q hq=>by
  rcases h2.t q hq with h1|h1
  ·exact h.t q h1
  ·exact .inr (Nat.le_trans h.f.size h1)⟩
def MN (w:World)(tg:Nat→Nat)(g:Nat)(code:Int)(s':aP)(e:Ending)(w':World):Prop:=e=.returned (.int .i64 code)∧(code≠0→Below w.heap.size w w')∧(code=0→Moved w tg g s' w')
def rY (k fb:Int):Prop:=(k=1∨k=2∨k=3∨k=4∨k=5∨k=6)→(fb=1∨fb=2)
theorem kU {k d fb fa tb ta c r:Int}{j:Nat}(H:Mem tg a s w)(hs:d8 s D)(hp:gZ s.W k d fb fa tb ta c r j)(hb:nZ k fb tb)(hf:rY k fb):Calls Tryz.prog 63 #[.pointer (some ⟨a.g,0,none⟩),.agg #[.int .i64 k,.int .i64 d,.int .i64 fb,.int .i64 fa,.int .i64 tb,.int .i64 ta,.int .i64 c,.int .i64 r]] w fun e w'=>e=.returned (.int .i64 (bJ s k d fb fa tb ta j))∧Below w.heap.size w w':=by
 rw[←Ia hs hp hb];have hk:k=1∨k=2∨(k=4∨k=5)∨k=6∨(k=3∨k=7∨k=8∨k=9):=by have:=hp.k1;have:=hp.k9;omega
 rcases hk with rfl|rfl|hk|rfl|hk
 ·exact eu H hs hp
 ·exact dw H hs (hf qo) hp
 ·exact dz H hs hk (hb hk) hp
 ·exact fq H hs (hf qo) hp
 ·exact U8 H hs hp hk
def adJ (w:World)(v:Value)(q:Nat)(e:Ending)(w':World):Prop:=e=.returned (.tuple #[])∧bR w' v q∧Fr w w' (fun b=>v.ownBlock=some b)
theorem Pe (v:Value)(q:Nat)(hv:bR w v q)(hq:q≤2000000):Calls Tryz.prog 108 #[v] w (adJ w v q):=by
 obtain⟨xs,hx⟩:=hv;have hl:xs.length=q:=by have:=hx.1;simpa [ints]using this
 have hx':=hx
 rcases hx'.2 with⟨rfl,h0⟩|⟨gb,cap,cur,rfl,hb,hh,h1,h2,h3,h4⟩
 ·subst h0
  exact(Tryz.slices_Sort_int64_none none 0 w).mono fun e w' ⟨he,hw⟩=>⟨he,by rw[hw];exact bR.nil w,by rw[hw];exact Fr.refl _ _⟩
 ·subst hl
  have ht:cur.toList.take xs.length=xs.map (Value.int .i64):=by have:=h4;rw[Nat.mul_one]at this;exact this
  refine(Tryz.slices_Sort_int64 gb 0 cap xs w (holds_of_blockI hh ht) (Array.getElem?_eq_some_iff.1 hh).1 qo).mono fun e w' ⟨he,n,os,hw⟩=>⟨he,?_,?_⟩
  ·subst hw
   exact⟨_,ownsRow_sortedI (List.length_mergeSort xs) (Nat.zero_le _) hh h1 h2 h3⟩
  ·subst hw
   have hg:=grownBy_sortedI (w:=w) (g:=gb) (n:=n) (os:=os) (xs.mergeSort fun x y=>decide (x≤y)).toArray;exact⟨hg.os,hg.tape,hg.output,hg.size,fun b hb hne=>hg.block b hb (fun e=>hne e.symm)⟩
theorem AY (s:aP)(b x:Int)(m:Nat)(f:Nat→Int):bB {s with cat:=f} b x m={bB s b x m with cat:=f}:=by unfold bB;split<;>rfl
theorem W9 (s:aP)(b x:Int)(m:Nat):aU (bB s b x m) b x=m:=by
 unfold aU bB
 split
 ·exact if_pos rfl
 ·exact if_pos rfl
theorem Bt (s:aP)(b x:Int)(m m':Nat):bB (more (bB s b x m)) b x m'=bB (more s) b x m':=by
 unfold bB more
 split
 ·congr 1
  funext q
  by_cases h:q=x.toNat<;>simp[h]
 ·congr 1
  funext q
  by_cases h:q=x.toNat<;>simp[h]
def newAt (s:aP)(d x:Int)(j:Nat)(q:Nat):Int:=if q=j then(if d=1 then x+1 else x)else s.cat q
theorem abK (s:aP)(d fb fa tb ta r:Int)(j:Nat):eM s 1 d fb fa tb ta r j={bB (more s) fb fa 1 with cat:=newAt s d (aO fb fa s.rk) j}:=by
 rw[←AY]
 rfl
theorem abJ (s:aP)(d fb fa tb ta r:Int)(j:Nat):eM s 2 d fb fa tb ta r j={bB (more s) fb fa (aU s fb fa+1)with cat:=newAt s d (aO fb fa s.rk) j}:=by
 rw[←AY]
 rfl
theorem Cj (s:aP)(fb fa tb ta:Int)(f:Nat→Int):bO {s with cat:=f} fb fa tb ta={bO s fb fa tb ta with cat:=f}:=by
 unfold bO;rw[AY s tb ta _ f,AY (bB s tb ta _) fb fa 0 f]
 rfl
theorem abI (s:aP)(d fb fa tb ta r:Int)(j:Nat):eM s 5 d fb fa tb ta r j={bB (more (bO s fb fa tb ta)) fb fa 1 with cat:=newAt s d (aO fb fa s.rk) j}:=by
 show bB (more (bO {s with cat:=newAt s d (aO fb fa s.rk) j} fb fa tb ta)) fb fa 1=_;rw[Cj,←AY]
 rfl
theorem xO (s:aP)(b x:Int)(m:Nat):(bB s b x m).cat=s.cat:=by unfold bB;split<;>rfl
theorem NQ {k d fb fa tb ta:Int}{j:Nat}(h:bJ s k d fb fa tb ta j=0)(hk:k=1∨k=2∨k=5):s.n<300:=by
 unfold bJ at h;rw[if_pos hk]at h;unfold fQ at h
 split at h
 ·rcases Nat.lt_or_ge s.n 300 with h'|h'
  ·exact h'
  ·rw[if_pos h']at h;omega
 ·omega
end
end Go.Proofs.YtimlpmbabbbcaaaGreat
