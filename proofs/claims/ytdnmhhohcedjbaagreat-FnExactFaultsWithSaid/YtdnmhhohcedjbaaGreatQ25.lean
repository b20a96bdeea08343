/- Walks and plain lemmas. -/
import Derived.Test.YtdnmhhohcedjbaaGreatQ24
import Derived.Sort.OwnSortedInts
set_option linter.unusedVariables false
set_option linter.unusedSimpArgs false
set_option maxRecDepth 20000
namespace Go.Proofs.YtdnmhhohcedjbaaGreat
open Go.RowKit
section
variable {tg:Nat→Nat}{a:bC}{s s':aI}{D:Nat}{w w0 w':World}{g:Nat}
theorem Moved.of_below (hb:Below w.heap.size w w0)(h:Moved w0 tg g s w'):Moved w tg g s w':=by
 obtain⟨gU,a',h1,h2,h3,h4⟩:=h;exact⟨gU,a',h1,h2,(Fr.of_below hb _).next h3 fun _ h=>.inl h,fun q hq=>by
  rcases h4 q hq with h|h
  ·exact .inl h
  ·exact .inr (Nat.le_trans hb.size h)⟩
theorem At.comp {wb:World}{dY gU:Nat→Nat}{a':bC}(h:At wb dY g s w tg a)(h2:At w tg g s' w' gU a'):At wb dY g s' w' gU a':=
 ⟨h2.g,h2.m,h.fr h2.f,fun q hq=>by
  rcases h2.t q hq with h1|h1
  ·exact h.t q h1
  ·exact .inr (Nat.le_trans h.f.size h1)⟩
def LC (w:World)(tg:Nat→Nat)(g:Nat)(code:Int)(s':aI)(e:Ending)(w':World):Prop:=e=.returned (.int .i64 code)∧(code≠0→Below w.heap.size w w')∧(code=0→Moved w tg g s' w')
def rI (k fb:Int):Prop:=(k=1∨k=2∨k=3∨k=4∨k=5∨k=6)→(fb=1∨fb=2)
theorem jI {k d fb fa tb ta c r:Int}{j:Nat}(H:Mem tg a s w)(hs:bW s D)(hp:fP s.W k d fb fa tb ta c r j)(hb:nA k fb tb)(hf:rI k fb):Calls Tryz.prog 98 #[.pointer (some ⟨a.g,0,none⟩),.agg #[.int .i64 k,.int .i64 d,.int .i64 fb,.int .i64 fa,.int .i64 tb,.int .i64 ta,.int .i64 c,.int .i64 r]] w fun e w'=>e=.returned (.int .i64 (aX s k d fb fa tb ta j))∧Below w.heap.size w w':=by
 rw[←Je hs hp hb];have hk:k=1∨k=2∨(k=4∨k=5)∨k=6∨(k=3∨k=7∨k=8∨k=9):=by have:=hp.k1;have:=hp.k9;omega
 rcases hk with rfl|rfl|hk|rfl|hk
 ·exact jd H hs hp
 ·exact iy H hs (hf qo) hp
 ·exact jc H hs hk (hb hk) hp
 ·exact je H hs (hf qo) hp
 ·exact U7 H hs hp hk
def afA (w:World)(v:Value)(q:Nat)(e:Ending)(w':World):Prop:=e=.returned (.tuple #[])∧bE w' v q∧Fr w w' (fun b=>v.ownBlock=some b)
theorem Qu (v:Value)(q:Nat)(hv:bE w v q)(hq:q≤2000000):Calls Tryz.prog 130 #[v] w (afA w v q):=by
 obtain⟨xs,hx⟩:=hv;have hl:xs.length=q:=by have:=hx.1;simpa [ints]using this
 have hx':=hx
 rcases hx'.2 with⟨rfl,h0⟩|⟨gb,cap,cur,rfl,hb,hh,h1,h2,h3,h4⟩
 ·subst h0
  exact(Tryz.slices_Sort_int64_none none 0 w).mono fun e w' ⟨he,hw⟩=>⟨he,by rw[hw];exact bE.nil w,by rw[hw];exact Fr.refl _ _⟩
 ·subst hl
  have ht:cur.toList.take xs.length=xs.map (Value.int .i64):=by have:=h4;rw[Nat.mul_one]at this;exact this
  refine(Tryz.slices_Sort_int64 gb 0 cap xs w (holds_of_blockI hh ht) (Array.getElem?_eq_some_iff.1 hh).1 qo).mono fun e w' ⟨he,n,os,hw⟩=>⟨he,?_,?_⟩
  ·subst hw
   exact⟨_,ownsRow_sortedI (List.length_mergeSort xs) (Nat.zero_le _) hh h1 h2 h3⟩
  ·subst hw
   have hg:=grownBy_sortedI (w:=w) (g:=gb) (n:=n) (os:=os) (xs.mergeSort fun x y=>decide (x≤y)).toArray;exact⟨hg.os,hg.tape,hg.output,hg.size,fun b hb hne=>hg.block b hb (fun e=>hne e.symm)⟩
theorem zF (s:aI)(b x:Int)(m:Nat)(f:Nat→Int):gA {s with cat:=f} b x m={gA s b x m with cat:=f}:=by unfold gA;split<;>rfl
theorem WF (s:aI)(b x:Int)(m:Nat):aM (gA s b x m) b x=m:=by
 unfold aM gA
 split
 ·exact if_pos rfl
 ·exact if_pos rfl
theorem Bu (s:aI)(b x:Int)(m m':Nat):gA (more (gA s b x m)) b x m'=gA (more s) b x m':=by
 unfold gA more
 split
 ·congr 1
  funext q
  by_cases h:q=x.toNat<;>simp[h]
 ·congr 1
  funext q
  by_cases h:q=x.toNat<;>simp[h]
def newAt (s:aI)(d x:Int)(j:Nat)(q:Nat):Int:=if q=j then(if d=1 then x+1 else x)else s.cat q
theorem adB (s:aI)(d fb fa tb ta r:Int)(j:Nat):cV s 1 d fb fa tb ta r j={gA (more s) fb fa 1 with cat:=newAt s d (aL fb fa s.rk) j}:=by
 rw[←zF]
 rfl
theorem adA (s:aI)(d fb fa tb ta r:Int)(j:Nat):cV s 2 d fb fa tb ta r j={gA (more s) fb fa (aM s fb fa+1)with cat:=newAt s d (aL fb fa s.rk) j}:=by
 rw[←zF]
 rfl
theorem Cn (s:aI)(fb fa tb ta:Int)(f:Nat→Int):aY {s with cat:=f} fb fa tb ta={aY s fb fa tb ta with cat:=f}:=by
 unfold aY;rw[zF s tb ta _ f,zF (gA s tb ta _) fb fa 0 f]
 rfl
theorem adz (s:aI)(d fb fa tb ta r:Int)(j:Nat):cV s 5 d fb fa tb ta r j={gA (more (aY s fb fa tb ta)) fb fa 1 with cat:=newAt s d (aL fb fa s.rk) j}:=by
 show gA (more (aY {s with cat:=newAt s d (aL fb fa s.rk) j} fb fa tb ta)) fb fa 1=_;rw[Cn,←zF]
 rfl
theorem wF (s:aI)(b x:Int)(m:Nat):(gA s b x m).cat=s.cat:=by unfold gA;split<;>rfl
theorem MP {k d fb fa tb ta:Int}{j:Nat}(h:aX s k d fb fa tb ta j=0)(hk:k=1∨k=2∨k=5):s.n<300:=by
 unfold aX at h;rw[if_pos hk]at h;unfold eH at h
 split at h
 ·rcases Nat.lt_or_ge s.n 300 with h'|h'
  ·exact h'
  ·rw[if_pos h']at h;omega
 ·omega
end
end Go.Proofs.YtdnmhhohcedjbaaGreat
