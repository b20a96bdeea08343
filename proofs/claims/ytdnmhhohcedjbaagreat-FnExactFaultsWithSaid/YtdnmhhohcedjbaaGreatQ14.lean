/- Walks and plain lemmas. -/
import Derived.Test.YtdnmhhohcedjbaaGreatQ13
import Derived.Test.YtdnmhhohcedjbaaGreatQ12
set_option linter.unusedVariables false
set_option linter.unusedSimpArgs false
namespace Go.Proofs.YtdnmhhohcedjbaaGreat
open Go.RowKit
theorem ab6 {W:Nat}{k d fb fa tb ta c r:Int}(_hW:1≤W)(h:(aW k d fb fa tb ta c r&&(decide (fa<(W:Int))&&decide (ta<(W:Int))))=true):fP W k d fb fa tb ta c r (c-1).toNat:=by
 unfold aW kA kG aK at h
 split at h
 ·simp only[Bool.and_eq_true,decide_eq_true_eq,beq_iff_eq]at h
  refine⟨?_,?_,?_,?_,?_,?_,?_,?_,?_,?_⟩<;>omega
 split at h
 ·simp only[Bool.and_eq_true,decide_eq_true_eq,beq_iff_eq]at h
  refine⟨?_,?_,?_,?_,?_,?_,?_,?_,?_,?_⟩<;>omega
 split at h
 ·simp only[Bool.and_eq_true,decide_eq_true_eq,beq_iff_eq]at h
  refine⟨?_,?_,?_,?_,?_,?_,?_,?_,?_,?_⟩<;>omega
 split at h
 ·simp only[Bool.and_eq_true,decide_eq_true_eq,beq_iff_eq]at h
  refine⟨?_,?_,?_,?_,?_,?_,?_,?_,?_,?_⟩<;>omega
 split at h
 ·simp only[Bool.and_eq_true,decide_eq_true_eq,beq_iff_eq]at h
  refine⟨?_,?_,?_,?_,?_,?_,?_,?_,?_,?_⟩<;>omega
 split at h
 ·simp only[Bool.and_eq_true,decide_eq_true_eq,beq_iff_eq]at h
  refine⟨?_,?_,?_,?_,?_,?_,?_,?_,?_,?_⟩<;>omega
 split at h
 ·simp only[Bool.and_eq_true,decide_eq_true_eq,beq_iff_eq]at h
  refine⟨?_,?_,?_,?_,?_,?_,?_,?_,?_,?_⟩<;>omega
 ·simp at h
def kC (s:aI)(z:Nat→Int)(i:Nat):Int:=aX s (z (i*8)) (z (i*8+1)) (z (i*8+2)) (z (i*8+3)) (z (i*8+4)) (z (i*8+5)) (z (i*8+6)-1).toNat
def kS (s:aI)(z:Nat→Int)(i:Nat):aI:=cV s (z (i*8)) (z (i*8+1)) (z (i*8+2)) (z (i*8+3)) (z (i*8+4)) (z (i*8+5)) (z (i*8+7)) (z (i*8+6)-1).toNat
def jC (W:Nat):aI:=⟨W,0,fun _=>0,fun _=>0,fun _=>false,fun _=>0,0,0⟩
def bB (W:Nat)(z:Nat→Int):Nat→aI
 |0=>jC W
 |i+1=>kS (bB W z i) z i
theorem aaQ {W:Nat}(h1:1≤W)(h2:W≤24):bW (jC W) 0:=
 ⟨h1,h2,by show(-3:Int)≤0;omega,by show(0:Int)≤3;omega,fun _ _=>Nat.zero_le _,fun _ _=>Nat.zero_le _,fun _ _=>by show(-3:Int)≤0∧(0:Int)≤30;omega,Nat.zero_le _,Nat.le_refl _⟩
theorem pW {s:aI}{D:Nat}(hs:bW s D)(b x:Int){m:Nat}(hm:m≤4):bW (gA s b x m) D:=by
 unfold gA
 split
 ·exact⟨hs.w1,hs.w2,hs.r1,hs.r2,fun i hi=>by show(if i=x.toNat then m else s.f i)≤4;split;exact hm;exact hs.fb i hi,hs.kb,hs.ca,hs.nb,hs.db⟩
 ·exact⟨hs.w1,hs.w2,hs.r1,hs.r2,hs.fb,fun i hi=>by show(if i=x.toNat then m else s.k i)≤4;split;exact hm;exact hs.kb i hi,hs.ca,hs.nb,hs.db⟩
theorem QM {s:aI}{D:Nat}(hs:bW s D)(hn:s.n<300):bW (more s) D:=⟨hs.w1,hs.w2,hs.r1,hs.r2,hs.fb,hs.kb,hs.ca,hn,hs.db⟩
theorem bW.le {s:aI}{D D':Nat}(hs:bW s D)(h:D≤D'):bW s D':=⟨hs.w1,hs.w2,hs.r1,hs.r2,hs.fb,hs.kb,hs.ca,hs.nb,Nat.le_trans hs.db h⟩
theorem Rk (s:aI)(d x:Int)(j:Nat)(b y:Int):aM (bM s d x j) b y=aM s b y:=rfl
theorem Nk (s:aI)(k d fb fa tb ta r:Int)(j:Nat):(cV s k d fb fa tb ta r j).W=s.W:=by
 unfold cV mZ
 split
 ·split
  ·rw[iB];rfl
  ·split
   ·rw[iB];rfl
   ·rw[iB];exact tX _ _ _ _ _
 split
 ·rfl
 split
 ·exact tX _ _ _ _ _
 split
 ·rw[iB]
 split<;>rfl
theorem yg {s:aI}{D:Nat}(hs:bW s D){k d fb fa tb ta c r:Int}{j:Nat}(hp:fP s.W k d fb fa tb ta c r j)(h:aX s k d fb fa tb ta j=0):bW (cV s k d fb fa tb ta r j) (D+4):=by
 have hw2:=hs.w2;have hf1:=hp.f1;have hxb:=iC (b:=fb) hp.f0 (show fa≤23 by omega) hs.r1 hs.r2;have hcs:=P8 (d:=d) (j:=j) hs hxb.1 hxb.2;have h4f:=bT (b:=fb) hs hp.f0 hp.f1;have h4t:=bT (b:=tb) hs hp.t0 hp.t1;have Yk:∀{s':aI},bW s' D→eG s' fb fa tb ta=0→bW (aY s' fb fa tb ta) D:=fun{s'} hs' hm=>by
  unfold eG at hm;unfold aY;refine pW (pW hs' _ _ ?_) _ _ (Nat.zero_le _)
  split at hm
  ·split at hm
   ·omega
   ·split at hm<;>omega
  ·omega
 unfold aX at h;unfold cV
 by_cases hk:k=1∨k=2∨k=5
 ·rw[if_pos hk]at h ⊢
  unfold eH at h;unfold mZ;have hcb:eP s d (aL fb fa s.rk) j=true:=Decidable.byContradiction fun hc=>by
   rw[if_neg hc]at h;omega
  rw[if_pos hcb]at h;have hn:s.n<300:=by
   rcases Nat.lt_or_ge s.n 300 with h'|h'
   ·exact h'
   ·rw[if_pos h']at h
    omega
  rw[if_neg qo]at h
  by_cases h1:k=1
  ·rw[if_pos h1]
   exact(pW (QM hcs hn) _ _ qo).le qo
  ·rw[if_neg h1]at h ⊢
   by_cases h2:k=2
   ·rw[if_pos h2]at h ⊢
    refine(pW (QM hcs hn) _ _ ?_).le qo
    split at h<;>omega
   ·rw[if_neg h2]at h ⊢
    have hm:=Yk hcs h;refine(pW (QM hm ?_) _ _ qo).le qo;rw[LY];exact hn
 ·rw[if_neg hk]at h ⊢
  split
  ·exact hcs.le qo
  split
  ·rename_i h3 h4
   rw[if_neg h3,if_pos h4]at h;exact(Yk hs h).le qo
  split
  ·exact pW (s:={s with d:=s.d+aM s fb fa}) (D:=D+4) ⟨hs.w1,hs.w2,hs.r1,hs.r2,hs.fb,hs.kb,hs.ca,hs.nb,by show s.d+aM s fb fa≤D+4;have:=hs.db;omega⟩ _ _ (Nat.zero_le _)
  split
  ·exact⟨hs.w1,hs.w2,hp.r0,hp.r1,hs.fb,hs.kb,hs.ca,hs.nb,by show s.d≤D+4;have:=hs.db;omega⟩
  ·refine⟨hs.w1,hs.w2,hs.r1,hs.r2,hs.fb,hs.kb,fun q hq=>?_,hs.nb,by show s.d≤D+4;have:=hs.db;omega⟩
   show-3≤(if q=j then(if k=8 then(if d= -1 then(s.W:Int)+3 else-3)else 0)else s.cat q)∧(if q=j then(if k=8 then(if d= -1 then(s.W:Int)+3 else-3)else 0)else s.cat q)≤30;have:=hs.ca q hq
   split
   ·split
    ·split<;>omega
    ·omega
   ·exact this
theorem BU (W:Nat)(z:Nat→Int)(i:Nat):(bB W z i).W=W:=by
 induction i with
 |zero=>rfl
 |succ i ih=>exact(Nk _ _ _ _ _ _ _ _ _).trans ih
theorem gC {W:Nat}{z:Nat→Int}{i:Nat}(hW:1≤W)(h:dR W z i=true):fP W (z (i*8)) (z (i*8+1)) (z (i*8+2)) (z (i*8+3)) (z (i*8+4)) (z (i*8+5)) (z (i*8+6)) (z (i*8+7)) (z (i*8+6)-1).toNat:=ab6 hW h
theorem zI {W:Nat}{z:Nat→Int}(h1:1≤W)(h2:W≤24)(n:Nat)(hp:∀i,i<n→dR W z i=true)(hc:∀i,i<n→kC (bB W z i) z i=0):bW (bB W z n) (4*n):=by
 induction n with
 |zero=>exact aaQ h1 h2
 |succ n ih=>
  have h:=ih (fun i hi=>hp i qo) (fun i hi=>hc i qo);have ho:=gC h1 (hp n qo);rw[show 4*(n+1)=4*n+4 by omega];exact yg h (by rw[BU];exact ho) (hc n qo)
def mV (W:Nat)(z:Nat→Int)(k:Nat):Prop:=∀i,i<k→kC (bB W z i) z i=0
def ND (W:Nat)(z:Nat→Int):Nat→Nat→Option (Nat×Int)
 |_,0=>none
 |i,m+1=>if kC (bB W z i) z i=0 then ND W z (i+1) m else some (i,kC (bB W z i) z i)
def xJ (W:Nat)(z:Nat→Int)(n:Nat):Int:=((ND W z 0 n).map (·.2)).getD 0
theorem RS {W:Nat}{z:Nat→Int}(i m:Nat)(h:mV W z i)(him:i≤m):ND W z 0 m=ND W z i (m-i):=by
 induction i with
 |zero=>rfl
 |succ i ih=>
  rw[ih (fun q hq=>h q qo) qo,show m-i=(m-(i+1))+1 by omega];show(if kC (bB W z i) z i=0 then _ else _)=_;rw[if_pos (h i qo)]
theorem QE {W:Nat}{z:Nat→Int}{n:Nat}(h:mV W z n):xJ W z n=0:=by
 unfold xJ;rw[RS n n h ql,Nat.sub_self]
 rfl
theorem GZ {W:Nat}{z:Nat→Int}{i n:Nat}(h:mV W z i)(hi:i<n)(hc:kC (bB W z i) z i≠0):xJ W z n=kC (bB W z i) z i:=by
 unfold xJ;rw[RS i n h qo,show n-i=(n-(i+1))+1 by omega];show((if kC (bB W z i) z i=0 then _ else some (i,kC (bB W z i) z i)).map (·.2)).getD 0=_;rw[if_neg hc]
 rfl
theorem I0 {W:Nat}{z:Nat→Int}{i:Nat}(h:mV W z i)(hc:kC (bB W z i) z i=0):mV W z (i+1):=fun q hq=>by
 by_cases hqi:q=i
 ·subst hqi;exact hc
 ·exact h q qo
end Go.Proofs.YtdnmhhohcedjbaaGreat
