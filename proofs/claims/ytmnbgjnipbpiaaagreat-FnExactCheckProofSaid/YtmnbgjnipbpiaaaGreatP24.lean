/- Walks and plain lemmas. -/
import Derived.Test.YtmnbgjnipbpiaaaGreatP23
set_option linter.unusedVariables false
set_option linter.unusedSimpArgs false
set_option maxRecDepth 20000
namespace Go.Proofs.YtmnbgjnipbpiaaaGreat
open Go.RowKit
def CG (w:World)(v:Value)(o:List aF):Prop:=∃A c d,v=.slice A o.length c∧nC w A o d∧LJ o d
theorem CG.below {w w':World}{v:Value}{o:List aF}(h:CG w v o)(hb:Below w.heap.size w w'):CG w' v o:=by
 obtain⟨A,c,d,e,h1,h2⟩:=h;exact⟨A,c,d,e,h1.below hb,h2⟩
def p9 (b:aF):Prop:=0≤b.1∧b.1≤12∧G.Word b.1.toNat b.2.1∧b.2.1.length≤40
theorem qR {n:Int}{W:List Int}{o o':List aF}(h:flush n W o=some o')(hn:0≤n∧n≤12)(hw:G.Word n.toNat W)(ho:∀b∈o,p9 b):∀b∈o',p9 b:=by
 unfold flush at h
 split at h
 ·cases h
 ·rename_i hl
  split at h
  ·injection h with h
   rw[←h];exact ho
  ·injection h with h
   rw[←h];intro b hb
   rcases List.mem_append.1 hb with hb|hb
   ·exact ho b hb
   ·rw[List.mem_singleton.1 hb]
    exact⟨hn.1,hn.2,hw,by show W.length≤40;omega⟩
theorem GI {o:List aF}{s:List Int}(ho:∀b∈o,p9 b):∀b∈aR o s,p9 b:=fun b h=>by
 unfold aR at h
 cases hl:o.getLast? with
 |none=>rw[hl]at h;cases h
 |some b0=>
  rw[hl]at h
  rcases List.mem_append.1 h with h|h
  ·exact ho b (by rw[List.dropLast_eq_take]at h;exact List.mem_of_mem_take h)
  ·rw[List.mem_singleton.1 h]
   exact ho b0 (List.mem_of_getLast? hl)
theorem KD {z:Nat→Int}{N:Nat}(hv:(cnt z 0 N).isSome=true){k:Nat}(hk:k≤N){o:List aF}(h:cG z k=some o):∀b∈o,p9 b:=by
 induction k generalizing o with
 |zero=>
  injection h with h;rw[←h];intro b hb;rw[List.mem_singleton.1 hb];exact⟨by simp,by simp,(fun x hx=>by cases hx),by simp⟩
 |succ k ih=>
  simp only[cG]at h
  split at h
  ·exact ih qo h
  ·cases hk1:cG z k with
   |none=>rw[hk1]at h;cases h
   |some o1=>
    rw[hk1]at h
    simp only[Option.bind_some]at h
    cases hf:flush (bC z k) (dC z k) o1 with
    |none=>rw[hf]at h;cases h
    |some o2=>
     rw[hf]at h;injection h with h;rw[←h];exact GI (qR hf (gQ hv qo) (kS hv qo) (ih qo hk1))
theorem oS {z:Nat→Int}{N:Nat}(hv:(cnt z 0 N).isSome=true){o:List aF}(h:cA z N=some o):(∀b∈o,p9 b∧b.2.2.length≤N*6)∧o.length≤60:=by
 unfold cA at h
 cases hk:cG z N with
 |none=>rw[hk]at h;cases h
 |some o1=>
  rw[hk]at h
  simp only[Option.bind_some]at h
  cases hf:flush (bC z N) (dC z N) o1 with
  |none=>rw[hf]at h;cases h
  |some o2=>
   rw[hf,Option.bind_some]at h
   split at h
   ·rename_i hl
    injection h with h;rw[←h];refine⟨fun b hb=>⟨qR hf (gQ hv ql) (kS hv ql) (KD hv ql hk) b hb,?_⟩,hl⟩
    rcases qL hf hb with hb|hb
    ·exact vH hk b hb
    ·rw[hb]
     exact Nat.zero_le _
   ·cases h
theorem cB.OF {z:Nat→Int}{N:Nat}(hv:(cnt z 0 N).isSome=true)(hN:N≤2000){o:List aF}(h:cA z N=some o){B:Nat}{A:Option Addr}{c:Nat}{d:aV}{w:World}(hm:cB B (.slice A o.length c) o d w):CG w (.slice A o.length c) o:=by
 obtain⟨h1,h2⟩:=oS hv h;refine⟨A,c,d,rfl,hm.KT,by omega,fun j b hj=>?_⟩;obtain⟨⟨a1,a2,a3,a4⟩,a5⟩:=h1 b (List.mem_of_getElem? hj);have h3:=hm.ln j b hj;exact⟨a1,by omega,a3,by omega,by omega⟩
end Go.Proofs.YtmnbgjnipbpiaaaGreat
