/- Walks and plain lemmas. -/
import Derived.Test.YtdnmhhohcedjbaaGreatQ31
import Derived.Test.YtdnmhhohcedjbaaGreatQ35
import Derived.Test.YtdnmhhohcedjbaaGreatQ34
set_option linter.unusedVariables false
set_option linter.unusedSimpArgs false
set_option maxHeartbeats 16000000
set_option maxRecDepth 20000
namespace Go.Proofs.YtdnmhhohcedjbaaGreat
open Go.RowKit
def fm (s:aI)(st:Nat):Nat→Nat
 |0=>st
 |t+1=>max (fm s st t) (s.f t)
def fs (s:aI):Nat→Nat
 |0=>0
 |t+1=>fs s t+s.f t
def ks (s:aI):Nat→Nat
 |0=>0
 |t+1=>ks s t+s.k t
end Go.Proofs.YtdnmhhohcedjbaaGreat
namespace Go.Proofs.YtdnmhhohcedjbaaGreat
open Go.RowKit
end Go.Proofs.YtdnmhhohcedjbaaGreat
namespace Go.Proofs.YtdnmhhohcedjbaaGreat
open Go.RowKit
section
variable (W:Int)(A:OA)(n q:Nat)(z:Nat→Int)(w:World)
theorem wR {W:Int}{z:Nat→Int}{n:Nat}(h:codeOf W z n=0):∃W':Nat,W=W'∧1≤W'∧W'≤24∧n≤1500∧(∀i,i<n→dR W' z i=true)∧mV W' z n:=by
 cases hpb:gZ W z n
 ·rw[IR hpb]at h
  omega
 ·obtain⟨W',rfl,h1,h2,h3,h4,h5⟩:=NM hpb
  refine⟨W',rfl,h1,h2,h3,h4,fun i=>?_⟩;rw[h5]at h
  induction i using Nat.strongRecOn with
  |_ i ih=>
   intro hi;refine Decidable.byContradiction fun hk=>?_;exact hk ((GZ (fun q hq=>ih q hq qo) hi hk).symm.trans h)
end
end Go.Proofs.YtdnmhhohcedjbaaGreat
namespace Go.Proofs.YtdnmhhohcedjbaaGreat
open Go.RowKit
def kQ (n:Nat)(z:Nat→Int)(f x:Int):Bool:=aK x 0 ((n:Int)-1)&&fN f (z (x.toNat*8))
def OS (W:Int)(z:Nat→Int)(n:Nat)(f x:Int):List Int:=
 if codeOf W z n=0∧kQ n z f x=true∧(eU W.toNat z f x.toNat n).2.length≤12000 then(eU W.toNat z f x.toNat n).2 else []
def T0 (W:Int)(z:Nat→Int)(n:Nat)(f x:Int):Int:=
 if codeOf W z n=0 then(if kQ n z f x=true then(if(eU W.toNat z f x.toNat n).2.length≤12000 then 0 else 5)else 3)else codeOf W z n
def KQ (W:Int)(z:Nat→Int)(n:Nat)(f x:Int):Nat:=(OS W z n f x).length/8
abbrev oU (w:World)(W:Int)(z:Nat→Int)(n:Nat)(f x:Int):Ending→World→Prop:=q7 w (KQ W z n f x) (KQ W z n f x*8) (fun j=>.int .i64 ((OS W z n f x).getD j 0)) (T0 W z n f x)
section
variable {w w':World}{W:Int}{z:Nat→Int}{n:Nat}{f x:Int}{e:Ending}
theorem oU.nil (hL:OS W z n f x=[]){cd:Int}(hc:T0 W z n f x=cd)(he:e=.returned (.tuple #[.slice none 0 0,.int .i64 cd]))(hb:Below w.heap.size w w'):oU w W z n f x e w':=by
 have hn:KQ W z n f x=0:=by unfold KQ;rw[hL];rfl
 unfold oU;rw[hn,hc];exact⟨none,0,he,New.none_ hb _⟩
theorem oU.code {cd:Int}(hc:codeOf W z n=cd)(h0:cd≠0)(he:e=.returned (.tuple #[.slice none 0 0,.int .i64 cd]))(hb:Below w.heap.size w w'):oU w W z n f x e w':=
 oU.nil (if_neg fun h=>h0 (hc▸h.1)) ((if_neg (by rw[hc];exact h0)).trans hc) he hb
theorem oU.no (hc:codeOf W z n=0)(h:kQ n z f x=false)(he:e=.returned (.tuple #[.slice none 0 0,.int .i64 3]))(hb:Below w.heap.size w w'):oU w W z n f x e w':=
 oU.nil (if_neg fun h1=>by rw[h]at h1;exact absurd h1.2.1 (by decide)) ((if_pos hc).trans (if_neg (by rw[h];decide))) he hb
theorem oU.full {L:List Int}(hc:codeOf W z n=0)(h:kQ n z f x=true)(hL:L=(eU W.toNat z f x.toNat n).2){m:Nat}(hl:L.length=8*m)(hm:1500<m)(he:e=.returned (.tuple #[.slice none 0 0,.int .i64 5]))(hb:Below w.heap.size w w'):oU w W z n f x e w':=by
 subst hL;exact oU.nil (if_neg fun h1=>by have:=h1.2.2;omega) ((if_pos hc).trans ((if_pos h).trans (if_neg qo))) he hb
theorem oU.ok {L:List Int}{m c:Nat}{A:Option Addr}(hc:codeOf W z n=0)(h:kQ n z f x=true)(hL:L=(eU W.toNat z f x.toNat n).2)(hl:L.length=8*m)(hm:m≤1500)(he:e=.returned (.tuple #[.slice A m c,.int .i64 0]))(ho:w'.ownsRow w.heap.size 67 8 (.slice A m c) m (ints L))(hb:Below w.heap.size w w'):oU w W z n f x e w':=by
 have hL':OS W z n f x=L:=by unfold OS;rw[if_pos ⟨hc,h,by rw[←hL,hl];omega⟩,hL]
 have hC':T0 W z n f x=0:=by unfold T0;rw[if_pos hc,if_pos h,if_pos (by rw[←hL,hl];omega)]
 have hn:KQ W z n f x=m:=by unfold KQ;rw[hL'];omega
 unfold oU;rw[hn,hC',hL'];obtain⟨A',c',e',hp⟩:=New.kM hb ho;injection e' with e1 e2 e3;subst e1 e3;exact⟨A,c,he,hp.congr fun j hj=>by simp[ints,List.getD,List.getElem?_eq_getElem (show j<L.length by omega)]⟩
end
section
variable (W:Int)(A:OA)(n q:Nat)(z:Nat→Int)(f x:Int)(w:World)
end
def Oe (w:World)(v:Value)(o:List aV):Prop:=∃A c d,v=.slice A o.length c∧G7 w A o d∧Oi o d
theorem Oe.below {w w':World}{v:Value}{o:List aV}(h:Oe w v o)(hb:Below w.heap.size w w'):Oe w' v o:=by
 obtain⟨A,c,d,e,h1,h2⟩:=h;exact⟨A,c,d,e,h1.below hb,h2⟩
def JK (b:aV):Prop:=0≤b.1∧b.1≤12∧G.Word b.1.toNat b.2.1∧b.2.1.length≤40
theorem TE {n:Int}{W:List Int}{o o':List aV}(h:flush n W o=some o')(hn:0≤n∧n≤12)(hw:G.Word n.toNat W)(ho:∀b∈o,JK b):∀b∈o',JK b:=by
 unfold flush at h
 split at h
 ·cases h
 ·rename_i hl
  split at h
  ·injection h with h
   rw[←h];exact ho
  ·injection h with h
   rw[←h];intro b hb
   rcases List.mem_append.1 hb with hb|hb
   ·exact ho b hb
   ·rw[List.mem_singleton.1 hb]
    exact⟨hn.1,hn.2,hw,by show W.length≤40;omega⟩
theorem abl {o:List aV}{s:List Int}(ho:∀b∈o,JK b):∀b∈dV o s,JK b:=fun b h=>by
 unfold dV at h
 cases hl:o.getLast? with
 |none=>rw[hl]at h;cases h
 |some b0=>
  rw[hl]at h
  rcases List.mem_append.1 h with h|h
  ·exact ho b (by rw[List.dropLast_eq_take]at h;exact List.mem_of_mem_take h)
  ·rw[List.mem_singleton.1 h]
   exact ho b0 (List.mem_of_getLast? hl)
theorem afz {z:Nat→Int}{N:Nat}(hv:(cnt z 0 N).isSome=true){k:Nat}(hk:k≤N){o:List aV}(h:j8 z k=some o):∀b∈o,JK b:=by
 induction k generalizing o with
 |zero=>
  injection h with h;rw[←h];intro b hb;rw[List.mem_singleton.1 hb];exact⟨by simp,by simp,(fun x hx=>by cases hx),by simp⟩
 |succ k ih=>
  simp only[j8]at h
  split at h
  ·exact ih qo h
  ·cases hk1:j8 z k with
   |none=>rw[hk1]at h;cases h
   |some o1=>
    rw[hk1]at h
    simp only[Option.bind_some]at h
    cases hf:flush (fZ z k) (kZ z k) o1 with
    |none=>rw[hf]at h;cases h
    |some o2=>
     rw[hf]at h;injection h with h;rw[←h];exact abl (TE hf (vW hv qo) (ED hv qo) (ih qo hk1))
theorem Zc {z:Nat→Int}{N:Nat}(hv:(cnt z 0 N).isSome=true){o:List aV}(h:iI z N=some o):(∀b∈o,JK b∧b.2.2.length≤N*6)∧o.length≤60:=by
 unfold iI at h
 cases hk:j8 z N with
 |none=>rw[hk]at h;cases h
 |some o1=>
  rw[hk]at h
  simp only[Option.bind_some]at h
  cases hf:flush (fZ z N) (kZ z N) o1 with
  |none=>rw[hf]at h;cases h
  |some o2=>
   rw[hf,Option.bind_some]at h
   split at h
   ·rename_i hl
    injection h with h;rw[←h];refine⟨fun b hb=>⟨TE hf (vW hv ql) (ED hv ql) (afz hv ql hk) b hb,?_⟩,hl⟩
    rcases T3 hf hb with hb|hb
    ·exact Y8 hk b hb
    ·rw[hb]
     exact Nat.zero_le _
   ·cases h
theorem iZ.rdK {z:Nat→Int}{N:Nat}(hv:(cnt z 0 N).isSome=true)(hN:N≤2000){o:List aV}(h:iI z N=some o){B:Nat}{A:Option Addr}{c:Nat}{d:eK}{w:World}(hm:iZ B (.slice A o.length c) o d w):Oe w (.slice A o.length c) o:=by
 obtain⟨h1,h2⟩:=Zc hv h;refine⟨A,c,d,rfl,hm.rdB,by omega,fun j b hj=>?_⟩;obtain⟨⟨a1,a2,a3,a4⟩,a5⟩:=h1 b (List.mem_of_getElem? hj);have h3:=hm.ln j b hj;exact⟨a1,by omega,a3,by omega,by omega⟩
theorem D4 (A B:OA)(c c' m m':Nat)(L M:List Int)(w:World)(hL:L.length=m*6)(hM:M.length=m'*6)(ha:Rd w A (m*6) (fun j=>.int .i64 (L.getD j 0)))(hb:Rd w B (m'*6) (fun j=>.int .i64 (M.getD j 0)))(hm:m≤1000000)(hm':m'≤1000000):
 Calls Tryz.prog 70 #[.slice A m c,.slice B m' c'] w fun e w'=>e=.returned (.bool (decide (L=M)))∧∃q,w'=w.drewN q:=by
 have HA:=qh ha;have HB:=qh hb;have lA:=qh hL;have CJ:=qh hM;clear ha hb hL hM
 by_cases hl:m=m'
 case neg=>
  have HD:=qh (show decide (L=M)=false from decide_eq_false fun e=>hl (by have h1:=lA.o;have h2:=CJ.o;rw[e]at h1;omega));have hlb:((m:Int)==(m':Int))=false:=by rw[beq_eq_false_iff_ne];omega
  have hlc:¬(m:Int)=(m':Int):=qo
  go_enter Tryz.func70,Tryz.ntmps70
  go_wp2
  go_ret
  exact⟨by rw[HD.o];rfl,0,rfl⟩
 subst hl
 go_enter Tryz.func70,Tryz.ntmps70
 go_wp2_with fail
 go_loopw [13] (fun x wr=>∃k q:Nat,k≤m∧x=.int .i64 k∧wr=w.drewN q∧Hq (L.take (k*6)=M.take (k*6))) (fun x _=>m-(intOf x).toNat)
 case atStart=>exact⟨0,0,Nat.zero_le _,rfl,rfl,qh qj⟩
 case round=>
  obtain⟨k,q,hk,rfl,rfl,HX⟩:=hrel
  by_cases hlt:k<m
  ·obtain⟨ga,o,rfl,hg,hr⟩:=HA.o qo
   obtain⟨gb,o',rfl,hg',hr'⟩:=HB.o qo;have r0:=hr (k*6) qo;have r1:=hr (k*6+1) qo;have r2:=hr (k*6+2) qo;have r3:=hr (k*6+3) qo;have r4:=hr (k*6+4) qo;have r5:=hr (k*6+5) qo;have t0:=hr' (k*6) qo;have t1:=hr' (k*6+1) qo;have t2:=hr' (k*6+2) qo;have t3:=hr' (k*6+3) qo;have t4:=hr' (k*6+4) qo;have t5:=hr' (k*6+5) qo;have IY:=qh (zD (L:=L) (k:=k) (by have:=lA.o;omega));have sX:=qh (zD (L:=M) (k:=k) (by have:=CJ.o;omega));unfold six at IY sX;obtain⟨x0,hx0⟩:=qx (L.getD (k*6) 0);obtain⟨x1,hx1⟩:=qx (L.getD (k*6+1) 0);obtain⟨x2,hx2⟩:=qx (L.getD (k*6+2) 0);obtain⟨x3,hx3⟩:=qx (L.getD (k*6+3) 0);obtain⟨x4,hx4⟩:=qx (L.getD (k*6+4) 0);obtain⟨x5,hx5⟩:=qx (L.getD (k*6+5) 0);obtain⟨y0,hy0⟩:=qx (M.getD (k*6) 0);obtain⟨y1,hy1⟩:=qx (M.getD (k*6+1) 0);obtain⟨y2,hy2⟩:=qx (M.getD (k*6+2) 0);obtain⟨y3,hy3⟩:=qx (M.getD (k*6+3) 0);obtain⟨y4,hy4⟩:=qx (M.getD (k*6+4) 0);obtain⟨y5,KM⟩:=qx (M.getD (k*6+5) 0)
   simp only[←hx0]at r0
   simp only[←hx1,←Nat.add_assoc]at r1
   simp only[←hx2,←Nat.add_assoc]at r2
   simp only[←hx3,←Nat.add_assoc]at r3
   simp only[←hx4,←Nat.add_assoc]at r4
   simp only[←hx5,←Nat.add_assoc]at r5
   simp only[←hy0]at t0
   simp only[←hy1,←Nat.add_assoc]at t1
   simp only[←hy2,←Nat.add_assoc]at t2
   simp only[←hy3,←Nat.add_assoc]at t3
   simp only[←hy4,←Nat.add_assoc]at t4
   simp only[←KM,←Nat.add_assoc]at t5
   rw[←hx0,←hx1,←hx2,←hx3,←hx4,←hx5]at IY;rw[←hy0,←hy1,←hy2,←hy3,←hy4,←KM]at sX;clear hx0 hx1 hx2 hx3 hx4 hx5 hy0 hy1 hy2 hy3 hy4 KM hr hr';have b1:(0:Int)≤(k:Int):=qo;have b2:(k:Int)<(m:Int):=qo
   by_cases he:[x0,x1,x2,x3,x4,x5]=[y0,y1,y2,y3,y4,y5]
   ·injection he with h0 he
    injection he with h1 he;injection he with h2 he;injection he with h3 he;injection he with h4 he;injection he with h5 he;subst h0 h1 h2 h3 h4 h5;clear he
    go_wp2_with fail
    go_quiet (fail)
    go_wp2_with fail
    go_roundw
    case rel=>exact⟨k+1,_,by omega,qg,rfl,qh (by rw[IY.o,sX.o,HX.o])⟩
    case measure=>exact qs
   ·have HD:=qh (show decide (L=M)=false from decide_eq_false fun e=>he (by
     have h1:=IY.o;have h2:=sX.o;rw[e]at h1;rw[h2]at h1;exact(List.append_inj_right' h1 rfl).symm))
    have mE:=fun W=>Ni x0 x1 x2 x3 x4 x5 y0 y1 y2 y3 y4 y5 W;rw[decide_eq_false he]at mE;clear he
    go_wp2_with fail
    go_quiet (fail)
    go_wp2_with fail
    go_ret
    exact⟨by rw[HD.o];rfl,_,World.drewN_drewN _ _ _⟩
  ·obtain rfl:m=k:=qo
   have HD:=qh (show decide (L=M)=true from decide_eq_true (by
    have h:=HX.o;rwa[List.take_of_length_le (by have:=lA.o;omega),List.take_of_length_le (by have:=CJ.o;omega)]at h))
   go_wp2
   go_ret
   exact⟨by rw[HD.o];rfl,q,rfl⟩
theorem TD {n:Nat}{V:List Int}(hn:n≤12)(hv:G.Word n V)(hl:V.length≤40):DY n V.length (fun j=>V.getD j 0)=true:=by
 have h:∀k,k≤V.length→jS n (fun j=>V.getD j 0) k=true:=by
  intro k
  induction k with
  |zero=>intro _;rfl
  |succ k ih=>
   intro hk;have h1:=hv (V.getD k 0) (by simp[List.getD,show k<V.length by omega])
   simp only[jS,ih qo,Bool.true_and,pX,aK]
   simp only[Bool.and_eq_true,decide_eq_true_eq]
   omega
 unfold DY aK
 simp only[Bool.and_eq_true,decide_eq_true_eq]
 exact⟨⟨by omega,hl⟩,h _ ql⟩
theorem OY (n n':Nat)(V V':List Int)(A A':OA)(c c':Nat)(w:World)(ha:cX w A V)(hb:cX w A' V')(hn:n≤12)(hn':n'≤12)(hv:G.Word n V)(hv':G.Word n' V')(hl:V.length≤40)(hl':V'.length≤40):
 Calls Tryz.prog 110 #[.agg #[.int .i64 n,.slice A V.length c],.agg #[.int .i64 n',.slice A' V'.length c']] w fun e w'=>e=.returned (.bool (decide (n=n')&&mP n V V'))∧Below w.heap.size w w':=by
 have HW:=qh (((Below.refl w.heap.size w).alloc ql (.cells #[.int .i64 n,.slice A V.length c] 111)).alloc qj (.cells #[.int .i64 n',.slice A' V'.length c'] 111));have HA:=qh (Rd.below ha HW.o);have HB:=qh (Rd.below hb HW.o);have YR:=qh (DE n A V.length c (fun j=>V.getD j 0) _ HA.o qo);have zq:=qh (fun w' h=>DE n' A' V'.length c' (fun j=>V'.getD j 0) w' h qo);rw[TD hn hv hl]at YR
 simp only[TD hn' hv' hl']at zq
 have B0:=qh ((aB.at_ (g':=w.heap.size) w 111 #[.int .i64 n,.slice A V.length c] rfl).alloc (.cells #[.int .i64 n',.slice A' V'.length c'] 111));have B1:=qh (aB.at_ (g':=w.heap.size+1) (w.alloc (.cells #[.int .i64 n,.slice A V.length c] 111)) 111 #[.int .i64 n',.slice A' V'.length c'] qj);clear ha hb
 go_enter Tryz.func110,Tryz.ntmps110
 go_wp2_with fail
 refine YR.o.mono ?_;rintro e w1 ⟨rfl,hb1⟩;have hz0:=B0.out.lt;have hz1:=B1.out.lt;have C0:=qh (B0.out.below hb1 hz0);have C1:=qh (B1.out.below hb1 hz1);have HA1:=qh (Rd.below HA.o hb1);have HB1:=qh (Rd.below HB.o hb1);have HW1:=HW.st hb1;have d0:=qc C1.out 0 rfl;have d1:=qc C1.out 1 rfl;clear hb1 YR HA HB hz0 hz1 HW
 go_wp2_with fail
 refine(zq.o _ HB1.o).mono ?_;rintro e w2 ⟨rfl,hb2⟩;have hz0:=C0.out.lt;have hz1:=C1.out.lt;have D0:=qh (C0.out.below hb2 hz0);have D1:=qh (C1.out.below hb2 hz1);have HA2:=qh (Rd.below HA1.o hb2);have HB2:=qh (Rd.below HB1.o hb2);have HW2:=HW1.st hb2;have k0:=qc D0.out 0 rfl;have k1:=qc D0.out 1 rfl;have m0:=qc D1.out 0 rfl;have m1:=qc D1.out 1 rfl;clear hb2 zq HA1 HB1 hz0 hz1 HW1 C0 C1 d0 d1 B0 B1
 by_cases hnn:n=n'
 ·subst hnn
  have hb:((n:Int)==(n:Int))=true:=by simp
  have HEW:=qh (vH V V' A A' c c' w2 HA2.o HB2.o qo hv hv' qo qo)
  go_wp2_with fail
  refine HEW.o.mono ?_;rintro e w3 ⟨rfl,hb3⟩;have HW3:=HW2.st hb3;clear hb3
  go_wp2_with fail
  go_ret
  exact⟨by simp,HW3.o⟩
 ·have hb:((n:Int)==(n':Int))=false:=by simp;omega
  have HD:=qh (decide_eq_false hnn)
  go_wp2_with fail
  go_ret
  exact⟨by rw[HD.o];rfl,HW2.o⟩
theorem C9 (a b:aV)(W S W' S':OA)(cw cs m P6 cs' m':Nat)(w:World)(hra:cX w W a.2.1)(hsa:Rd w S (m*6) (fun j=>.int .i64 (a.2.2.getD j 0)))(hrb:cX w W' b.2.1)(hsb:Rd w S' (m'*6) (fun j=>.int .i64 (b.2.2.getD j 0)))(hla:a.2.2.length=m*6)(hlb:b.2.2.length=m'*6)(k1:JK a)(k2:JK b)(hm:m≤1000000)(hm':m'≤1000000):
 Calls Tryz.prog 80 #[.agg #[.int .i64 a.1,.slice W a.2.1.length cw,.slice S m cs],.agg #[.int .i64 b.1,.slice W' b.2.1.length P6,.slice S' m' cs']] w fun e w'=>e=.returned (.bool (G0 a b))∧Below w.heap.size w w':=by
 obtain⟨n,V,T⟩:=a;obtain⟨n',V',T'⟩:=b;obtain⟨p0,p1,p2,p3⟩:=k1;obtain⟨q0,q1,q2,q3⟩:=k2
 simp only at hra hsa hrb hsb hla hlb p0 p1 p2 p3 q0 q1 q2 q3 ⊢
 obtain⟨N,rfl⟩:∃N:Nat,n=N:=⟨n.toNat,by omega⟩;obtain⟨N',rfl⟩:∃N:Nat,n'=N:=⟨n'.toNat,by omega⟩;rw[Int.toNat_natCast]at p2 q2;have HW:=qh (((Below.refl w.heap.size w).alloc ql (.cells #[.int .i64 N,.slice W V.length cw,.slice S m cs] 113)).alloc qj (.cells #[.int .i64 N',.slice W' V'.length P6,.slice S' m' cs'] 113));have HEB:=qh (OY N N' V V' W W' cw P6 _ (Rd.below hra HW.o) (Rd.below hrb HW.o) qo qo p2 q2 p3 q3);have oT:=qh (fun w' (h:Rd w' S (m*6) (fun j=>.int .i64 (T.getD j 0))) (h':Rd w' S' (m'*6) (fun j=>.int .i64 (T'.getD j 0)))=>D4 S S' cs cs' m m' T T' w' hla hlb h h' hm hm');have jM:=qh (hsa.below HW.o);have HS2:=qh (hsb.below HW.o);have mO:=qh (show G0 ((N:Int),V,T) ((N':Int),V',T')=((decide (N=N')&&mP N V V')&&decide (T=T'))by
  show(decide ((N:Int)=(N':Int))&&(decide (T=T')&&mP N V V'))=_;rw[show decide ((N:Int)=(N':Int))=decide (N=N')from decide_eq_decide.2 qo,Bool.and_assoc,Bool.and_comm (decide (T=T'))])
 have B0:=qh ((aB.at_ (g':=w.heap.size) w 113 #[.int .i64 N,.slice W V.length cw,.slice S m cs] rfl).alloc (.cells #[.int .i64 N',.slice W' V'.length P6,.slice S' m' cs'] 113));have B1:=qh (aB.at_ (g':=w.heap.size+1) (w.alloc (.cells #[.int .i64 N,.slice W V.length cw,.slice S m cs] 113)) 113 #[.int .i64 N',.slice W' V'.length P6,.slice S' m' cs'] qj);obtain⟨b,hb⟩:∃b,b=(decide (N=N')&&mP N V V'):=⟨_,rfl⟩;rw[←hb]at HEB mO;clear hra hsa hrb hsb hb
 go_enter Tryz.func80,Tryz.ntmps80
 go_wp2_with fail
 refine HEB.o.mono ?_;rintro e w1 ⟨rfl,hb1⟩;have hz0:=B0.out.lt;have hz1:=B1.out.lt;have C0:=qh (B0.out.below hb1 hz0);have C1:=qh (B1.out.below hb1 hz1);have T1:=qh (jM.o.below hb1);have T2:=qh (HS2.o.below hb1);have HW1:=HW.st hb1;have c2:=qc C0.out 2 rfl;have d2:=qc C1.out 2 rfl;clear hb1 HEB jM HS2 hz0 hz1 HW C0 C1 B0 B1
 cases b with
 |false=>
  go_wp2_with fail
  go_ret
  exact⟨by rw[mO.o];rfl,HW1.o⟩
 |true=>
  go_wp2_with fail
  refine(oT.o _ T1.out T2.out).mono ?_;rintro e w2 ⟨rfl,q2,rfl⟩
  go_wp2_with fail
  go_ret
  exact⟨by rw[mO.o,Bool.true_and];rfl,Below.drewN' HW1.o q2⟩
theorem zQ37x1 {p:Prop}(h:p:=by
 have h2:k<M.length:=qo;obtain⟨g,o,rfl,hg,hr⟩:=(HA.o.below cS.o) qo;obtain⟨g',o',rfl,hg',hr'⟩:=(HB.o.below cS.o) qo;obtain⟨a,ha⟩:∃a,L[k]?=some a:=⟨_,List.getElem?_eq_getElem h1⟩;obtain⟨b,hb⟩:∃b,M[k]?=some b:=⟨_,List.getElem?_eq_getElem h2⟩;have HA1:=qh (hr k a ha);have HB1:=qh (hr' k b hb);have HQ:=qh (fun q=>C9 a b (d.W k) (d.S k) (d'.W k) (d'.S k) (d.cw k) (d.cs k) (d.m k) (d'.cw k) (d'.cs k) (d'.m k) (wr.drewN q) (Rd.drewN HA1.o.rw q) (Rd.drewN HA1.o.rs q) (Rd.drewN HB1.o.rw q) (Rd.drewN HB1.o.rs q) HA1.o.ln HB1.o.ln (G1.out a (List.mem_of_getElem? ha)) (G2.out b (List.mem_of_getElem? hb)) (K1.out.2 k a ha).ml (K2.out.2 k b hb).ml);have HD:=qh (show cZ (L.drop k) (M.drop k) k=if G0 a b=true then cZ (L.drop (k+1)) (M.drop (k+1)) (k+1)else k by
  rw[List.drop_eq_getElem_cons h1,List.drop_eq_getElem_cons h2];rw[List.getElem?_eq_getElem h1]at ha;rw[List.getElem?_eq_getElem h2]at hb;injection ha with ha;injection hb with hb;rw[ha,hb]
  rfl)
 have c0:=HA1.o.c0;have c1:=HA1.o.c1;have c2:=HA1.o.c2;have d0:=HB1.o.c0;have d1:=HB1.o.c1;have d2:=HB1.o.c2;have hga:=HA1.o.lt;have hgb:=HB1.o.lt;have b1:(0:Int)≤(k:Int):=qo;have b2:(k:Int)<(L.length:Int):=qo;have b3:(k:Int)<(M.length:Int):=qo;clear hr hr' ha hb
 go_wp2_with fail
 go_region_held3 (fun w'=>w'.cell? ⟨g,o+k*3,none⟩=some (.int .i64 a.1)∧w'.cell? ⟨g,o+k*3+1,none⟩=some (.slice (d.W k) a.2.1.length (d.cw k))∧w'.cell? ⟨g,o+k*3+2,none⟩=some (.slice (d.S k) (d.m k) (d.cs k))∧w'.cell? ⟨g',o'+k*3,none⟩=some (.int .i64 b.1)∧w'.cell? ⟨g',o'+k*3+1,none⟩=some (.slice (d'.W k) b.2.1.length (d'.cw k))∧w'.cell? ⟨g',o'+k*3+2,none⟩=some (.slice (d'.S k) (d'.m k) (d'.cs k))) (go_keep) ((go_at_call 80;refine(HQ.o 1).mono ?_;rintro e w5 ⟨rfl,hb5⟩;have hb6:Below wr.heap.size wr w5:=(Below.drewN' (Below.refl _ _) 1).trans hb5;have bG:=cS.st hb6;have c0:=aD hb6 hga c0;have c1:=aD hb6 hga c1;have c2:=aD hb6 hga c2;have d0:=aD hb6 hgb d0;have d1:=aD hb6 hgb d1;have d2:=aD hb6 hgb d2;clear hb5 hb6))
 rename_i hHeld
 clear hHeld c0 c1 c2 d0 d1 d2
 by_cases hq:G0 a b=true
 ·have eI:=qh (HX.o.trans (HD.o.trans (if_pos hq)))
  rw[hq]
  go_wp2_with fail
  go_roundw
  case rel=>exact⟨k+1,by omega,qg,eI,bG⟩
  case measure=>exact qs
 ·have eI:=qh (HX.o.trans (HD.o.trans (if_neg hq)))
  rw[Bool.not_eq_true]at hq;rw[hq]
  go_wp2_with fail
  go_ret
  exact⟨by rw[eI.o];rfl,bG.o⟩):p:=h
theorem zQ37x2 {p:Prop}(h:p:=by
 go_wp2_with fail
 go_ret
 exact⟨by rw[eI.o];(first|rfl|exact congrArg (fun x:Int=>Ending.returned (.int .i64 x)) qo),cS.o⟩):p:=h
theorem R4 (L M:List aV)(A B:OA)(c c':Nat)(d d':eK)(w:World)(ha:G7 w A L d)(hb:G7 w B M d')(k1:Oi L d)(k2:Oi M d')(g1:∀b∈L,JK b)(g2:∀b∈M,JK b):
 Calls Tryz.prog 56 #[.slice A L.length c,.slice B M.length c'] w fun e w'=>e=.returned (.int .i64 (cZ L M 0))∧Below w.heap.size w w':=by
 have HA:=qh ha;have HB:=qh hb;have K1:=qh k1;have K2:=qh k2;have G1:=qh g1;have G2:=qh g2;have hl:=k1.1;have hm:=k2.1;clear ha hb k1 k2 g1 g2
 by_cases hml:M.length<L.length
 ·have hmi:(M.length:Int)<(L.length:Int):=qo
  have hmj:¬(L.length:Int)≤(M.length:Int):=qo
  go_enter Tryz.func56,Tryz.ntmps56
  go_wp2_with fail
  go_loopw [11] (fun x wr=>∃k:Nat,k≤M.length∧x=.int .i64 k∧Hq (cZ L M 0=cZ (L.drop k) (M.drop k) k)∧Hq (Below w.heap.size w wr)) (fun x _=>M.length-(intOf x).toNat)
  case atStart=>exact⟨0,Nat.zero_le _,rfl,qh rfl,qh (Below.refl _ _)⟩
  case round=>
   obtain⟨k,hk,rfl,HX,cS⟩:=hrel
   by_cases hlt:k<M.length
   ·have h1:k<L.length:=qo
    exact zQ37x1
   ·have hkn:k=M.length:=qo
    have eI:=qh (HX.o.trans (yM (.inr ⟨by rw[Ne,List.drop_eq_nil_iff];omega,by rw[List.drop_eq_nil_iff];omega⟩)));have hne:((L.length:Int)==(M.length:Int))=false:=by rw[beq_eq_false_iff_ne];omega
    have hne2:¬(L.length:Int)=(M.length:Int):=qo;have hkn2:(k:Int)=(M.length:Int):=qo;subst hkn
    exact zQ37x2
 ·have hmi:¬(M.length:Int)<(L.length:Int):=qo
  have hmj:(L.length:Int)≤(M.length:Int):=qo
  go_enter Tryz.func56,Tryz.ntmps56
  go_wp2_with fail
  go_loopw [11] (fun x wr=>∃k:Nat,k≤L.length∧x=.int .i64 k∧Hq (cZ L M 0=cZ (L.drop k) (M.drop k) k)∧Hq (Below w.heap.size w wr)) (fun x _=>L.length-(intOf x).toNat)
  case atStart=>exact⟨0,Nat.zero_le _,rfl,qh rfl,qh (Below.refl _ _)⟩
  case round=>
   obtain⟨k,hk,rfl,HX,cS⟩:=hrel
   by_cases hlt:k<L.length
   ·have h1:k<L.length:=qo
    exact zQ37x1
   ·have hkn:k=L.length:=qo
    by_cases hll:L.length=M.length
    ·have eI:=qh (show cZ L M 0= -1 by
      rw[HX.o,List.drop_eq_nil_of_le qo,List.drop_eq_nil_of_le qo]
      rfl)
     have hne:((L.length:Int)==(M.length:Int))=true:=by simp;omega
     have hne2:(L.length:Int)=(M.length:Int):=qo;subst hkn
     exact zQ37x2
    ·have eI:=qh (HX.o.trans (yM (.inl ⟨by rw[List.drop_eq_nil_iff];omega,by rw[Ne,List.drop_eq_nil_iff];omega⟩)))
     have hne:((L.length:Int)==(M.length:Int))=false:=by rw[beq_eq_false_iff_ne];omega
     have hne2:¬(L.length:Int)=(M.length:Int):=qo;subst hkn
     exact zQ37x2
theorem Eu {k p c b y d n:Int}(h:gJ k p c b y d n=true): -1≤c∧c≤4:=by
 unfold gJ at h
 by_cases hp:p<0
 ·rw[if_pos hp]at h;cases h
 rw[if_neg hp]at h
 by_cases h1:k=1
 ·rw[if_pos h1]at h;simp at h;omega
 rw[if_neg h1]at h
 by_cases h2:k=2
 ·rw[if_pos h2]at h;simp[aK]at h;omega
 rw[if_neg h2]at h
 by_cases h3:k=3
 ·rw[if_pos h3]at h;simp at h;omega
 rw[if_neg h3]at h
 by_cases h4:k=4
 ·rw[if_pos h4]at h;simp[aK]at h;omega
 rw[if_neg h4]at h
 by_cases h5:k=5
 ·rw[if_pos h5]at h;simp[aK]at h;omega
 rw[if_neg h5]at h
 cases h
theorem Bb (z:Nat→Int)(k:Nat):(DD z k).length≤k:=by
 induction k with
 |zero=>exact Nat.le_refl _
 |succ k ih=>
  simp only[DD]
  split
  ·rw[List.length_append,List.length_singleton]
   omega
  ·exact Nat.zero_le _
theorem aaq {z:Nat→Int}{N:Nat}(hv:(cnt z 0 N).isSome=true){k:Nat}(hk:k≤N):FD (DD z k):=by
 induction k with
 |zero=>intro x hx;cases hx
 |succ k ih=>
  intro x hx
  simp only[DD]at hx
  by_cases h:z (k*6)=1
  ·rw[if_pos h]at hx
   rcases List.mem_append.1 hx with hx|hx
   ·exact ih qo x hx
   ·have h1:=Y2 hv (show k<N by omega)
    have h2:=h1.1;rw[h]at h2;obtain⟨p0,p1,p2⟩:=C8 h2;rw[List.mem_singleton.1 hx];have h3:=WC (c:=z (k*6+2)) (x:=z (k*6+1)+1) p2 qo;unfold NW;omega
  ·rw[if_neg h]at hx
   cases hx
theorem Iu {B n:Nat}{w:World}{e:TypeId}{v:Value}{xs:List Value}(h:w.ownsRow B e 3 v (n+1) xs):∃g c,v=.slice (some ⟨g,0,none⟩) (n+1) c:=by
 rcases h.2 with⟨_,h1⟩|⟨g,cap,_,e,_⟩
 ·omega
 ·exact⟨g,cap,e⟩
theorem zQ37x0 {p:Prop}(h:p:=by
 go_wp2_with fail
 refine cN (S:=fun w'=>w'.cell? ⟨g5,q*3+2,none⟩=some (.slice (d1.S q) (d1.m q) (d1.cs q))∧w'.cell? ⟨ga,off+k*6,none⟩=some (.int .i64 z0)∧w'.cell? ⟨ga,off+k*6+1,none⟩=some (.int .i64 z1)∧w'.cell? ⟨ga,off+k*6+2,none⟩=some (.int .i64 z2)∧w'.cell? ⟨ga,off+k*6+3,none⟩=some (.int .i64 z3)∧w'.cell? ⟨ga,off+k*6+4,none⟩=some (.int .i64 z4)∧w'.cell? ⟨ga,off+k*6+5,none⟩=some (.int .i64 z5)) _ qj qk qk ⟨m2,q0,q1,q2,q3,q4,q5⟩ (fun hHeld=>?_)
 simp only[List.dropLast,List.getLast_cons_cons,List.getLast_singleton,List.length_cons,List.length_nil]
 refine qt 0 hHeld ?_;refine qt 1 hHeld ?_;refine qt 2 hHeld ?_;refine qt 3 hHeld ?_;refine qt 4 hHeld ?_;refine qt 5 hHeld ?_;refine qt 6 hHeld ?_;refine qt 7 hHeld ?_;refine qt 8 hHeld ?_
 simp only[List.getElem_toArray,List.getElem_cons_succ,List.getElem_cons_zero,Act.put,List.setIfInBounds_toArray,List.set_cons_zero,List.set_cons_succ]
 refine wpAnyH_ready (rs:=[9]) qk qj ?_;refine AllReadyH.cons rfl (fun K hK=>?_) AllReadyH.nil
 simp only[List.getElem_toArray,List.getElem_cons_succ,List.getElem_cons_zero]
 go_simp
 refine hK.out _ _ (by go_keep) (fun fY=>?_);clear hK K hHeld;refine wpAnyH_ready (rs:=[10]) qk qj ?_;refine AllReadyH.cons rfl (fun K hK=>?_) AllReadyH.nil
 simp only[List.getElem_toArray,List.getElem_cons_succ,List.getElem_cons_zero]
 have hlo1:=kW.o.lo b jA.o;have hq2:o1.length-1=q:=qo;have hlv:gD o1.length d1=.slice (d1.S q) (d1.m q) (d1.cs q):=by unfold gD;rw[hq2]
 rw[hlv,hq2]at hlo1;have Yj:d1.m q≤3000:=by
  have h1:=kW.o.ln q b hb;have h2:=J6.o b (List.mem_of_getElem? hb);omega
 refine pT wy.drew (by rfl) (.tmp 82) (.tmp 87) _ (by rfl) w.heap.size 91 k0 _ 6 48 Tryz.underlying49 hk0 kz ks kb rfl qo (.slice (d1.S q) (d1.m q) (d1.cs q)) (d1.m q) (ints b.2.2) (by rfl) hlo1 _ 1 1 [.int .i64 z0,.int .i64 z1,.int .i64 z2,.int .i64 z3,.int .i64 z4,.int .i64 z5] (by rfl) rfl (by simp[Value.oneCell']) qm qo jO.o.size ?_;intro v8 w8 gE bL iA;obtain⟨A8,c8,rfl⟩:=aF gE;have hl5:¬(Value.slice (d1.S q) (d1.m q) (d1.cs q)).ownBlock=some g5:=fun e=>kW.o.lv g5 rfl (by rw[hlv];exact e);have rW:¬(Value.slice (d1.S q) (d1.m q) (d1.cs q)).ownBlock=some ga:=fun e=>by
  have:=(hlo1.lt ga e).1;omega
 have u2:=(bL.cells (g:=g5) CY hl5 (q*3+2)).trans m2;have v0:=(bL.cells (g:=ga) rX rW (off+k*6)).trans q0;have v1:=(bL.cells (g:=ga) rX rW (off+k*6+1)).trans q1;have v2:=(bL.cells (g:=ga) rX rW (off+k*6+2)).trans q2;have v3:=(bL.cells (g:=ga) rX rW (off+k*6+3)).trans q3;have v4:=(bL.cells (g:=ga) rX rW (off+k*6+4)).trans q4;have v5:=(bL.cells (g:=ga) rX rW (off+k*6+5)).trans q5;have f5:w8.frozen? ⟨g5,q*3+2,none⟩=false:=(World.frozen?_of_block (w:=wy.drew) (a:=⟨g5,q*3+2,none⟩) (bL.block g5 CY hl5)).trans (kW.o.own.frozenAt (q*3+2));refine hK.out _ _ ⟨u2,v0,v1,v2,v3,v4,v5⟩ (fun bU=>?_);clear hK K fY;have mF:=qh ((kW.o.drewN 1).add jA.o (A':=A8) (c':=c8) (s:=[z0,z1,z2,z3,z4,z5]) rfl (by rw[hq2];exact gE) (by rw[hlv];exact bL) (by rw[hlv,hq2];exact iA));rw[hq2]at mF;have tR:=qh (Below.setCell (p:=⟨g5,q*3+2,none⟩) (jO.o.drew.trans (bL.own (w:=wy.drew) hlo1 jO.o.size)) hg5 (.slice A8 (d1.m q+1) c8));refine qt 11 bU ?_;refine qt 12 bU ?_
 simp only[List.getElem_toArray,List.getElem_cons_succ,List.getElem_cons_zero,Act.put,List.setIfInBounds_toArray,List.set_cons_zero,List.set_cons_succ]
 refine wpAnyH_done qk ?_ _;refine d8.of ?_
 go_simp
 have mX:ga≠g5:=qo;have x0:(w8.setCell ⟨g5,q*3+2,none⟩ (.slice A8 (d1.m q+1) c8)).cell? ⟨ga,off+k*6,none⟩=some (.int .i64 z0):=(World.cell?_of_block (Below.heap_setCell w8 _ _ ga mX)).trans v0;have x1:(w8.setCell ⟨g5,q*3+2,none⟩ (.slice A8 (d1.m q+1) c8)).cell? ⟨ga,off+k*6+1,none⟩=some (.int .i64 z1):=(World.cell?_of_block (Below.heap_setCell w8 _ _ ga mX)).trans v1;have x2:(w8.setCell ⟨g5,q*3+2,none⟩ (.slice A8 (d1.m q+1) c8)).cell? ⟨ga,off+k*6+2,none⟩=some (.int .i64 z2):=(World.cell?_of_block (Below.heap_setCell w8 _ _ ga mX)).trans v2;have x3:(w8.setCell ⟨g5,q*3+2,none⟩ (.slice A8 (d1.m q+1) c8)).cell? ⟨ga,off+k*6+3,none⟩=some (.int .i64 z3):=(World.cell?_of_block (Below.heap_setCell w8 _ _ ga mX)).trans v3;have x4:(w8.setCell ⟨g5,q*3+2,none⟩ (.slice A8 (d1.m q+1) c8)).cell? ⟨ga,off+k*6+4,none⟩=some (.int .i64 z4):=(World.cell?_of_block (Below.heap_setCell w8 _ _ ga mX)).trans v4;have x5:(w8.setCell ⟨g5,q*3+2,none⟩ (.slice A8 (d1.m q+1) c8)).cell? ⟨ga,off+k*6+5,none⟩=some (.int .i64 z5):=(World.cell?_of_block (Below.heap_setCell w8 _ _ ga mX)).trans v5;clear bU v0 v1 v2 v3 v4 v5 u2 f5 bL gE iA hlo1 m2 q0 q1 q2 q3 q4 q5;obtain⟨w9,BZ⟩:=qx (w8.setCell ⟨g5,q*3+2,none⟩ (.slice A8 (d1.m q+1) c8));rw[←BZ]at mF tR x0 x1 x2 x3 x4 x5 ⊢;clear BZ;have hz2:=Eu oT.o.1;have TW:=qh (CC z0 z1 z2 z3 z4 z5 nn w9 qo qo)
 go_wp2_with fail
 refine TW.o.mono ?_;rintro e w10 ⟨rfl,zU⟩;have PT:=qh (mF.o.below zU);have dX:=tR.st zU;clear zU
 go_wp2_with fail
 go_roundw
 case rel=>exact⟨k+1,dV o1 (pF z k),d1.add q A8 c8,some ⟨g5,0,none⟩,c4,bD z0 z2 nn,by omega,qg,by rw[cA,hq],rfl,qh (fun _=>⟨HT1.o,oT.o.2.1.symm,by rw[RC.o];exact World.ownsRow_nil _ _ _ _,fun x hx=>by cases hx⟩),qh (fun h=>by omega),qh (by rw[cA,L8.o];exact PT.o),by rw[cA];omega,by rw[cA];omega,dX⟩
 case measure=>exact qs):p:=h
theorem zQ37x3 {p:Prop}(h:p:=by
 have h61:((o.length:Int)==60)=true:=by simp;omega
 have h62:(o.length:Int)=60:=qo
 go_wp2_with fail
 go_ret2
 exact⟨HB2.o,by rw[kK.o];rfl⟩):p:=h
theorem zQ37x4 {p:Prop}(h:p:=by
 have hl2:(40:Int)<(L.length:Int):=qo
 go_wp2_with fail
 go_ret2
 exact⟨aS.o,by rw[kK.o];rfl⟩):p:=h
theorem Fh (A:OA)(N c:Nat)(z:Nat→Int)(w:World)(ha:Rd w A (N*6) (fun j=>.int .i64 (z j)))(hN:N≤2000)(hv:(cnt z 0 N).isSome=true):
 Calls Tryz.prog 53 #[.slice A N c] w (Vu w (iI z N)):=by
 obtain⟨i0,hi,iz,is,ib⟩:=info_parts info64;obtain⟨j0,hj0,jz,js,jb⟩:=info_parts tq;obtain⟨k0,hk0,kz,ks,kb⟩:=info_parts sw;have HA:=qh ha;have HV:=qh hv;have bZ:=qh ((CB w).below ((Below.refl _ _).alloc ql (.cells #[] 2)));have B7:=qh (CB w);have HB1:=qh (((Below.refl w.heap.size w).alloc ql (.cells #[.int .i64 0,.slice none 0 0,.slice none 0 0] 113)).alloc qj (.cells #[] 2));have HW1:=qh (World.ownsRow_made (base:=w.heap.size) (e:=2) (size:=1) (w.alloc (.cells #[.int .i64 0,.slice none 0 0,.slice none 0 0] 113)) #[] 0 qj qm rfl);clear ha hv
 go_enter Tryz.func53,Tryz.ntmps53
 go_wp2_with fail
 go_loopw [4,5,6,7,8] (fun ov nv wv x _ wr=>∃(k:Nat) (o:List aV) (d:eK) (A4:OA) (c4:Nat) (nI:Int),k≤N+1∧x=.int .i64 k∧ov=.slice A4 o.length c4∧nv=.int .i64 nI∧Hq (k≤N→j8 z k=some o∧nI=fZ z k∧wr.ownsRow w.heap.size 2 1 wv (DD z k).length (ints (DD z k))∧∀x,wv.ownBlock=some x→¬CD (.slice A4 o.length c4) o d x)∧Hq (k=N+1→iI z N=some o)∧Hq (iZ w.heap.size (.slice A4 o.length c4) o d wr)∧1≤o.length∧o.length≤60∧Hq (Below w.heap.size w wr)) (fun _ _ _ x _ _=>N+2-(intOf x).toNat)
 case atStart=>exact⟨0,[(0,[],[])],_,_,_,0,by omega,rfl,rfl,rfl,qh (fun _=>⟨rfl,rfl,by have h:=HW1.o;simp only[World.size_alloc]at h;exact h,fun x hx hi=>by
  have h1:=B7.o.zM (Nat.zero_lt_one) hi;injection hx with hx;rw[World.size_alloc]at h1
  simp at hx
  omega⟩),qh (fun h=>by omega),bZ,by simp,by simp,HB1⟩
 case round=>
  clear bZ B7 HB1 HW1;obtain⟨k,o,d,A4,c4,nI,hk,rfl,rfl,rfl,iK,HFI,HM,hlo1,UY,HB⟩:=hrel
  by_cases hkN:k≤N
  case neg=>
   obtain rfl:k=N+1:=qo;have b0:¬((N+1:Nat):Int)≤(N:Int):=qo;have TT:=qh (HFI.o rfl)
   go_wp2_with fail
   go_ret2
   exact⟨HB.o,by rw[TT.o];exact⟨A4,c4,d,rfl,HM.o⟩⟩
  obtain⟨ht0,rfl,hw0,hs0⟩:=iK.o hkN;have HT:=qh ht0;have qE:=qh hw0;have E0:=qh hs0;clear ht0 hw0 hs0 iK HFI;have E9:=qh (vW HV.o hkN);have hwl:=Bb z k;have wV:=qh (ED HV.o hkN);have YP:=qh (aaq HV.o hkN);have J0:=qh (aap z k);have BA:=qh (fun x hx=>HM.o.zM (by omega:0<o.length) (x:=x) hx);have b0:(k:Int)≤(N:Int):=qo;have b1:(0:Int)≤(k:Int):=qo
  by_cases hlt:k<N
  ·obtain⟨ga,off,rfl,hg,hr⟩:=HA.o qo
   have r0:=aD HB.o hg (hr (k*6) qo);have r1:=aD HB.o hg (hr (k*6+1) qo);have r2:=aD HB.o hg (hr (k*6+2) qo);have r3:=aD HB.o hg (hr (k*6+3) qo);have r4:=aD HB.o hg (hr (k*6+4) qo);have r5:=aD HB.o hg (hr (k*6+5) qo);have oT:=qh (Y2 HV.o hlt);have dC:=qh (show NW z k=z (k*6+2)*(z (k*6+1)+1)from rfl);have AW:=qh (show DD z (k+1)=if z (k*6)=1 then DD z k++[NW z k]else []from rfl);have wW:=qh (show j8 z (k+1)=if z (k*6)=1 then j8 z k else(j8 z k).bind fun o=>(flush (fZ z k) (kZ z k) o).map fun o'=>dV o' (pF z k)from rfl);have L8:=qh (show pF z k=[z (k*6),z (k*6+1),z (k*6+2),z (k*6+3),z (k*6+4),z (k*6+5)]from rfl);have HST:=qh (Y8 HT.o);rw[HT.o]at wW;obtain⟨z0,hz0⟩:=qx (z (k*6));obtain⟨z1,hz1⟩:=qx (z (k*6+1));obtain⟨z2,hz2⟩:=qx (z (k*6+2));obtain⟨z3,hz3⟩:=qx (z (k*6+3));obtain⟨z4,jF⟩:=qx (z (k*6+4));obtain⟨z5,DN⟩:=qx (z (k*6+5))
   simp only[←hz0,←Nat.add_assoc]at r0
   simp only[←hz1,←Nat.add_assoc]at r1
   simp only[←hz2,←Nat.add_assoc]at r2
   simp only[←hz3,←Nat.add_assoc]at r3
   simp only[←jF,←Nat.add_assoc]at r4
   simp only[←DN,←Nat.add_assoc]at r5
   rw[←hz0,←hz1,←hz2,←hz3,←jF,←DN]at oT L8;rw[←hz1,←hz2]at dC;rw[←hz0]at AW wW;clear hr hz0 hz1 hz2 hz3 jF DN;obtain⟨n,hn⟩:=qx (fZ z k);obtain⟨L,hL⟩:=qx (kZ z k);obtain⟨R,hR⟩:=qx (DD z k);rw[←hn]at oT wW E9 wV ⊢;rw[←hL]at wW wV J0;rw[←hR]at AW qE hwl YP J0;clear hn hL hR;have hcn:=E9.o;have hgw:ga<wr.heap.size:=Nat.lt_of_lt_of_le hg HB.o.size;have b2:(k:Int)<(N:Int):=qo
   by_cases hc1:z0=1
   ·subst hc1
    obtain⟨p0,p1,p2⟩:=C8 oT.o.1;obtain⟨s1,s2,s3⟩:=WC (c:=z2) (x:=z1+1) p2 qo;have s0:IntKind.i64.wrap (z1+1)=z1+1:=IntWalk.i64_in _ qo;rw[if_pos rfl,dC.o]at AW;rw[if_pos rfl]at wW;have j9:=qh (show fZ z (k+1)=n by rw[oT.o.2.1];simp[bD])
    go_wp2_with fail
    refine cN (S:=fun w'=>w'.cell? ⟨ga,off+k*6+1,none⟩=some (.int .i64 z1)∧w'.cell? ⟨ga,off+k*6+2,none⟩=some (.int .i64 z2)) _ qj qk qk ⟨r1,r2⟩ (fun hHeld=>?_)
    simp only[List.dropLast,List.getLast_cons_cons,List.getLast_singleton,List.length_cons,List.length_nil]
    refine qt 0 hHeld ?_;refine qt 1 hHeld ?_;refine qt 2 hHeld ?_;refine qt 3 hHeld ?_;refine qt 4 hHeld ?_;refine qt 5 hHeld ?_;refine qt 6 hHeld ?_;refine qt 7 hHeld ?_;refine qt 8 hHeld ?_;refine qt 9 hHeld ?_;refine qt 10 hHeld ?_;refine qt 11 hHeld ?_;refine qt 12 hHeld ?_
    simp only[List.getElem_toArray,List.getElem_cons_succ,List.getElem_cons_zero,Act.put,List.setIfInBounds_toArray,List.set_cons_zero,List.set_cons_succ]
    refine wpAnyH_ready (rs:=[13]) qk qj ?_;refine AllReadyH.cons rfl (fun K hK=>?_) AllReadyH.nil
    simp only[List.getElem_toArray,List.getElem_cons_succ,List.getElem_cons_zero]
    go_simp
    refine hK.out _ _ (by go_keep) (fun fY=>?_);clear hK K hHeld;refine wpAnyH_ready (rs:=[14]) qk qj ?_;refine AllReadyH.cons rfl (fun K hK=>?_) AllReadyH.nil
    simp only[List.getElem_toArray,List.getElem_cons_succ,List.getElem_cons_zero]
    refine pT wr.drew (by rfl) (.tmp 30) (.tmp 43) _ (by rfl) w.heap.size 2 i0 _ 1 8 Tryz.underlying34 hi iz is ib rfl qo u6 R.length (ints R) (by rfl) (own_drewN qE.o 1) _ 1 1 [.int .i64 (z2*(z1+1))] (by rfl) rfl (by simp[Value.oneCell']) qm qo HB.o.size ?_;intro v8 w8 gE bL iA;obtain⟨A8,c8,rfl⟩:=aF gE;have PQ:=qh gE;have HM8:=qh ((HM.o.drewN 1).fr qo bL (fun x hx he=>E0.o x he hx));have eW:=qh (HB.o.drew.trans (bL.own (w:=wr.drew) (own_drewN qE.o 1) HB.o.size));have HS8:=qh (show∀x,(Value.slice A8 (R.length+1) c8).ownBlock=some x→¬CD (.slice A4 o.length c4) o d x from fun x hx hi=>by
     rcases iA with h1|h1
     ·exact E0.o x (h1.symm.trans hx) hi
     ·rw[h1]at hx
      injection hx with hx;have h2:=BA.o x hi;have h3:wr.drew.heap.size=wr.heap.size:=rfl;omega)
    have hag:¬u6.ownBlock=some ga:=fun e=>by
     have:=(qE.o.lt ga e).1;omega
    have q1:=(bL.cells (g:=ga) hgw hag (off+k*6+1)).trans r1;have q2:=(bL.cells (g:=ga) hgw hag (off+k*6+2)).trans r2;refine hK.out _ _ ⟨q1,q2⟩ (fun bU=>?_);clear hK K fY;refine wpAnyH_done qk ?_ _;refine d8.of ?_
    go_simp
    clear bU q1 q2 bL gE iA
    go_wp2_with fail
    go_roundw
    case rel=>exact⟨k+1,o,d,A4,c4,n,by omega,qg,rfl,rfl,qh (fun _=>⟨wW.o,j9.o.symm,by rw[AW.o,aT,List.length_append];exact PQ.o,HS8.o⟩),qh (fun h=>by omega),HM8,hlo1,UY,eW⟩
    case measure=>exact qs
   ·have htn:=wW.o.trans (if_neg hc1)
    rw[Option.bind_some]at htn;have FH:=qh htn;have RC:=qh (AW.o.trans (if_neg hc1));have hcb:(z0==1)=false:=by rw[beq_eq_false_iff_ne];exact hc1
    clear htn AW wW dC;obtain⟨A6,c6,rfl⟩:=aF qE.o;have iJ:=qh (KH R A6 c6 wr (iD qE.o) qo YP.o);rw[J0.o]at iJ
    go_wp2_with fail
    refine iJ.o.mono ?_;rintro e w1 h1;obtain⟨A7,c7,rfl,IC,tI,bQ⟩:=h1.rd;have aS:=HB.st bQ;have TR:=qh (HM.o.below bQ);have l8:=qh tI;have HS7:=qh (show∀x,(Value.slice A7 L.length c7).ownBlock=some x→¬CD (.slice A4 o.length c4) o d x from fun x hx hi=>by
     have h1:=(IC.lt x hx).1;have h2:=BA.o x hi;omega)
    have ZR:=qh (show∀x,(Value.slice A7 L.length c7).ownBlock=some x→w.heap.size≤x from fun x hx=>Nat.le_trans HB.o.size (IC.lt x hx).1);have hLl:L.length≤R.length:=by have:=G.sM R;rw[J0.o]at this;exact this
    have hz7:wr.heap.size≤w1.heap.size:=bQ.size;have q0:=aD bQ hgw r0;have q1:=aD bQ hgw r1;have q2:=aD bQ hgw r2;have q3:=aD bQ hgw r3;have q4:=aD bQ hgw r4;have q5:=aD bQ hgw r5;clear r0 r1 r2 r3 r4 r5;clear h1 IC tI bQ iJ HM qE HB E0
    by_cases hlen:40<L.length
    ·have kK:=qh (show iI z N=none from YA (j:=k+1) hlt (by rw[FH.o];unfold flush;rw[if_pos hlen];rfl))
     exact zQ37x4
    have hl2:¬(40:Int)<(L.length:Int):=qo;obtain⟨nn,rfl⟩:∃nn:Nat,n=nn:=⟨n.toNat,(Int.toNat_of_nonneg E9.o.1).symm⟩
    by_cases hL0:L.length=0
    ·have ht:triv nn L=true:=by rw[List.length_eq_zero_iff.1 hL0];exact V9 nn
     have b7:¬(0:Int)<(L.length:Int):=qo;have J6:=qh (show∀b∈o,b.2.2.length≤k*6 from HST.o);have aO:=qh (show flush nn L o=some o by unfold flush;rw[if_neg hlen];exact if_pos ht);obtain⟨wy,pC⟩:=qx (w1);subst pC;obtain⟨o1,ho1⟩:=qx (o);subst ho1;obtain⟨d1,hd1⟩:=qx (d);subst hd1;have kW:=TR;have jO:=aS;clear TR aS l8 HS7;have HT1:=qh (show j8 z (k+1)=some (dV o1 (pF z k))by rw[FH.o,aO.o];rfl);obtain⟨q,hq⟩:∃q,o1.length=q+1:=⟨o1.length-1,by omega⟩;obtain⟨b,hb⟩:∃b,o1[q]?=some b:=⟨_,List.getElem?_eq_getElem qo⟩;have jA:=qh (show o1.getLast?=some b by rw[List.getLast?_eq_getElem?,hq];exact hb);obtain⟨g5,c5,hv5,hg5,CY⟩:=kW.o.form qo;injection hv5 with hv5 hv6 oM;clear hv6;subst hv5 oM;obtain⟨_,_,m2⟩:=DX kW.o hb;have b4:(0:Int)≤(q:Int):=qo;have b5:(q:Int)<((q+1:Nat):Int):=qo;have e7:((q+1:Nat):Int)-1=(q:Int):=qo;have rX:ga<wy.heap.size:=World.block_lt_of_cell? wy _ q0;rw[hq]
     exact zQ37x0
    have J1:=qh (show Calls Tryz.prog 77 #[.int .i64 nn,.slice A7 L.length c7,.slice none 0 0] w1 _ from vH (n:=nn) L [] A7 none c7 0 w1 l8.o (fun h0=>absurd h0 (Nat.lt_irrefl 0)) qo wV.o (fun x hx=>by cases hx) qo qj);have b7:(0:Int)<(L.length:Int):=qo
    go_wp2_with fail
    refine J1.o.mono ?_;rintro e w2 ⟨rfl,hb2⟩;rw[BO];have HB2:=aS.st hb2;have dW:=qh (TR.o.below hb2);have HR2:=qh (Rd.below l8.o hb2);have MH:ga<w1.heap.size:=World.block_lt_of_cell? w1 _ q0;replace q0:=aD hb2 MH q0;replace q1:=aD hb2 MH q1;replace q2:=aD hb2 MH q2;replace q3:=aD hb2 MH q3;replace q4:=aD hb2 MH q4;replace q5:=aD hb2 MH q5;clear hb2 J1 aS TR l8 MH
    by_cases ht:triv nn L=true
    ·rw[ht]
     have J6:=qh (show∀b∈o,b.2.2.length≤k*6 from HST.o);have aO:=qh (show flush nn L o=some o by unfold flush;rw[if_neg hlen];exact if_pos ht);obtain⟨wy,pC⟩:=qx (w2);subst pC;obtain⟨o1,ho1⟩:=qx (o);subst ho1;obtain⟨d1,hd1⟩:=qx (d);subst hd1;have kW:=dW;have jO:=HB2;clear dW HB2 HR2 HS7;have HT1:=qh (show j8 z (k+1)=some (dV o1 (pF z k))by rw[FH.o,aO.o];rfl);obtain⟨q,hq⟩:∃q,o1.length=q+1:=⟨o1.length-1,by omega⟩;obtain⟨b,hb⟩:∃b,o1[q]?=some b:=⟨_,List.getElem?_eq_getElem qo⟩;have jA:=qh (show o1.getLast?=some b by rw[List.getLast?_eq_getElem?,hq];exact hb);obtain⟨g5,c5,hv5,hg5,CY⟩:=kW.o.form qo;injection hv5 with hv5 hv6 oM;clear hv6;subst hv5 oM;obtain⟨_,_,m2⟩:=DX kW.o hb;have b4:(0:Int)≤(q:Int):=qo;have b5:(q:Int)<((q+1:Nat):Int):=qo;have e7:((q+1:Nat):Int)-1=(q:Int):=qo;have rX:ga<wy.heap.size:=World.block_lt_of_cell? wy _ q0;rw[hq]
     exact zQ37x0
    ·rw[Bool.not_eq_true]at ht
     rw[ht];have OG:¬triv nn L=true:=by rw[ht];exact Bool.false_ne_true
     have aO:=qh (show flush nn L o=some (o++[((nn:Int),L,[])])by unfold flush;rw[if_neg hlen];exact if_neg OG)
     by_cases h60:o.length=60
     ·have kK:=qh (show iI z N=none from Ue (j:=k+1) hlt (o:=dV (o++[((nn:Int),L,[])]) (pF z k)) (by rw[FH.o,aO.o];rfl) (by rw[cA];simp;omega))
      exact zQ37x3
     ·have h61:((o.length:Int)==60)=false:=by rw[beq_eq_false_iff_ne];omega
      have h62:¬(o.length:Int)=60:=qo;have bo1:(0:Int)≤(o.length:Int):=qo;have bo2:(o.length:Int)<(o.length:Int)+1:=qo
      go_wp2_with (at_builtin;go_must (refine mS w2 rfl (.tmp 62) (.tmp 67) _ rfl w.heap.size 113 j0 _ 3 56 Tryz.underlying68 hj0 jz js jb rfl qo (.slice A4 o.length c4) o.length _ rfl dW.o.own _ 1 1 [.int .i64 nn,.slice A7 L.length c7,.slice none 0 0] w2.heap.size rfl rfl rfl (by simp[Value.oneCell']) qm qo HB2.o.size ?_);intro v' w' hown' hf' hat';have HOWN':=qh hown';have gX:=qh hf';have nE:=qh hat';clear hown' hf' hat';obtain⟨g9,c9,rfl⟩:=Iu HOWN'.o)
      have L4:=qh (dW.o.push (A:=A7) (W:=L) (c:=c7) (n:=nn) HR2.o (fun x hx e=>by
       obtain⟨_,a,rfl,rfl⟩:=hx;exact HS7.o _ rfl (.inl e)) (fun x hx=>by obtain⟨_,a,rfl,rfl⟩:=hx;exact ZR.o _ rfl) HOWN'.o gX.o nE.o)
      have jO:=qh (HB2.o.trans (gX.o.own dW.o.own HB2.o.size));have hol:(o++[((nn:Int),L,[])]).length=o.length+1:=by simp
      have J6:=qh (show∀b∈o++[((nn:Int),L,[])],b.2.2.length≤k*6 from fun b hb=>by
       rcases List.mem_append.1 hb with hb|hb
       ·exact HST.o b hb
       ·rw[List.mem_singleton.1 hb]
        exact Nat.zero_le _)
      have hag:¬(Value.slice A4 o.length c4).ownBlock=some ga:=fun e=>by
       have:=(dW.o.own.lt ga e).1;omega
      have ML:ga<w2.heap.size:=World.block_lt_of_cell? w2 _ q0;replace q0:=(gX.o.cells (g:=ga) ML hag _).trans q0;replace q1:=(gX.o.cells (g:=ga) ML hag _).trans q1;replace q2:=(gX.o.cells (g:=ga) ML hag _).trans q2;replace q3:=(gX.o.cells (g:=ga) ML hag _).trans q3;replace q4:=(gX.o.cells (g:=ga) ML hag _).trans q4;replace q5:=(gX.o.cells (g:=ga) ML hag _).trans q5;obtain⟨d1,hd1⟩:=qx (d.push o.length A7 c7);obtain⟨o1,ho1⟩:=qx (o++[((nn:Int),L,[])]);have kW:=qh (show iZ w.heap.size (.slice (some ⟨g9,0,none⟩) o1.length c9) o1 d1 w' from by rw[hd1,ho1,hol];exact L4.o);rw[←ho1]at aO J6 hol;have hlo1':1≤o1.length:=qo;have hlo60':o1.length≤60:=qo;clear ML hag hd1 ho1 L4 HOWN' gX nE dW HB2 HR2 HS7 hlo1 UY
      rename World=>wy
      have HT1:=qh (show j8 z (k+1)=some (dV o1 (pF z k))by rw[FH.o,aO.o];rfl);obtain⟨q,hqo⟩:=qx (o.length);have hq:o1.length=q+1:=qo;rw[←hqo];clear hqo;obtain⟨b,hb⟩:∃b,o1[q]?=some b:=⟨_,List.getElem?_eq_getElem qo⟩;have jA:=qh (show o1.getLast?=some b by rw[List.getLast?_eq_getElem?,hq];exact hb);obtain⟨g5,c5,hv5,hg5,CY⟩:=kW.o.form qo;injection hv5 with hv5 hv6 oM;clear hv6;injection hv5 with hv5;injection hv5 with hv5 hv7 hv8;clear hv7 hv8;have Lf:=hv5.symm;clear hv5;subst Lf oM;obtain⟨_,_,m2⟩:=DX kW.o hb;have b4:(0:Int)≤(q:Int):=qo;have b5:(q:Int)<((q+1:Nat):Int):=qo;have e7:((q+1:Nat):Int)-1=(q:Int):=qo;have rX:ga<wy.heap.size:=World.block_lt_of_cell? wy _ q0;refine cN (S:=fun w'=>w'.cell? ⟨g5,q*3+2,none⟩=some (.slice (d1.S q) (d1.m q) (d1.cs q))∧w'.cell? ⟨ga,off+k*6,none⟩=some (.int .i64 z0)∧w'.cell? ⟨ga,off+k*6+1,none⟩=some (.int .i64 z1)∧w'.cell? ⟨ga,off+k*6+2,none⟩=some (.int .i64 z2)∧w'.cell? ⟨ga,off+k*6+3,none⟩=some (.int .i64 z3)∧w'.cell? ⟨ga,off+k*6+4,none⟩=some (.int .i64 z4)∧w'.cell? ⟨ga,off+k*6+5,none⟩=some (.int .i64 z5)) _ qj qk qk ⟨m2,q0,q1,q2,q3,q4,q5⟩ (fun hHeld=>?_)
      simp only[List.dropLast,List.getLast_cons_cons,List.getLast_singleton,List.length_cons,List.length_nil]
      refine qt 0 hHeld ?_;refine qt 1 hHeld ?_;refine qt 2 hHeld ?_;refine qt 3 hHeld ?_;refine qt 4 hHeld ?_;refine qt 5 hHeld ?_;refine qt 6 hHeld ?_;refine qt 7 hHeld ?_;refine qt 8 hHeld ?_
      simp only[List.getElem_toArray,List.getElem_cons_succ,List.getElem_cons_zero,Act.put,List.setIfInBounds_toArray,List.set_cons_zero,List.set_cons_succ]
      refine wpAnyH_ready (rs:=[9]) qk qj ?_;refine AllReadyH.cons rfl (fun K hK=>?_) AllReadyH.nil
      simp only[List.getElem_toArray,List.getElem_cons_succ,List.getElem_cons_zero]
      go_simp
      refine hK.out _ _ (by go_keep) (fun fY=>?_);clear hK K hHeld;refine wpAnyH_ready (rs:=[10]) qk qj ?_;refine AllReadyH.cons rfl (fun K hK=>?_) AllReadyH.nil
      simp only[List.getElem_toArray,List.getElem_cons_succ,List.getElem_cons_zero]
      have hlo1:=kW.o.lo b jA.o;have hq2:o1.length-1=q:=qo;have hlv:gD o1.length d1=.slice (d1.S q) (d1.m q) (d1.cs q):=by unfold gD;rw[hq2]
      rw[hlv,hq2]at hlo1;have Yj:d1.m q≤3000:=by
       have h1:=kW.o.ln q b hb;have h2:=J6.o b (List.mem_of_getElem? hb);omega
      refine pT wy.drew (by rfl) (.tmp 82) (.tmp 87) _ (by rfl) w.heap.size 91 k0 _ 6 48 Tryz.underlying49 hk0 kz ks kb rfl qo (.slice (d1.S q) (d1.m q) (d1.cs q)) (d1.m q) (ints b.2.2) (by rfl) hlo1 _ 1 1 [.int .i64 z0,.int .i64 z1,.int .i64 z2,.int .i64 z3,.int .i64 z4,.int .i64 z5] (by rfl) rfl (by simp[Value.oneCell']) qm qo jO.o.size ?_;intro v8 w8 gE bL iA;obtain⟨A8,c8,rfl⟩:=aF gE;have hl5:¬(Value.slice (d1.S q) (d1.m q) (d1.cs q)).ownBlock=some g5:=fun e=>kW.o.lv g5 rfl (by rw[hlv];exact e);have rW:¬(Value.slice (d1.S q) (d1.m q) (d1.cs q)).ownBlock=some ga:=fun e=>by
       have:=(hlo1.lt ga e).1;omega
      have u2:=(bL.cells (g:=g5) CY hl5 (q*3+2)).trans m2;have v0:=(bL.cells (g:=ga) rX rW (off+k*6)).trans q0;have v1:=(bL.cells (g:=ga) rX rW (off+k*6+1)).trans q1;have v2:=(bL.cells (g:=ga) rX rW (off+k*6+2)).trans q2;have v3:=(bL.cells (g:=ga) rX rW (off+k*6+3)).trans q3;have v4:=(bL.cells (g:=ga) rX rW (off+k*6+4)).trans q4;have v5:=(bL.cells (g:=ga) rX rW (off+k*6+5)).trans q5;have f5:w8.frozen? ⟨g5,q*3+2,none⟩=false:=(World.frozen?_of_block (w:=wy.drew) (a:=⟨g5,q*3+2,none⟩) (bL.block g5 CY hl5)).trans (kW.o.own.frozenAt (q*3+2));refine hK.out _ _ ⟨u2,v0,v1,v2,v3,v4,v5⟩ (fun bU=>?_);clear hK K fY;have mF:=qh ((kW.o.drewN 1).add jA.o (A':=A8) (c':=c8) (s:=[z0,z1,z2,z3,z4,z5]) rfl (by rw[hq2];exact gE) (by rw[hlv];exact bL) (by rw[hlv,hq2];exact iA));rw[hq2]at mF;have tR:=qh (Below.setCell (p:=⟨g5,q*3+2,none⟩) (jO.o.drew.trans (bL.own (w:=wy.drew) hlo1 jO.o.size)) hg5 (.slice A8 (d1.m q+1) c8));refine qt 11 bU ?_;refine qt 12 bU ?_
      simp only[List.getElem_toArray,List.getElem_cons_succ,List.getElem_cons_zero,Act.put,List.setIfInBounds_toArray,List.set_cons_zero,List.set_cons_succ]
      refine wpAnyH_done qk ?_ _;refine d8.of ?_
      go_simp
      have mX:ga≠g5:=qo;have x0:(w8.setCell ⟨g5,q*3+2,none⟩ (.slice A8 (d1.m q+1) c8)).cell? ⟨ga,off+k*6,none⟩=some (.int .i64 z0):=(World.cell?_of_block (Below.heap_setCell w8 _ _ ga mX)).trans v0;have x1:(w8.setCell ⟨g5,q*3+2,none⟩ (.slice A8 (d1.m q+1) c8)).cell? ⟨ga,off+k*6+1,none⟩=some (.int .i64 z1):=(World.cell?_of_block (Below.heap_setCell w8 _ _ ga mX)).trans v1;have x2:(w8.setCell ⟨g5,q*3+2,none⟩ (.slice A8 (d1.m q+1) c8)).cell? ⟨ga,off+k*6+2,none⟩=some (.int .i64 z2):=(World.cell?_of_block (Below.heap_setCell w8 _ _ ga mX)).trans v2;have x3:(w8.setCell ⟨g5,q*3+2,none⟩ (.slice A8 (d1.m q+1) c8)).cell? ⟨ga,off+k*6+3,none⟩=some (.int .i64 z3):=(World.cell?_of_block (Below.heap_setCell w8 _ _ ga mX)).trans v3;have x4:(w8.setCell ⟨g5,q*3+2,none⟩ (.slice A8 (d1.m q+1) c8)).cell? ⟨ga,off+k*6+4,none⟩=some (.int .i64 z4):=(World.cell?_of_block (Below.heap_setCell w8 _ _ ga mX)).trans v4;have x5:(w8.setCell ⟨g5,q*3+2,none⟩ (.slice A8 (d1.m q+1) c8)).cell? ⟨ga,off+k*6+5,none⟩=some (.int .i64 z5):=(World.cell?_of_block (Below.heap_setCell w8 _ _ ga mX)).trans v5;clear bU v0 v1 v2 v3 v4 v5 u2 f5 bL gE iA hlo1 m2 q0 q1 q2 q3 q4 q5;obtain⟨w9,BZ⟩:=qx (w8.setCell ⟨g5,q*3+2,none⟩ (.slice A8 (d1.m q+1) c8));rw[←BZ]at mF tR x0 x1 x2 x3 x4 x5 ⊢;clear BZ;have hz2:=Eu oT.o.1;have TW:=qh (CC z0 z1 z2 z3 z4 z5 nn w9 qo qo)
      go_wp2_with fail
      refine TW.o.mono ?_;rintro e w10 ⟨rfl,zU⟩;have PT:=qh (mF.o.below zU);have dX:=tR.st zU;clear zU
      go_wp2_with fail
      go_roundw
      case rel=>exact⟨k+1,dV o1 (pF z k),d1.add q A8 c8,some ⟨g5,0,none⟩,c9,bD z0 z2 nn,by omega,qg,by rw[cA,hq],rfl,qh (fun _=>⟨HT1.o,oT.o.2.1.symm,by rw[RC.o];exact World.ownsRow_nil _ _ _ _,fun x hx=>by cases hx⟩),qh (fun h=>by omega),qh (by rw[cA,L8.o];exact PT.o),by rw[cA];omega,by rw[cA];omega,dX⟩
      case measure=>exact qs
  ·obtain rfl:N=k:=qo
   have xF:=qh (show iI z N=(flush (fZ z N) (kZ z N) o).bind fun o=>if o.length≤60 then some o else none from by unfold iI;rw[HT.o];rfl);obtain⟨n,hn⟩:=qx (fZ z N);obtain⟨L,hL⟩:=qx (kZ z N);obtain⟨R,hR⟩:=qx (DD z N);rw[←hn]at E9 wV xF ⊢;rw[←hL]at xF wV J0;rw[←hR]at qE hwl YP J0;clear hn hL hR;have hcn:=E9.o;have b2:¬(N:Int)<(N:Int):=qo;obtain⟨A6,c6,rfl⟩:=aF qE.o;have iJ:=qh (KH R A6 c6 wr (iD qE.o) qo YP.o);rw[J0.o]at iJ
   go_wp2_with fail
   refine iJ.o.mono ?_;rintro e w1 h1;obtain⟨A7,c7,rfl,IC,tI,bQ⟩:=h1.rd;have aS:=HB.st bQ;have TR:=qh (HM.o.below bQ);have l8:=qh tI;have HS7:=qh (show∀x,(Value.slice A7 L.length c7).ownBlock=some x→¬CD (.slice A4 o.length c4) o d x from fun x hx hi=>by
    have h1:=(IC.lt x hx).1;have h2:=BA.o x hi;omega)
   have ZR:=qh (show∀x,(Value.slice A7 L.length c7).ownBlock=some x→w.heap.size≤x from fun x hx=>Nat.le_trans HB.o.size (IC.lt x hx).1);have hLl:L.length≤R.length:=by have:=G.sM R;rw[J0.o]at this;exact this
   clear h1 IC tI bQ iJ HM qE HB E0
   by_cases hlen:40<L.length
   ·have kK:=qh (show iI z N=none from by rw[xF.o];unfold flush;rw[if_pos hlen];rfl)
    exact zQ37x4
   have hl2:¬(40:Int)<(L.length:Int):=qo;obtain⟨nn,rfl⟩:∃nn:Nat,n=nn:=⟨n.toNat,(Int.toNat_of_nonneg E9.o.1).symm⟩
   by_cases hL0:L.length=0
   ·have ht:triv nn L=true:=by rw[List.length_eq_zero_iff.1 hL0];exact V9 nn
    have b7:¬(0:Int)<(L.length:Int):=qo;have aO:=qh (show flush nn L o=some o by unfold flush;rw[if_neg hlen];exact if_pos ht);have kK:=qh (show iI z N=some o from by rw[xF.o,aO.o,Option.bind_some];exact if_pos qo)
    go_wp2_with fail
    go_roundw
    case rel=>exact⟨N+1,o,d,A4,c4,nn,by omega,qg,rfl,rfl,qh (fun h=>by omega),qh (fun _=>kK.o),TR,hlo1,UY,aS⟩
    case measure=>exact qs
   have J1:=qh (show Calls Tryz.prog 77 #[.int .i64 nn,.slice A7 L.length c7,.slice none 0 0] w1 _ from vH (n:=nn) L [] A7 none c7 0 w1 l8.o (fun h0=>absurd h0 (Nat.lt_irrefl 0)) qo wV.o (fun x hx=>by cases hx) qo qj);have b7:(0:Int)<(L.length:Int):=qo
   go_wp2_with fail
   refine J1.o.mono ?_;rintro e w2 ⟨rfl,hb2⟩;rw[BO];have HB2:=aS.st hb2;have dW:=qh (TR.o.below hb2);have HR2:=qh (Rd.below l8.o hb2);clear hb2 J1 aS TR l8
   by_cases ht:triv nn L=true
   ·rw[ht]
    have aO:=qh (show flush nn L o=some o by unfold flush;rw[if_neg hlen];exact if_pos ht);have kK:=qh (show iI z N=some o from by rw[xF.o,aO.o,Option.bind_some];exact if_pos qo)
    go_wp2_with fail
    go_roundw
    case rel=>exact⟨N+1,o,d,A4,c4,nn,by omega,qg,rfl,rfl,qh (fun h=>by omega),qh (fun _=>kK.o),dW,hlo1,UY,HB2⟩
    case measure=>exact qs
   ·rw[Bool.not_eq_true]at ht
    rw[ht];have OG:¬triv nn L=true:=by rw[ht];exact Bool.false_ne_true
    have aO:=qh (show flush nn L o=some (o++[((nn:Int),L,[])])by unfold flush;rw[if_neg hlen];exact if_neg OG)
    by_cases h60:o.length=60
    ·have kK:=qh (show iI z N=none from by rw[xF.o,aO.o,Option.bind_some];exact if_neg (by simp;omega))
     exact zQ37x3
    ·have h61:((o.length:Int)==60)=false:=by rw[beq_eq_false_iff_ne];omega
     have h62:¬(o.length:Int)=60:=qo;have kK:=qh (show iI z N=some (o++[((nn:Int),L,[])])from by rw[xF.o,aO.o,Option.bind_some];exact if_pos (by simp;omega))
     go_wp2_with (at_builtin;go_must (refine mS w2 rfl (.tmp 62) (.tmp 67) _ rfl w.heap.size 113 j0 _ 3 56 Tryz.underlying68 hj0 jz js jb rfl qo (.slice A4 o.length c4) o.length _ rfl dW.o.own _ 1 1 [.int .i64 nn,.slice A7 L.length c7,.slice none 0 0] w2.heap.size rfl rfl rfl (by simp[Value.oneCell']) qm qo HB2.o.size ?_);intro v' w' hown' hf' hat';have HOWN':=qh hown';have gX:=qh hf';have nE:=qh hat';clear hown' hf' hat';obtain⟨A9,c9,rfl⟩:=aF HOWN'.o)
     have L4:=qh (dW.o.push (A:=A7) (W:=L) (c:=c7) (n:=nn) HR2.o (fun x hx e=>by
      obtain⟨_,a,rfl,rfl⟩:=hx;exact HS7.o _ rfl (.inl e)) (fun x hx=>by obtain⟨_,a,rfl,rfl⟩:=hx;exact ZR.o _ rfl) HOWN'.o gX.o nE.o)
     have jO:=qh (HB2.o.trans (gX.o.own dW.o.own HB2.o.size));have hol:(o++[((nn:Int),L,[])]).length=o.length+1:=by simp
     go_roundw
     case rel=>exact⟨N+1,o++[((nn:Int),L,[])],d.push o.length A7 c7,A9,c9,nn,by omega,qg,by rw[hol],rfl,qh (fun h=>by omega),qh (fun _=>kK.o),qh (by rw[hol];exact L4.o),by omega,by omega,jO⟩
     case measure=>exact qs
theorem acP {z:Nat→Int}{n:Nat}(h:(R5 z n).isSome=true):n≤2000∧(cnt z 0 n).isSome=true:=by
 unfold R5 at h
 split at h
 ·exact⟨‹_›,h⟩
 ·cases h
def CO (w:World)(v:Value)(o:List aV):Prop:=Oe w v o∧∀b∈o,JK b
theorem CO.below {w w':World}{v:Value}{o:List aV}(h:CO w v o)(hb:Below w.heap.size w w'):CO w' v o:=⟨h.1.below hb,h.2⟩
theorem iZ.goK {z:Nat→Int}{N:Nat}(hv:(cnt z 0 N).isSome=true)(hN:N≤2000){o:List aV}(h:iI z N=some o){B:Nat}{A:Option Addr}{c:Nat}{d:eK}{w:World}(hm:iZ B (.slice A o.length c) o d w):CO w (.slice A o.length c) o:=⟨hm.rdK hv hN h,fun b hb=>((Zc hv h).1 b hb).1⟩
theorem WO {s:aI}{y y':Nat→Int}{j j':Nat}(h:∀t,t<8→y (j*8+t)=y' (j'*8+t)):kC s y j=kC s y' j':=by
 have h0:=h 0 qo;rw[Nat.add_zero,Nat.add_zero]at h0;unfold kC;rw[h0,h 1 qo,h 2 qo,h 3 qo,h 4 qo,h 5 qo,h 6 qo]
theorem WN {s:aI}{y y':Nat→Int}{j j':Nat}(h:∀t,t<8→y (j*8+t)=y' (j'*8+t)):kS s y j=kS s y' j':=by
 have h0:=h 0 qo;rw[Nat.add_zero,Nat.add_zero]at h0;unfold kS;rw[h0,h 1 qo,h 2 qo,h 3 qo,h 4 qo,h 5 qo,h 6 qo,h 7 qo]
theorem SK {W:Nat}{y y':Nat→Int}:∀i,(∀t,t<i*8→y t=y' t)→bB W y i=bB W y' i
 |0,_=>rfl
 |i+1,h=>by
  show kS (bB W y i) y i=kS (bB W y' i) y' i;rw[SK i fun t ht=>h t qo];exact WN fun t ht=>h _ qo
abbrev nl (L:List Int)(t:Nat):Int:=L.getD t 0
def YM (W:Nat)(p:aI×List Int):Prop:=∃k,p.2.length=8*k∧(∀i,i<k→dR W (nl p.2) i=true)∧mV W (nl p.2) k∧bB W (nl p.2) k=p.1
theorem EO {L M:List Int}{t:Nat}(h:t<L.length):nl (L++M) t=nl L t:=by
 simp only[nl,List.getD_eq_getElem?_getD]
 rw[List.getElem?_append_left h]
theorem ab8 {L:List Int}{k:Nat}(hl:L.length=8*k)(y:Nat→Int)(j t:Nat)(ht:t<8):nl (L++qA y j) (k*8+t)=y (j*8+t):=by
 simp only[nl,List.getD_eq_getElem?_getD]
 rw[List.getElem?_append_right qo,show k*8+t-L.length=t by omega];have h8:t=0∨t=1∨t=2∨t=3∨t=4∨t=5∨t=6∨t=7:=qo
 rcases h8 with rfl|rfl|rfl|rfl|rfl|rfl|rfl|rfl<;>rfl
theorem RW {W:Nat}{p:aI×List Int}{y:Nat→Int}{j:Nat}(h:YM W p)(ho:dR W y j=true):YM W (eT p y j):=by
 unfold eT
 split
 ·rename_i hc
  obtain⟨k,hl,h1,h2,h3⟩:=h;have hf:∀t,t<k*8→nl (p.2++qA y j) t=nl p.2 t:=fun t ht=>EO qo;have hs:∀i,i≤k→bB W (nl (p.2++qA y j)) i=bB W (nl p.2) i:=fun i hi=>SK i fun t ht=>hf t qo;have hb:∀t,t<8→nl (p.2++qA y j) (k*8+t)=y (j*8+t):=fun t ht=>ab8 hl y j t ht;refine⟨k+1,by simp[qA,hl];omega,fun i hi=>?_,fun i hi=>?_,?_⟩
  ·by_cases hik:i=k
   ·subst hik
    exact tV ho hb
   ·exact tV (h1 i qo) fun t ht=>hf _ qo
  ·by_cases hik:i=k
   ·subst hik
    show kC (bB W (nl (p.2++qA y j)) i) _ i=0;rw[hs i ql,h3,WO hb];exact hc
   ·show kC (bB W (nl (p.2++qA y j)) i) _ i=0
    rw[hs i qo,WO (fun t ht=>hf (i*8+t) qo)];exact h2 i qo
  ·show kS (bB W (nl (p.2++qA y j)) k) _ k=_
   rw[hs k ql,h3,WN hb]
 ·exact h
theorem VN {W:Nat}{p:aI×List Int}{y:Nat→Int}(h:YM W p):∀K,(∀j,j<K→dR W y j=true)→YM W (dQ y p K)
 |0,_=>h
 |K+1,hp=>RW (VN h K fun j hj=>hp j qo) (hp K qo)
theorem VO {W:Nat}{z:Nat→Int}{f:Int}{At:Nat}(h1:1≤W):∀i,(∀j,j<i→dR W z j=true)→(At<i→fN f (z (At*8))=true)→YM W (eU W z f At i)
 |0,_,_=>⟨0,rfl,fun i hi=>absurd hi (Nat.not_lt_zero _),fun i hi=>absurd hi (Nat.not_lt_zero _),rfl⟩
 |i+1,hp,hc=>by
  have h:=VO (f:=f) (At:=At) h1 i (fun j hj=>hp j qo) fun hi=>hc qo;unfold eU
  by_cases hi:i=At
  ·rw[if_pos hi]
   exact VN h _ fun j hj=>OB h1 (hp i qo) (by rw[hi];exact hc qo) hj
  ·rw[if_neg hi]
   exact RW h (hp i qo)
theorem aav {W:Nat}{z:Nat→Int}(m:Nat):∀i,(∀j,i≤j→j<i+m→kC (bB W z j) z j=0)→mT W z i m=0∨mT W z i m=5:=by
 induction m with
 |zero=>intro i _;exact .inl rfl
 |succ m ih=>
  intro i h
  simp only[mT]
  rw[if_neg (fun e=>e (h i ql qo))]
  split
  ·exact .inr rfl
  ·exact ih (i+1) fun j h1 h2=>h j qo qo
theorem VB {W:Nat}{z:Nat→Int}{n:Nat}(h:mV W z n):mT W z 0 n=0∨mT W z 0 n=5:=aav n 0 fun j _ hj=>h j qo
def KB (W:Nat)(z:Nat→Int)(n:Nat):Nat:=(nF W z n).length/6
theorem VA {W:Nat}{z:Nat→Int}{n:Nat}(h1:1≤W)(h2:W≤24)(hops:∀i,i<n→dR W z i=true)(h0:mT W z 0 n=0):(cnt (nl (nF W z n)) 0 (KB W z n)).isSome=true:=by
 have hE:=afq h1 h2 n hops (aat h0);have hL:nF W z n=wA W z n:=if_pos h0;obtain⟨a,ha⟩:=adt hE;have hN:KB W z n=a:=by unfold KB;rw[hL,ha];omega
 rw[hN,hL];have:=adx hE ha;show(cnt (T.evs (wA W z n)) 0 a).isSome=true;rw[this]
 rfl
noncomputable def lE (W:Nat)(z:Nat→Int)(n:Nat):Option (List aV):=if mT W z 0 n=0 then iI (nl (nF W z n)) (KB W z n)else none
def yB (W:Nat)(z:Nat→Int)(n:Nat)(f:Int)(At:Nat):List Int:=(eU W z f At n).2
def KR (W:Nat)(z:Nat→Int)(n:Nat)(f:Int)(At:Nat):Nat:=(yB W z n f At).length/8
noncomputable def lD (W:Nat)(z:Nat→Int)(n:Nat)(f:Int)(At:Nat):Option (List aV):=if KR W z n f At≤1500 then lE W (nl (yB W z n f At)) (KR W z n f At)else none
theorem Yt {W:Nat}{z:Nat→Int}{n:Nat}{f:Int}{At:Nat}(h1:1≤W)(hops:∀i,i<n→dR W z i=true)(hAt:At<n)(hc:fN f (z (At*8))=true):
 (yB W z n f At).length=8*KR W z n f At∧(∀i,i<KR W z n f At→dR W (nl (yB W z n f At)) i=true)∧mV W (nl (yB W z n f At)) (KR W z n f At):=by
 obtain⟨k,hl,a,b,_⟩:=VO (f:=f) (At:=At) h1 n hops fun _=>hc;have hk:KR W z n f At=k:=by unfold KR yB;rw[hl];omega
 rw[hk];exact⟨hl,a,b⟩
theorem abk {z:Nat→Int}{n:Nat}{o:List aV}(h:iI z n=some o):0<o.length:=by
 unfold iI at h
 cases hk:j8 z n with
 |none=>rw[hk]at h;cases h
 |some o1=>
  rw[hk]at h;have h1:=(yw hk).1
  cases hf:flush (fZ z n) (kZ z n) o1 with
  |none=>
   rw[Option.bind_some,hf]at h
   cases h
  |some o2=>
   rw[Option.bind_some,hf,Option.bind_some]at h;have h2:=(C7 hf).1
   split at h
   ·injection h with h
    rw[←h];omega
   ·cases h
noncomputable def kR (L M:List aV):Int×Int:=
 if cZ L M 0<0 then(0,-1)else if(L.length:Int)≤cZ L M 0∨(M.length:Int)≤cZ L M 0∨(L.getD (cZ L M 0).toNat (0,[],[])).2.2≠(M.getD (cZ L M 0).toNat (0,[],[])).2.2 then(2,cZ L M 0)else(1,cZ L M 0)
def EB (B T:Nat)(v:Value)(o:List aV)(w:World):Prop:=∀w':World,w.heap.size≤w'.heap.size→(∀b,B≤b→b<T→w'.heap[b]?=w.heap[b]?)→CO w' v o
theorem EB.goK {B T:Nat}{v:Value}{o:List aV}{w:World}(h:EB B T v o w):CO w v o:=h w ql fun _ _ _=>rfl
theorem EB.keep {B T:Nat}{v:Value}{o:List aV}{w w':World}(h:EB B T v o w)(hs:w.heap.size≤w'.heap.size)(hk:∀b,B≤b→b<T→w'.heap[b]?=w.heap[b]?):EB B T v o w':=
 fun w2 h1 h2=>h w2 (Nat.le_trans hs h1) fun b hb ht=>(h2 b hb ht).trans (hk b hb ht)
theorem EB.below {B T:Nat}{v:Value}{o:List aV}{w w':World}(h:EB B T v o w)(hb:Below T w w'):EB B T v o w':=h.keep hb.size fun b _ h2=>hb.block b h2
theorem EB.less {B B' T:Nat}{v:Value}{o:List aV}{w:World}(h:EB B T v o w)(hB:B'≤B):EB B' T v o w:=fun w2 h1 h2=>h w2 h1 fun b hb ht=>h2 b (Nat.le_trans hB hb) ht
def JI (w:World)(r:Option (List aV))(e:Ending)(w':World):Prop:=Below w.heap.size w w'∧match r with
 |none=>e=.returned (.tuple #[.slice none 0 0,.int .i64 5])
 |some o=>∃A c,e=.returned (.tuple #[.slice A o.length c,.int .i64 0])∧EB w.heap.size w'.heap.size (.slice A o.length c) o w'
theorem JI.of {w w0 w':World}{z:Nat→Int}{N:Nat}(hv:(cnt z 0 N).isSome=true)(hN:N≤2000)(hb:Below w.heap.size w w0){e:Ending}(h:Vu w0 (iI z N) e w'):JI w (iI z N) e w':=by
 refine⟨hb.trans (h.1.mono hb.size),?_⟩;have h2:=h.2
 cases hF:iI z N with
 |none=>rw[hF]at h2;exact h2
 |some o=>
  rw[hF]at h2;obtain⟨A,c,d,he,hm⟩:=h2;refine⟨A,c,he,fun w2 h1 h2=>?_⟩;have h0:0<o.length:=abk hF;refine iZ.goK hv hN hF (hm.keep h0 fun x hx=>h2 x (Nat.le_trans hb.size (hm.ahy h0 hx)) (hm.zM h0 hx))
theorem KA {p:aI×List Int}{y y':Nat→Int}{j j':Nat}(h:∀t,t<8→y (j*8+t)=y' (j'*8+t)):eT p y j=eT p y' j':=by
 have h0:=h 0 qo;rw[Nat.add_zero,Nat.add_zero]at h0;have e1:kC p.1 y j=kC p.1 y' j':=by unfold kC;rw[h0,h 1 qo,h 2 qo,h 3 qo,h 4 qo,h 5 qo,h 6 qo]
 have e2:kS p.1 y j=kS p.1 y' j':=by unfold kS;rw[h0,h 1 qo,h 2 qo,h 3 qo,h 4 qo,h 5 qo,h 6 qo,h 7 qo]
 have e3:qA y j=qA y' j':=by unfold qA;rw[h0,h 1 qo,h 2 qo,h 3 qo,h 4 qo,h 5 qo,h 6 qo,h 7 qo]
 unfold eT;rw[e1,e2,e3]
theorem NB {p:aI×List Int}{y y':Nat→Int}:∀K,(∀t,t<K*8→y t=y' t)→dQ y p K=dQ y' p K
 |0,_=>rfl
 |K+1,h=>by
  show eT (dQ y p K) y K=eT (dQ y' p K) y' K;rw[NB K fun t ht=>h t qo];exact KA fun t ht=>h _ qo
def NL (s:aI)(z:Nat→Int)(At:Nat)(f:Int)(R:Nat):List Int:=(List.range (fM s z At f*8)).map (fT s z At f)++(List.range (R*8)).map (fun t=>z ((At+1)*8+t))
def EJ (s:aI)(z:Nat→Int)(At:Nat)(f:Int)(R:Nat)(t:Nat):Int:=(NL s z At f R).getD t 0
theorem KG {s:aI}{z:Nat→Int}{At:Nat}{f:Int}{R t:Nat}(ht:t<fM s z At f*8):EJ s z At f R t=fT s z At f t:=by
 unfold EJ NL;rw[List.getD_eq_getElem?_getD,List.getElem?_append_left (by simpa using ht),List.getElem?_map,List.getElem?_range ht]
 rfl
theorem NK {s:aI}{z:Nat→Int}{At:Nat}{f:Int}{R t:Nat}(ht:t<R*8):EJ s z At f R (fM s z At f*8+t)=z ((At+1)*8+t):=by
 unfold EJ NL;rw[List.getD_eq_getElem?_getD,List.getElem?_append_right qj,List.length_map,List.length_range,Nat.add_sub_cancel_left,List.getElem?_map,List.getElem?_range ht]
 rfl
theorem aay {W:Nat}{s:aI}{z:Nat→Int}{At n j:Nat}{f:Int}(hW:1≤W)(hops:∀i,i<n→dR W z i=true)(hAt:At<n)(hc:fN f (z (At*8))=true)(hj:j<fM s z At f+(n-(At+1))):dR W (EJ s z At f (n-(At+1))) j=true:=by
 by_cases hjk:j<fM s z At f
 ·have h:=OB (s:=s) hW (hops At hAt) hc hjk
  exact tV h fun t ht=>KG qo
 ·refine tV (hops (At+1+(j-fM s z At f)) qo) fun t ht=>?_
  have h:=NK (s:=s) (z:=z) (At:=At) (f:=f) (R:=n-(At+1)) (t:=(j-fM s z At f)*8+t) qo;rw[show j*8+t=fM s z At f*8+((j-fM s z At f)*8+t)by omega,h]
  congr 1
  omega
theorem VR {W:Nat}{z:Nat→Int}{At n:Nat}{f:Int}(hAt:At<n):∀r,r≤n-(At+1)→dQ (EJ (eU W z f At At).1 z At f (n-(At+1))) (eU W z f At At) (fM (eU W z f At At).1 z At f+r)=eU W z f At (At+1+r)
 |0,_=>by
  show dQ _ _ (fM (eU W z f At At).1 z At f)=(if At=At then dQ (fT (eU W z f At At).1 z At f) (eU W z f At At) (fM (eU W z f At At).1 z At f)else eT (eU W z f At At) z At);rw[if_pos rfl];exact NB _ fun t ht=>KG ht
 |r+1,hr=>by
  show eT (dQ _ _ (fM (eU W z f At At).1 z At f+r)) _ (fM (eU W z f At At).1 z At f+r)=(if At+1+r=At then _ else eT (eU W z f At (At+1+r)) z (At+1+r));rw[if_neg qo,VR hAt r qo];refine KA fun t ht=>?_;have h:=NK (s:=(eU W z f At At).1) (z:=z) (At:=At) (f:=f) (R:=n-(At+1)) (t:=r*8+t) qo;rw[show(fM (eU W z f At At).1 z At f+r)*8+t=fM (eU W z f At At).1 z At f*8+(r*8+t)by omega,h]
  congr 1
  omega
theorem NP (y:Nat→Int):∀n,(List.range (n*8)).map y=opsL y n
 |0=>rfl
 |n+1=>by
  rw[show(n+1)*8=n*8+1+1+1+1+1+1+1+1 by omega]
  simp only[List.range_succ,List.map_append,List.map_cons,List.map_nil,NP y n,List.append_assoc,List.cons_append,List.nil_append]
  rfl
section
variable (W:Nat)(A:OA)(n q:Nat)(z:Nat→Int)(f x:Int)(w:World)
theorem UR (ha:Rd w A (n*8) (fun j=>.int .i64 (z j)))(hW1:1≤W)(hW2:W≤24)(hn:n≤1500)(hq:n≤q)(hops:∀i,i<n→dR W z i=true)(hok:mV W z n)(hc:codeOf (W:Int) z n=0):
 Calls Tryz.prog 69 #[.int .i64 W,.slice A n q,.agg #[.int .i64 f,.int .i64 x]] w (oU w W z n f x):=by
 obtain⟨i0,hi,iz,is,ib⟩:=info_parts wK;obtain⟨Wb,m7⟩:∃x',x'=w.alloc (.cells #[.int .i64 f,.int .i64 x] 30):=⟨_,rfl⟩;have HB0:Hq (Below w.heap.size w Wb):=qh (m7▸qb);have bA:Hq (aB Wb w.heap.size 30 #[.int .i64 f,.int .i64 x]):=qh (m7▸aB.at_ _ _ _ rfl);have iT:=qh m7;have HA:=qh (ha.below HB0.o);have HC:=qh hc;have dT:=qh hops;have iV:=qh hok;have HNQ:=qh hq;have hwn:IntKind.i64.wrap ((n:Int)-1)=(n:Int)-1:=by rw[IntKind.wrap_i64];omega
 clear ha m7 hc hops hok
 cases hin:aK x 0 ((n:Int)-1)
 ·have iK:=qh hin
  have HI:Hq (∀w',Calls Tryz.prog 37 #[.int .i64 x,.int .i64 0,.int .i64 ((n:Int)-1)] w' fun e w''=>e=.returned (.bool false)∧w''=w'):=qh fun w'=>(eB x 0 ((n:Int)-1) w').mono fun _ _ h=>⟨h.1.trans (by rw[iK.o]),h.2.symm⟩;have Z6:Hq (kQ n z f x=false):=qh (by unfold kQ;rw[hin];rfl);have b1:=(show _=some (Value.int .i64 x)from bA.o.cell 1);clear hin
  go_enter Tryz.func69,Tryz.ntmps69
  go_upto_region 1 with(fail)
  rw[←iT.o]
  go_quiet ((go_at_call 37;exact Calls.quiet_of_same (HI.o _)))
  go_wp2_with fail
  refine bodyPost_ret (v:=.tuple #[.slice none 0 0,.int .i64 3]) (by simp[results,Tryz.results69,go_sem]) rfl ?_;exact oU.no HC.o Z6.o rfl (Below.drewN' HB0.o _)
 ·have hx:=EX hin
  obtain⟨At,rfl⟩:=Int.eq_ofNat_of_zero_le hx.1;have hAt:At<n:=qo;have hAtI:(At:Int)<(n:Int):=qo;have hAt0:(0:Int)≤(At:Int):=qo;have HAT:=qh hAt;have iK:=qh hin;have HI:Hq (∀w',Calls Tryz.prog 37 #[.int .i64 At,.int .i64 0,.int .i64 ((n:Int)-1)] w' fun e w''=>e=.returned (.bool true)∧w''=w'):=qh fun w'=>(eB At 0 ((n:Int)-1) w').mono fun _ _ h=>⟨h.1.trans (by rw[iK.o]),h.2.symm⟩;have hop:=gC hW1 (dT.o At hAt);have pO:=qh (And.intro hop.k1 hop.k9);have B6:Hq (kQ n z f (At:Int)=fN f (z (At*8))):=qh (by unfold kQ;rw[hin,Int.toNat_natCast];rfl);clear hin hx hop;obtain⟨ga,o,hA',hga,hra⟩:=HA.o qo;subst hA';have hce:=lR hra hAt;obtain⟨k,hx0⟩:=qx (z (At*8));obtain⟨d,hx1⟩:=qx (z (At*8+1));obtain⟨fb,hx2⟩:=qx (z (At*8+2));obtain⟨fa,hx3⟩:=qx (z (At*8+3));obtain⟨tb,hx4⟩:=qx (z (At*8+4));obtain⟨ta,hx5⟩:=qx (z (At*8+5));obtain⟨c,hx6⟩:=qx (z (At*8+6));obtain⟨r,hx7⟩:=qx (z (At*8+7));rw[←hx0,←hx1,←hx2,←hx3,←hx4,←hx5,←hx6,←hx7]at hce;rw[←hx0]at pO B6;have HX:Hq (k=z (At*8)∧d=z (At*8+1)∧fb=z (At*8+2)∧fa=z (At*8+3)∧tb=z (At*8+4)∧ta=z (At*8+5)∧c=z (At*8+6)∧r=z (At*8+7)):=qh ⟨hx0,hx1,hx2,hx3,hx4,hx5,hx6,hx7⟩;have sE:=qh hce;have GI:Hq (ga<Wb.heap.size):=qh hga;have N2:=qh hra;have b0:=(show _=some (Value.int .i64 f)from bA.o.cell 0);have b1:=(show _=some (Value.int .i64 At)from bA.o.cell 1);have c0:=hce.c0;clear hx0 hx1 hx2 hx3 hx4 hx5 hx6 hx7 hce hga hra
  cases hcan:fN f k
  ·have pS:=qh hcan
   have HF:Hq (∀w',Calls Tryz.prog 38 #[.int .i64 f,.int .i64 k] w' fun e w''=>e=.returned (.bool false)∧w''=w'):=qh fun w'=>(qX f k w' pO.o.1 pO.o.2).mono fun _ _ h=>⟨h.1.trans (by rw[pS.o]),h.2.symm⟩;clear hcan hAt
   go_enter Tryz.func69,Tryz.ntmps69
   go_upto_region 1 with(fail)
   rw[←iT.o]
   go_quiet (first|(go_at_call 37;exact Calls.quiet_of_same (HI.o _))|(go_at_call 38;exact Calls.quiet_of_same (HF.o _)))
   go_wp2_with fail
   refine bodyPost_ret (v:=.tuple #[.slice none 0 0,.int .i64 3]) (by simp[results,Tryz.results69,go_sem]) rfl ?_;exact oU.no HC.o (B6.o.trans pS.o) rfl (Below.drewN' HB0.o _)
  ·have pS:=qh hcan
   have HF:Hq (∀w',Calls Tryz.prog 38 #[.int .i64 f,.int .i64 k] w' fun e w''=>e=.returned (.bool true)∧w''=w'):=qh fun w'=>(qX f k w' pO.o.1 pO.o.2).mono fun _ _ h=>⟨h.1.trans (by rw[pS.o]),h.2.symm⟩;clear hcan hAt
   go_enter Tryz.func69,Tryz.ntmps69
   go_upto_region 1 with(fail)
   rw[←iT.o]
   go_quiet (first|(go_at_call 37;exact Calls.quiet_of_same (HI.o _))|(go_at_call 38;exact Calls.quiet_of_same (HF.o _)))
   obtain⟨w1,hw1⟩:=qx (Wb.drewN nq);rw[←hw1];have HB1:Hq (Below Wb.heap.size Wb w1):=qh (hw1▸Below.drewN' (Below.refl _ _) nq);have hbx:=bA.o.below HB1.o bA.o.lt;clear b0 b1 c0 hw1;have b1:=(qc hbx 1 rfl);have hAq:At≤q:=by have:=HAT.o;have:=HNQ.o;omega
   have hAqI:(At:Int)≤(q:Int):=qo;clear hbx
   go_wp2_with fail
   refine(pz W (some ⟨ga,o,none⟩) At q z w1 (fun _=>⟨ga,o,rfl,Nat.lt_of_lt_of_le GI.o HB1.o.size,fun t ht=>(N2.o.below GI.o HB1.o) t (by have:=HAT.o;omega)⟩) hW1 hW2 (by have:=HAT.o;omega) fun i hi=>dT.o i (by have:=HAT.o;omega)).mono ?_;rintro e w2 ⟨ir,v,rfl,_,_,hrc,⟨iM,⟨g0,gf,cf,gk,ck,gc,cc,F0,K0,L0,D0⟩,rfl,hlo,gK,⟨⟨AL,nL,cL,hL⟩,⟨AD,nD,cD,hD⟩⟩,hmk⟩,hb2⟩;obtain rfl:L0=_:=hL;obtain rfl:D0=_:=hD;have Sg:xJ W z At=0:=QE fun i hi=>iV.o i (by have:=HAT.o;omega);obtain rfl:=hrc Sg;rw[Sg];obtain⟨gm,hgm⟩:=qx (w2.heap.size);have GH:Hq (w1.heap.size≤gm):=qh (by rw[hgm];exact hb2.size);obtain⟨s0,hs0⟩:=qx (bB W z ir);rw[←hs0]at hmk;obtain⟨Wm,KO⟩:=qx (w2.alloc (.cells (dM ⟨g0,gf,cf,gk,ck,gc,cc,F0,K0,.slice AL nL cL,.slice AD nD cD⟩ s0) 58));have OM:Below w2.heap.size w2 Wm:=KO▸qb;have H0:Hq (Runs w1 (eX iM gm) ⟨gm,gf,cf,gk,ck,gc,cc,F0,K0,.slice AL nL cL,.slice AD nD cD⟩ s0 Wm):=qh ⟨hmk gm Wm (by rw[hgm];exact Decidable.byContradiction fun hn=>Nat.lt_irrefl _ (gK _ hn)) (fun b hb=>OM.block b (gK b hb)) OM.size (KO▸aB.at_ _ _ _ hgm),
    hb2.trans (OM.mono hb2.size),fun q hq=>by
     unfold eX at hq
     split at hq
     ·have:=GH.o;omega
     ·exact hlo q hq⟩
   have Ot:=qh KO;have Vi:=qh hgm;have HS0:=qh hs0;have aif:Hq (mV W z ir):=qh fun i hi=>iV.o i (by have:=HAT.o;omega);have Pg:Hq (eU W z f ir ir=(s0,opsL z ir)):=qh (by rw[hs0];exact OR ir ql aif.o);clear hlo gK hmk hb2 KO hgm OM hrc Sg
   simp only[dM]at Ot ⊢
   rw[←hs0];clear hs0
   go_upto_region 4 with(fail)
   rw[←Ot.o,←Vi.o];have Gm:Hq (Below Wb.heap.size Wb Wm):=qh (HB1.o.trans (H0.o.b.mono HB1.o.size));have hbx:=bA.o.below Gm.o bA.o.lt;clear b1;have b1:=(qc hbx 1 rfl);clear hbx
   go_wp2_with fail
   refine(ni ga o ir q z Wm (fun _=>⟨ga,o,rfl,Nat.lt_of_lt_of_le GI.o Gm.o.size,fun t ht=>(N2.o.below GI.o Gm.o) t (by have:=HAT.o;omega)⟩) (by have:=HAT.o;omega)).mono ?_;rintro e w3 ⟨vo,rfl,C3,hb3⟩;obtain⟨Ao,co,rfl⟩:=aF C3;have HB3:=qh hb3;have Gl:Hq (Below Wb.heap.size Wb w3):=Gm.st hb3;have Zr:Hq (w3.ownsRow w1.heap.size 67 8 (.slice Ao ir co) ir (ints (opsL z ir))):=qh (by have h:=eF C3 H0.o.b.size;rwa[NP]at h);have aiB:Hq (∀b,(Value.slice Ao ir co).ownBlock=some b→Wm.heap.size≤b):=qh fun b hb=>(C3.lt b hb).1;have HR3:=qh (H0.o.below hb3);have DA:Hq (gI ga (o+ir*8) k d fb fa tb ta c r w3):=qh ((dA _ _ _ _ _ _ _ _ _ _).1 _ _ sE.o fun q hq=>by subst hq;exact Gl.o.block _ GI.o);have hbx:=bA.o.below Gl.o bA.o.lt;have d0:=(qc hbx 0 rfl);have d1:=(qc hbx 1 rfl);have c0:=DA.o.c0;have c1:=DA.o.c1;have c2:=DA.o.c2;have c3:w3.cell? ⟨ga,o+ir*8+3,none⟩=some (.int .i64 fa):=DA.o.c3;have c4:=DA.o.c4;have c5:w3.cell? ⟨ga,o+ir*8+5,none⟩=some (.int .i64 ta):=DA.o.c5;have c6:=DA.o.c6;have c7:=DA.o.c7;have D0:=qh d0;have D1:=qh d1;have hA1:IntKind.i64.wrap ((ir:Int)+1)=(ir:Int)+1:=by rw[IntKind.wrap_i64];omega
   have hA2:(ir:Int)+1≤(n:Int):=qo;have KP:(0:Int)≤(ir:Int)+1:=qo;have hA3:(n:Int)≤(q:Int):=by have:=HNQ.o;omega
   clear hbx b1 C3 hb3;have Lp:Mem (eX iM gm) ⟨gm,gf,cf,gk,ck,gc,cc,F0,K0,.slice AL nL cL,.slice AD nD cD⟩ s0 w3.drew:=HR3.o.m.same (fun _ _=>rfl) ql;have zO:s0.W=W:=by rw[HS0.o];exact BU W z ir
   have bK:=JZ (dT.o ir HAT.o);have F4:=ko (W:=W) (z:=z) (i:=ir) (f:=f) Lp zO hW1 (dT.o ir HAT.o) (by rw[←HX.o.1];exact pS.o) (fun h3=>bK (.inl (by
    have h:=pS.o;rw[HX.o.1,h3,Yy]at h
    simpa using h)))
   obtain⟨e0,e1,e2,e3,e4,e5,e6,e7⟩:=HX.o;rw[←e0,←e1,←e2,←e3,←e4,←e5,←e6,←e7]at F4;have RE:=qh F4;obtain⟨K,Yq⟩:=qx (fM s0 z ir f);rw[←Yq]at RE;have B8:=qh Yq;have tO:Hq (K≤2):=qh (by rw[Yq];exact JV _ _ _ _);have IZ:=qh zO;clear e0 e1 e2 e3 e4 e5 e6 e7 F4 Yq Lp zO bK;obtain⟨AR,hAR⟩:∃x:Option Addr,x=(if q=ir+1 then some ⟨ga,o,none⟩else some ⟨ga,o+(ir+1)*8,none⟩):=⟨_,rfl⟩;have ae4:=qh hAR;obtain⟨R,hR⟩:=qx (n-(ir+1));have PN:=qh hR;clear hAR hR
   go_wp2_with fail
   refine cN (S:=fun w'=>w'.cell? ⟨ga,o+ir*8,none⟩=some (.int .i64 k)∧w'.cell? ⟨ga,o+ir*8+1,none⟩=some (.int .i64 d)∧w'.cell? ⟨ga,o+ir*8+2,none⟩=some (.int .i64 fb)∧w'.cell? ⟨ga,o+ir*8+3,none⟩=some (.int .i64 fa)∧w'.cell? ⟨ga,o+ir*8+4,none⟩=some (.int .i64 tb)∧w'.cell? ⟨ga,o+ir*8+5,none⟩=some (.int .i64 ta)∧w'.cell? ⟨ga,o+ir*8+6,none⟩=some (.int .i64 c)∧w'.cell? ⟨ga,o+ir*8+7,none⟩=some (.int .i64 r)∧w'.cell? ⟨w.heap.size,0,none⟩=some (.int .i64 f)∧w'.cell? ⟨w.heap.size,1,none⟩=some (.int .i64 ir)) _ qj qk qk ⟨c0,c1,c2,c3,c4,c5,c6,c7,d0,d1⟩ (fun cY=>?_)
   simp only[List.dropLast,List.getLast_cons_cons,List.getLast_singleton,List.length_cons,List.length_nil]
   refine qt 0 cY ?_;refine qt 1 cY ?_;refine qt 2 cY ?_;refine qt 3 cY ?_;refine qt 4 cY ?_;refine qt 5 cY ?_;refine qt 6 cY ?_;refine qt 8 cY ?_;refine qt 9 cY ?_;refine qt 10 cY ?_;refine qt 11 cY ?_
   simp only[List.getElem_toArray,List.getElem_cons_succ,List.getElem_cons_zero,Act.put,List.setIfInBounds_toArray,List.set_cons_zero,List.set_cons_succ]
   refine wpAnyH_take (i:=12) (v:=.slice AR R (q-(ir+1))) rfl qk qk qk (fun _ _ _ h=>h) (Or.inl ⟨by rfl,?_⟩) cY ?_
   ·intro w0 hSw
    (try dsimp only at hSw)
    rw[ae4.o,PN.o]
    go_simp<;>with_reducible rfl
   simp only[List.getElem_toArray,List.getElem_cons_succ,List.getElem_cons_zero,Act.put,List.setIfInBounds_toArray,List.set_cons_zero,List.set_cons_succ]
   refine wpAnyH_ready (rs:=[7]) qk qj ?_;refine AllReadyH.cons rfl (fun K1 hK=>?_) AllReadyH.nil
   simp only[List.getElem_toArray,List.getElem_cons_succ,List.getElem_cons_zero]
   go_simp
   refine RE.o.mono ?_;rintro e w4 ⟨vi,rfl,EY,hbi⟩;obtain⟨LF,ci,rfl⟩:=aF EY;have Zt:Hq (w4.ownsRow w3.heap.size 67 8 (.slice LF K ci) K (ints (xP s0 z ir f))):=qh EY;have bg:Hq (Below w3.heap.size w3 w4):=qh (((Below.refl w3.heap.size w3).drew).trans hbi);have aeU:Hq (∀w',Below w3.heap.size w3 w'→gI ga (o+ir*8) k d fb fa tb ta c r w'∧w'.cell? ⟨w.heap.size,0,none⟩=some (.int .i64 f)∧w'.cell? ⟨w.heap.size,1,none⟩=some (.int .i64 ir)):=qh fun w' hb=>⟨(dA _ _ _ _ _ _ _ _ _ _).1 _ _ DA.o fun q hq=>by subst hq;exact hb.block _ (World.block_lt_of_cell? _ _ DA.o.c0),((aA hb).1 _ 0 (World.block_lt_of_cell? _ _ D0.out)).trans D0.out,((aA hb).1 _ 1 (World.block_lt_of_cell? _ _ D1.out)).trans D1.out⟩;have Zn:Hq (∀w',Below w3.heap.size w3 w'→w'.cell? ⟨ga,o+ir*8,none⟩=some (.int .i64 k)∧w'.cell? ⟨ga,o+ir*8+1,none⟩=some (.int .i64 d)∧w'.cell? ⟨ga,o+ir*8+2,none⟩=some (.int .i64 fb)∧w'.cell? ⟨ga,o+ir*8+3,none⟩=some (.int .i64 fa)∧w'.cell? ⟨ga,o+ir*8+4,none⟩=some (.int .i64 tb)∧w'.cell? ⟨ga,o+ir*8+5,none⟩=some (.int .i64 ta)∧w'.cell? ⟨ga,o+ir*8+6,none⟩=some (.int .i64 c)∧w'.cell? ⟨ga,o+ir*8+7,none⟩=some (.int .i64 r)∧w'.cell? ⟨w.heap.size,0,none⟩=some (.int .i64 f)∧w'.cell? ⟨w.heap.size,1,none⟩=some (.int .i64 ir)):=qh fun w' hb=>by
    obtain⟨h1,h2,h3⟩:=aeU.o w' hb;exact⟨h1.c0,h1.c1,h1.c2,h1.c3,h1.c4,h1.c5,h1.c6,h1.c7,h2,h3⟩
   clear EY hbi c0 c1 c2 c3 c4 c5 c6 c7 d0 d1;refine hK.out _ _ (Zn.o _ bg.o) (fun jL=>?_);clear hK K1 cY;refine wpAnyH_ready (rs:=[13]) qk qj ?_;refine AllReadyH.cons rfl (fun K2 hK=>?_) AllReadyH.nil
   simp only[List.getElem_toArray,List.getElem_cons_succ,List.getElem_cons_zero]
   go_simp
   obtain⟨w5,j7⟩:=qx (w4.alloc (.cells #[.slice LF K ci,.slice AR R (q-(ir+1))] 28));rw[←j7];have hb5:Below w4.heap.size w4 w5:=j7▸qb;have aZ:Hq (Below w3.heap.size w3 w5):=bg.st hb5;have Z1:Hq (aB w5 w4.heap.size 28 #[.slice LF K ci,.slice AR R (q-(ir+1))]):=qh (j7▸aB.at_ _ _ _ rfl);have ah8:Hq (Rd w5 LF (K*8) (fun t=>.int .i64 (fT s0 z ir f t))):=qh ((JO (g:=0) Zt.o fun t _=>rfl).below hb5);have ah7:Hq (Rd w5 AR (R*8) (fun t=>.int .i64 (z ((ir+1)*8+t)))):=qh fun h0=>by
    have hq1:¬q=ir+1:=by have:=HNQ.o;have:=PN.o;omega
    have hb:Below Wb.heap.size Wb w5:=Gl.o.trans (aZ.o.mono Gl.o.size);refine⟨ga,o+(ir+1)*8,by rw[ae4.o,if_neg hq1],Nat.lt_of_lt_of_le GI.o hb.size,fun t ht=>?_⟩;rw[Nat.add_assoc];exact(N2.o.below GI.o hb) ((ir+1)*8+t) (by have:=PN.o;omega)
   clear hb5 j7;refine hK.out _ _ (Zn.o _ aZ.o) (fun fY=>?_);clear hK K2 jL;refine wpAnyH_ready (rs:=[14]) qk qj ?_;refine AllReadyH.cons rfl (fun K3 hK=>?_) AllReadyH.nil
   simp only[List.getElem_toArray,List.getElem_cons_succ,List.getElem_cons_zero]
   go_simp
   refine(UV w4.heap.size 2 LF AR K R ci (q-(ir+1)) (fT s0 z ir f) (fun t=>z ((ir+1)*8+t)) w5 (Z1.o.cell 0) (Z1.o.cell 1) ah8.o ah7.o (by have:=tO.o;omega) (by have:=PN.o;omega)).mono ?_;rintro e w6 ⟨vr,rfl,Ee,hb6⟩;obtain⟨Qk,cr,rfl⟩:=aF Ee;have bG:Hq (Below w3.heap.size w3 w6):=aZ.st hb6;have Z5:Hq (w6.ownsRow w5.heap.size 67 8 (.slice Qk (K+R) cr) (K+R) (ints (NL s0 z ir f R))):=qh (by unfold NL;rw[←B8.o];exact Ee);clear hb6 Ee;refine hK.out _ _ (Zn.o _ bG.o) (fun bU=>?_);clear hK K3 fY;refine wpAnyH_done qk ?_ _;refine d8.of ?_
   go_simp
   clear bU;obtain⟨N,hN⟩:=qx (K+R);rw[←hN];rw[←hN]at Z5;have HNq:=qh hN;have Uv:Hq (N≤1502):=qh (by have:=tO.o;have:=PN.o;omega);obtain⟨y,hy⟩:=qx (EJ s0 z ir f R);have HYq:=qh hy;have HY:Hq (∀j,j<N→dR W y j=true):=qh fun j hj=>by
    rw[hy,PN.o];exact aay hW1 dT.o HAT.o (by rw[←HX.o.1];exact pS.o) (by rw[←B8.o,←PN.o,←hN];exact hj)
   obtain⟨p0,hp0⟩:=qx (eU W z f ir ir);have N5:=qh hp0;have Pf:Hq (p0=(s0,opsL z ir)):=qh (hp0.trans Pg.o);have HYO:Hq (IT W (8*ir) (2*ir) p0):=qh (by rw[hp0];exact XN hW1 hW2 ir (fun j hj=>dT.o j (by have:=HAT.o;omega)) fun h=>absurd h (Nat.lt_irrefl _));have aiF:Hq (dQ y p0 N=eU W z f ir n):=qh (by
    have h:=VR (W:=W) (z:=z) (f:=f) HAT.o (n-(ir+1)) ql;rw[←hp0,Pf.o,←B8.o,←PN.o,←hy,←Pf.o,←hN]at h;rw[h]
    congr 1
    have:=HAT.o;have:=PN.o;omega)
   have BA:Hq (Runs w1 (eX iM gm) ⟨gm,gf,cf,gk,ck,gc,cc,F0,K0,.slice AL nL cL,.slice AD nD cD⟩ (dQ y p0 0).1 w6):=qh (by show Runs _ _ _ p0.1 _;rw[Pf.o];exact HR3.o.below bG.o);have Qa:Hq (w6.ownsRow w1.heap.size 67 8 (.slice Ao ir co) ir (ints (dQ y p0 0).2)):=qh (by show World.ownsRow _ _ _ _ _ _ (ints p0.2);rw[Pf.o];exact own_below Zr.o bG.o);have E8:Hq ((dQ y p0 0).2.length=8*ir):=qh (by show p0.2.length=_;rw[Pf.o];exact VZ z ir);have Pz:Hq (∀b,(Value.slice Ao ir co).ownBlock=some b→eX iM gm b=0):=qh fun b hb=>Decidable.byContradiction fun hn=>by have h1:=H0.o.m.lt b hn;have h2:=aiB.o b hb;omega
   have TS:Hq (Rd w6 Qk (N*8) (fun t=>.int .i64 (y t))):=qh (JO (g:=0) Z5.o fun t _=>by rw[hy];rfl);have iK:Hq (∀ad,Qk=some ad→eX iM gm ad.block=0∧(Value.slice Ao ir co).ownBlock≠some ad.block):=qh fun ad he=>by
    subst he;have hlo:w5.heap.size≤ad.block:=by
     rcases Z5.o.2 with⟨e,_⟩|⟨y',cap,cur,e,hy',_⟩
     ·cases e
     ·injection e with e1 e2 e3
      injection e1 with e1;subst e1;exact hy'
    have h1:=aZ.o.size;exact⟨Decidable.byContradiction fun hn=>by have:=HR3.o.m.lt _ hn;omega,fun e=>by have:=(Zr.o.lt _ e).2;omega⟩
   clear hN hy hp0 hA1 hA2 KP hA3 RE Zn aeU
   go_wp2_with fail
   go_loopw [11,66] (fun ov kv wx=>∃(j:Nat) (tg:Nat→Nat) (a:bC) (m:Nat) (L:List Int),j≤N∧kv=.int .i64 j∧a.g=gm∧Runs w1 tg a (dQ y p0 j).1 wx∧L=(dQ y p0 j).2∧L.length=8*m∧wx.ownsRow w1.heap.size 67 8 ov m (ints L)∧(∀b,ov.ownBlock=some b→tg b=0)∧Rd wx Qk (N*8) (fun t=>.int .i64 (y t))∧(∀ad,Qk=some ad→tg ad.block=0∧ov.ownBlock≠some ad.block)) (fun _ kv _=>N-(intOf kv).toNat)
   case atStart=>exact⟨0,_,_,ir,_,Nat.zero_le _,rfl,rfl,BA.o,rfl,E8.o,Qa.o,Pz.o,TS.o,iK.o⟩
   case round=>
    obtain⟨j,tg,a,m,L,hjK,rfl,hg,hr,hL,hlen,hown,hut,hrd,hna⟩:=hrel;have HG:=qh hg;have HR:=qh hr;have HL:=qh hL;have HLEN:=qh hlen;have HOWN:=qh hown;have IX:=qh hut;have iJ:=qh hrd;have J5:=qh hna;have wL:=DC hW1 HYO.o j fun q hq=>HY.o q qo;obtain⟨s,hsv⟩:∃s,s=(dQ y p0 j).1:=⟨_,rfl⟩;have zO:=wL.w;have hs:=wL.o;have ID:=wL.l;rw[←hL,hlen]at ID;have Lp:m≤6000:=by obtain⟨k',h1,h2⟩:=ID;have:=Uv.o;have:=HAT.o;omega
    have oG:=Uv.o;rw[←hsv]at HR zO hs;have wZ:=qh hsv;have ah4:=qh zO;have HS:=qh hs;clear hg hr hL hlen hown hut hrd hna wL hsv zO hs ID
    by_cases hlt:j<N
    ·have dC:=qh hlt
     obtain⟨gl,ol,iG,hgl,hrl⟩:=iJ.o qo;have hce:=lR hrl hlt;have hp:=gC hW1 (HY.o j hlt);rw[←ah4.o]at hp;have hbd:=LW (HY.o j hlt);have bK:=JZ (HY.o j hlt);have oS:Hq (gl<wr.heap.size):=qh hgl;have afS:=qh hrl;have Ah:Hq (tg gl=0):=qh (J5.o _ iG).1;have mN:=qh (J5.o _ iG).2;have JF:=qh iG;obtain⟨k,hx0⟩:=qx (y (j*8));obtain⟨d,hx1⟩:=qx (y (j*8+1));obtain⟨fb,hx2⟩:=qx (y (j*8+2));obtain⟨fa,hx3⟩:=qx (y (j*8+3));obtain⟨tb,hx4⟩:=qx (y (j*8+4));obtain⟨ta,hx5⟩:=qx (y (j*8+5));obtain⟨c,hx6⟩:=qx (y (j*8+6));obtain⟨r,hx7⟩:=qx (y (j*8+7));rw[←hx0,←hx1,←hx2,←hx3,←hx4,←hx5,←hx6,←hx7]at hce hp;rw[←hx0,←hx2,←hx4]at hbd;rw[←hx0,←hx2]at bK;have HXj:Hq (k=y (j*8)∧d=y (j*8+1)∧fb=y (j*8+2)∧fa=y (j*8+3)∧tb=y (j*8+4)∧ta=y (j*8+5)∧c=y (j*8+6)∧r=y (j*8+7)):=qh ⟨hx0,hx1,hx2,hx3,hx4,hx5,hx6,hx7⟩;have HP:=qh hp;have BI:=qh hbd;have CM:=qh bK;have o0:=hce.c0;have o1:=hce.c1;have o2:=hce.c2;have o3:wr.cell? ⟨gl,ol+j*8+3,none⟩=some (.int .i64 fa):=hce.c3;have o4:=hce.c4;have o5:wr.cell? ⟨gl,ol+j*8+5,none⟩=some (.int .i64 ta):=hce.c5;have o6:=hce.c6;have o7:=hce.c7;clear hx0 hx1 hx2 hx3 hx4 hx5 hx6 hx7 hce hp hrl hgl iG hbd bK;have XH:=JF.o;subst XH
     go_upto_region 9 with(fail)
     obtain⟨v1,hv1⟩:=qx (wr.alloc (.cells (opC k d fb fa tb ta c r) 67));rw[←hv1];obtain⟨bx,hbx⟩:=qx (wr.heap.size);rw[←hbx];have hb1:Below wr.heap.size wr v1:=hv1▸qb;have dN:Hq (aB v1 bx 67 (opC k d fb fa tb ta c r)):=qh (hv1▸aB.at_ _ _ _ hbx);have HBV:=qh hb1;have HR1:=qh (HR.o.below hb1);have HBXq:=qh hbx;have CI:=qh (own_below HOWN.o hb1);have HTB:Hq (tg bx=0):=qh (Decidable.byContradiction fun hn=>by have:=HR.o.m.lt bx hn;omega);have HOB:Hq (∀b,u11.ownBlock=some b→b≠bx):=qh fun b hb=>by have:=(HOWN.o.lt b hb).2;omega
     have x0:=(show _=some (Value.int .i64 k)from dN.o.cell 0);have x1:=(show _=some (Value.int .i64 d)from dN.o.cell 1);have x2:=(show _=some (Value.int .i64 fb)from dN.o.cell 2);have x3:=(show _=some (Value.int .i64 fa)from dN.o.cell 3);have x4:=(show _=some (Value.int .i64 tb)from dN.o.cell 4);have x5:=(show _=some (Value.int .i64 ta)from dN.o.cell 5);have x6:=(show _=some (Value.int .i64 c)from dN.o.cell 6);have x7:=(show _=some (Value.int .i64 r)from dN.o.cell 7);have hex:=D3 (D:=8*1500+8*1502) (k:=k) (d:=d) (fb:=fb) (fa:=fa) (tb:=tb) (ta:=ta) (c:=c) (r:=r) HR1.o.m {HS.o with db:=Nat.le_trans HS.o.db (by have:=Uv.o;have:=HAT.o;omega)} qo HP.o BI.o CM.o;rw[HG.o]at hex;obtain⟨code,hcode⟩:=qx (aX s k d fb fa tb ta (c-1).toNat);rw[←hcode]at hex;have pN:Hq (kC (dQ y p0 j).1 y j=code):=qh (by
      obtain⟨e0,e1,e2,e3,e4,e5,e6,e7⟩:=HXj.o;unfold kC;rw[←wZ.o,←e0,←e1,←e2,←e3,←e4,←e5,←e6];exact hcode.symm)
     have tA:=qh hex;clear hex hcode hv1 hbx hb1 o0 o1 o2 o3 o4 o5 o6 o7
     go_wp2_with fail
     refine tA.o.mono ?_;rintro e w7 ⟨rfl,wN,hm7⟩
     by_cases hc0:code=0
     ·obtain⟨RQ,a7,Lx,tI,ST⟩:=HR1.o.step (by rw[HG.o];exact hm7 hc0)
      subst hc0;have ZR:Hq (a7.g=gm):=qh (Lx.trans HG.o);obtain⟨s',hs'⟩:∃x,x=cV s k d fb fa tb ta r (c-1).toNat:=⟨_,rfl⟩;rw[←hs']at tI;have pJ:Hq (dQ y p0 (j+1)=(s',L++[k,d,fb,fa,tb,ta,c,r])):=qh (by
       obtain⟨e0,e1,e2,e3,e4,e5,e6,e7⟩:=HXj.o;show eT (dQ y p0 j) y j=_;unfold eT;rw[if_pos pN.o,←HL.o,hs'];unfold kS qA;rw[←wZ.o,←e0,←e1,←e2,←e3,←e4,←e5,←e6,←e7])
      have l8:=qh tI;have Py:=qh ST;have yR:Hq (w7.ownsRow w1.heap.size 67 8 u11 m (ints L)):=qh (bF CI.o fun b hb=>(Py.o b (CI.o.lt b hb).2 (IX.o b hb)).2);have GA:Hq (aB w7 bx 67 (opC k d fb fa tb ta c r)):=qh ((Py.o bx dN.o.lt HTB.o).2.trans dN.o);have xT:Hq (bI w7 gl ol (N*8) (fun t=>.int .i64 (y t))):=qh ((afS.o.below oS.o HBV.o).blk (Py.o gl (Nat.lt_of_lt_of_le oS.o HBV.o.size) Ah.o).2);have ad1:Hq (∀b,u11.ownBlock=some b→RQ b=0):=qh fun b hb=>(Py.o b (CI.o.lt b hb).2 (IX.o b hb)).1;have aiA:Hq (RQ gl=0):=qh (Py.o gl (Nat.lt_of_lt_of_le oS.o HBV.o.size) Ah.o).1;have Uy:Hq (gl<w7.heap.size):=qh (World.block_lt_of_cell? w7 _ (xT.o 0 qo));clear x0 x1 x2 x3 x4 x5 x6 x7 wN hm7 Lx tI ST hs';have x0:=(show _=some (Value.int .i64 k)from GA.o.cell 0);have x1:=(show _=some (Value.int .i64 d)from GA.o.cell 1);have x2:=(show _=some (Value.int .i64 fb)from GA.o.cell 2);have x3:=(show _=some (Value.int .i64 fa)from GA.o.cell 3);have x4:=(show _=some (Value.int .i64 tb)from GA.o.cell 4);have x5:=(show _=some (Value.int .i64 ta)from GA.o.cell 5);have x6:=(show _=some (Value.int .i64 c)from GA.o.cell 6);have x7:=(show _=some (Value.int .i64 r)from GA.o.cell 7);have TM:Hq (w1.heap.size≤w7.heap.size):=qh l8.o.b.size;obtain⟨Aq,cq,hov⟩:=aF yR.o;subst hov
      go_wp2_with (at_builtin;go_must (refine cB w7 rfl (.tmp 73) (.tmp 75) _ rfl w1.heap.size 67 i0 _ 8 64 Tryz.underlying28 hi iz is ib rfl qo (.slice Aq m cq) m _ (by rfl) yR.o _ 1 1 (ints [k,d,fb,fa,tb,ta,c,r]) rfl rfl (iP _) qm qo TM.o ?_);intro v' w8 gE bL iA;rw[←aT]at gE;have afU:=qh gE;have ZT:=qh bL;have aiP:=qh iA;clear gE bL iA)
      have Zl:Hq (∀b,v'.ownBlock=some b→RQ b=0∧b≠gl):=qh fun b hb=>by
       rcases aiP.o with h|h
       ·exact⟨ad1.o b (h.symm.trans hb),fun e=>mN.o (by rw[←e];exact h.symm.trans hb)⟩
       ·have h1:b=w7.heap.size+1:=Option.some.inj (hb.symm.trans h)
        exact⟨Decidable.byContradiction fun hn=>by have:=l8.o.m.lt b hn;omega,by have:=Uy.o;omega⟩
      have KZ:Hq (Runs w1 RQ a7 s' w8):=qh ⟨l8.o.m.same (fun b hb=>ZT.o.block b (l8.o.m.lt b hb) (fun e=>hb (ad1.o b e))) ZT.o.size,l8.o.b.trans (ZT.o.below TM.o fun b hb=>(yR.o.lt b hb).1),l8.o.lo⟩;have ah6:Hq (Rd w8 (some ⟨gl,ol,none⟩) (N*8) (fun t=>.int .i64 (y t))):=qh fun _=>⟨gl,ol,rfl,Nat.lt_of_lt_of_le Uy.o ZT.o.size,xT.o.blk (ZT.o.block gl Uy.o mN.o)⟩;clear x0 x1 x2 x3 x4 x5 x6 x7
      go_wp2_with fail
      go_roundw
      case rel=>exact⟨j+1,RQ,a7,m+1,L++[k,d,fb,fa,tb,ta,c,r],dC.o,qg,ZR.o,by rw[pJ.o];exact KZ.o,by rw[pJ.o],by have:=HLEN.o;simp;omega,afU.o,fun b hb=>(Zl.o b hb).1,ah6.o,fun ad he=>by obtain rfl:=Option.some.inj he;exact⟨aiA.o,fun e=>(Zl.o _ e).2 rfl⟩⟩
      case measure=>exact qs
     ·have hc1:(code==0)=false:=by simpa using hc0
      have pJ:Hq (dQ y p0 (j+1)=dQ y p0 j):=qh (by
       show eT (dQ y p0 j) y j=_;unfold eT;rw[if_neg (by rw[pN.o];exact hc0)])
      have bQ:=wN hc0;have l8:=qh (HR1.o.below bQ);have yR:=qh (own_below CI.o bQ);have xT:Hq (Rd w7 (some ⟨gl,ol,none⟩) (N*8) (fun t=>.int .i64 (y t))):=qh ((iJ.o.below HBV.o).below bQ);clear wN hm7 hc0 bQ x0 x1 x2 x3 x4 x5 x6 x7
      go_wp2_with fail
      go_roundw
      case rel=>exact⟨j+1,tg,a,m,L,dC.o,qg,HG.o,by rw[pJ.o,←wZ.o];exact l8.o,by rw[pJ.o];exact HL.o,HLEN.o,yR.o,IX.o,xT.o,fun ad he=>J5.o ad he⟩
      case measure=>exact qs
    ·obtain rfl:j=N:=qo
     have dU:Hq (Below w.heap.size w wr):=qh (HB0.o.trans ((HB1.o.trans (HR.o.b.mono HB1.o.size)).mono HB0.o.size));have aen:Hq (kQ n z f (ir:Int)=true):=qh (B6.o.trans pS.o);have aez:Hq (L=(eU (W:Int).toNat z f (ir:Int).toNat n).2):=qh (by rw[Int.toNat_natCast,Int.toNat_natCast,←aiF.o];exact HL.o);obtain⟨Aq,cq,hov⟩:=aF HOWN.o;subst hov;have afT:=qh (eF HOWN.o (Nat.le_trans HB0.o.size HB1.o.size))
     by_cases CX:1500<m
     ·have hmI:(1500:Int)<(m:Int):=qo
      have HM:=qh CX;clear CX
      go_wp2_with fail
      refine bodyPost_ret (v:=.tuple #[.slice none 0 0,.int .i64 5]) (by simp[results,Tryz.results69,go_sem]) rfl ?_;exact oU.full HC.o aen.o aez.o HLEN.o HM.o rfl dU.o
     ·have hmI:¬(1500:Int)<(m:Int):=qo
      have HM:Hq (m≤1500):=qh qo;clear CX
      go_wp2_with fail
      refine bodyPost_ret (v:=.tuple #[.slice Aq m cq,.int .i64 0]) (by simp[results,Tryz.results69,go_sem]) rfl ?_;exact oU.ok HC.o aen.o aez.o HLEN.o HM.o rfl afT.o dU.o
end
section
variable (W:Int)(A:OA)(n q:Nat)(z:Nat→Int)(f x:Int)(w:World)
end
def Yv (W:Int)(z:Nat→Int)(n:Nat):List Int:=if codeOf W z n=0 then fL z n else []
def xq (W:Int)(z:Nat→Int)(n:Nat):Nat:=(Yv W z n).length/2
abbrev Am (w:World)(W:Int)(z:Nat→Int)(n:Nat):Ending→World→Prop:=q7 w (xq W z n) (xq W z n*2) (fun j=>.int .i64 ((Yv W z n).getD j 0)) (codeOf W z n)
theorem Am.ok {w w':World}{W:Int}{z:Nat→Int}{n m c:Nat}{A:Option Addr}{L:List Int}{e:Ending}(hc:codeOf W z n=0)(hL:L=fL z n)(hl:L.length=2*m)(he:e=.returned (.tuple #[.slice A m c,.int .i64 0]))(ho:w'.ownsRow w.heap.size 30 2 (.slice A m c) m (ints L))(hb:Below w.heap.size w w'):Am w W z n e w':=by
 subst hL;have hf:Yv W z n=fL z n:=if_pos hc;have hn:xq W z n=m:=by unfold xq;rw[hf];omega
 unfold Am;rw[hn,hc,hf];obtain⟨A',c',e',hp⟩:=New.kM hb ho;injection e' with e1 e2 e3;subst e1 e3;exact⟨A,c,he,hp.congr fun j hj=>by simp[ints,List.getD,List.getElem?_eq_getElem (show j<(fL z n).length by omega)]⟩
theorem Am.no {w w':World}{W:Int}{z:Nat→Int}{n:Nat}{e:Ending}{cd:Int}(hc:codeOf W z n=cd)(h0:cd≠0)(he:e=.returned (.tuple #[.slice none 0 0,.int .i64 cd]))(hb:Below w.heap.size w w'):Am w W z n e w':=by
 have hf:Yv W z n=[]:=if_neg (by rw[hc];exact h0);have hn:xq W z n=0:=by unfold xq;rw[hf];rfl
 unfold Am;rw[hn,hc];exact⟨none,0,he,New.none_ hb _⟩
section
variable (W:Int)(A:OA)(n q:Nat)(z:Nat→Int)(w:World)
end
end Go.Proofs.YtdnmhhohcedjbaaGreat
