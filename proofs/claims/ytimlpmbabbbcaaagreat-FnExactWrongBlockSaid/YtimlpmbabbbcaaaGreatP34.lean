/- Walks and plain lemmas. -/
import Derived.Test.YtimlpmbabbbcaaaGreatP32
set_option linter.unusedVariables false
set_option linter.unusedSimpArgs false
set_option maxHeartbeats 8000000
set_option maxRecDepth 20000
namespace Go.Proofs.YtimlpmbabbbcaaaGreat
open Go.RowKit
def Ms (w:World)(v:Value)(o:List cJ):Prop:=∃A c d,v=.slice A o.length c∧I3 w A o d∧Mv o d
theorem Ms.below {w w':World}{v:Value}{o:List cJ}(h:Ms w v o)(hb:Below w.heap.size w w'):Ms w' v o:=by
 obtain⟨A,c,d,e,h1,h2⟩:=h;exact⟨A,c,d,e,h1.below hb,h2⟩
def KQ (b:cJ):Prop:=0≤b.1∧b.1≤12∧G.Word b.1.toNat b.2.1∧b.2.1.length≤40
theorem TB {n:Int}{W:List Int}{o o':List cJ}(h:flush n W o=some o')(hn:0≤n∧n≤12)(hw:G.Word n.toNat W)(ho:∀b∈o,KQ b):∀b∈o',KQ b:=by
 unfold flush at h
 split at h
 ·cases h
 ·rename_i hl
  split at h
  ·injection h with h
   rw[←h];exact ho
  ·injection h with h
   rw[←h];intro b hb
   rcases List.mem_append.1 hb with hb|hb
   ·exact ho b hb
   ·rw[List.mem_singleton.1 hb]
    exact⟨hn.1,hn.2,hw,by show W.length≤40;omega⟩
theorem Zt {o:List cJ}{s:List Int}(ho:∀b∈o,KQ b):∀b∈eO o s,KQ b:=fun b h=>by
 unfold eO at h
 cases hl:o.getLast? with
 |none=>rw[hl]at h;cases h
 |some b0=>
  rw[hl]at h
  rcases List.mem_append.1 h with h|h
  ·exact ho b (by rw[List.dropLast_eq_take]at h;exact List.mem_of_mem_take h)
  ·rw[List.mem_singleton.1 h]
   exact ho b0 (List.mem_of_getLast? hl)
theorem adI {z:Nat→Int}{N:Nat}(hv:(cnt z 0 N).isSome=true){k:Nat}(hk:k≤N){o:List cJ}(h:kQ z k=some o):∀b∈o,KQ b:=by
 induction k generalizing o with
 |zero=>
  injection h with h;rw[←h];intro b hb;rw[List.mem_singleton.1 hb];exact⟨by simp,by simp,(fun x hx=>by cases hx),by simp⟩
 |succ k ih=>
  simp only[kQ]at h
  split at h
  ·exact ih qo h
  ·cases hk1:kQ z k with
   |none=>rw[hk1]at h;cases h
   |some o1=>
    rw[hk1]at h
    simp only[Option.bind_some]at h
    cases hf:flush (i8 z k) (mG z k) o1 with
    |none=>rw[hf]at h;cases h
    |some o2=>
     rw[hf]at h;injection h with h;rw[←h];exact Zt (TB hf (xH hv qo) (FH hv qo) (ih qo hk1))
theorem Wo {z:Nat→Int}{N:Nat}(hv:(cnt z 0 N).isSome=true){o:List cJ}(h:jQ z N=some o):(∀b∈o,KQ b∧b.2.2.length≤N*6)∧o.length≤60:=by
 unfold jQ at h
 cases hk:kQ z N with
 |none=>rw[hk]at h;cases h
 |some o1=>
  rw[hk]at h
  simp only[Option.bind_some]at h
  cases hf:flush (i8 z N) (mG z N) o1 with
  |none=>rw[hf]at h;cases h
  |some o2=>
   rw[hf,Option.bind_some]at h
   split at h
   ·rename_i hl
    injection h with h;rw[←h];refine⟨fun b hb=>⟨TB hf (xH hv ql) (FH hv ql) (adI hv ql hk) b hb,?_⟩,hl⟩
    rcases T0 hf hb with hb|hb
    ·exact YD hk b hb
    ·rw[hb]
     exact Nat.zero_le _
   ·cases h
theorem l6.rdK {z:Nat→Int}{N:Nat}(hv:(cnt z 0 N).isSome=true)(hN:N≤2000){o:List cJ}(h:jQ z N=some o){B:Nat}{A:Option Addr}{c:Nat}{d:fL}{w:World}(hm:l6 B (.slice A o.length c) o d w):Ms w (.slice A o.length c) o:=by
 obtain⟨h1,h2⟩:=Wo hv h;refine⟨A,c,d,rfl,hm.rdB,by omega,fun j b hj=>?_⟩;obtain⟨⟨a1,a2,a3,a4⟩,a5⟩:=h1 b (List.mem_of_getElem? hj);have h3:=hm.ln j b hj;exact⟨a1,by omega,a3,by omega,by omega⟩
theorem jr (A B:OA)(c c' m m':Nat)(L M:List Int)(w:World)(hL:L.length=m*6)(hM:M.length=m'*6)(ha:Rd w A (m*6) (fun j=>.int .i64 (L.getD j 0)))(hb:Rd w B (m'*6) (fun j=>.int .i64 (M.getD j 0)))(hm:m≤1000000)(hm':m'≤1000000):
 Calls Tryz.prog 121 #[.slice A m c,.slice B m' c'] w fun e w'=>e=.returned (.bool (decide (L=M)))∧∃q,w'=w.drewN q:=by
 have HA:=qh ha;have HB:=qh hb;have nH:=qh hL;have I9:=qh hM;clear ha hb hL hM
 by_cases hl:m=m'
 case neg=>
  have HD:=qh (show decide (L=M)=false from decide_eq_false fun e=>hl (by have h1:=nH.o;have h2:=I9.o;rw[e]at h1;omega));have hlb:((m:Int)==(m':Int))=false:=by rw[beq_eq_false_iff_ne];omega
  have hlc:¬(m:Int)=(m':Int):=qo
  go_enter Tryz.func121,Tryz.ntmps121
  go_wp2
  go_ret
  exact⟨by rw[HD.o];rfl,0,rfl⟩
 subst hl
 go_enter Tryz.func121,Tryz.ntmps121
 go_wp2_with fail
 go_loopw [13] (fun x wr=>∃k q:Nat,k≤m∧x=.int .i64 k∧wr=w.drewN q∧Hq (L.take (k*6)=M.take (k*6))) (fun x _=>m-(intOf x).toNat)
 case atStart=>exact⟨0,0,Nat.zero_le _,rfl,rfl,qh qj⟩
 case round=>
  obtain⟨k,q,hk,rfl,rfl,HX⟩:=hrel
  by_cases hlt:k<m
  ·obtain⟨ga,o,rfl,hg,hr⟩:=HA.o qo
   obtain⟨gb,o',rfl,hg',hr'⟩:=HB.o qo;have r0:=hr (k*6) qo;have r1:=hr (k*6+1) qo;have r2:=hr (k*6+2) qo;have r3:=hr (k*6+3) qo;have r4:=hr (k*6+4) qo;have r5:=hr (k*6+5) qo;have t0:=hr' (k*6) qo;have t1:=hr' (k*6+1) qo;have t2:=hr' (k*6+2) qo;have t3:=hr' (k*6+3) qo;have t4:=hr' (k*6+4) qo;have t5:=hr' (k*6+5) qo;have K6:=qh (AV (L:=L) (k:=k) (by have:=nH.o;omega));have vI:=qh (AV (L:=M) (k:=k) (by have:=I9.o;omega));unfold six at K6 vI;obtain⟨x0,hx0⟩:=qx (L.getD (k*6) 0);obtain⟨x1,hx1⟩:=qx (L.getD (k*6+1) 0);obtain⟨x2,hx2⟩:=qx (L.getD (k*6+2) 0);obtain⟨x3,hx3⟩:=qx (L.getD (k*6+3) 0);obtain⟨x4,hx4⟩:=qx (L.getD (k*6+4) 0);obtain⟨x5,hx5⟩:=qx (L.getD (k*6+5) 0);obtain⟨y0,hy0⟩:=qx (M.getD (k*6) 0);obtain⟨y1,hy1⟩:=qx (M.getD (k*6+1) 0);obtain⟨y2,hy2⟩:=qx (M.getD (k*6+2) 0);obtain⟨y3,hy3⟩:=qx (M.getD (k*6+3) 0);obtain⟨y4,hy4⟩:=qx (M.getD (k*6+4) 0);obtain⟨y5,M5⟩:=qx (M.getD (k*6+5) 0)
   simp only[←hx0]at r0
   simp only[←hx1,←Nat.add_assoc]at r1
   simp only[←hx2,←Nat.add_assoc]at r2
   simp only[←hx3,←Nat.add_assoc]at r3
   simp only[←hx4,←Nat.add_assoc]at r4
   simp only[←hx5,←Nat.add_assoc]at r5
   simp only[←hy0]at t0
   simp only[←hy1,←Nat.add_assoc]at t1
   simp only[←hy2,←Nat.add_assoc]at t2
   simp only[←hy3,←Nat.add_assoc]at t3
   simp only[←hy4,←Nat.add_assoc]at t4
   simp only[←M5,←Nat.add_assoc]at t5
   rw[←hx0,←hx1,←hx2,←hx3,←hx4,←hx5]at K6;rw[←hy0,←hy1,←hy2,←hy3,←hy4,←M5]at vI;clear hx0 hx1 hx2 hx3 hx4 hx5 hy0 hy1 hy2 hy3 hy4 M5 hr hr';have b1:(0:Int)≤(k:Int):=qo;have b2:(k:Int)<(m:Int):=qo
   by_cases he:[x0,x1,x2,x3,x4,x5]=[y0,y1,y2,y3,y4,y5]
   ·injection he with h0 he
    injection he with h1 he;injection he with h2 he;injection he with h3 he;injection he with h4 he;injection he with h5 he;subst h0 h1 h2 h3 h4 h5;clear he
    go_wp2_with fail
    go_quiet (fail)
    go_wp2_with fail
    go_roundw
    case rel=>exact⟨k+1,_,by omega,qg,rfl,qh (by rw[K6.o,vI.o,HX.o])⟩
    case measure=>exact qs
   ·have HD:=qh (show decide (L=M)=false from decide_eq_false fun e=>he (by
     have h1:=K6.o;have h2:=vI.o;rw[e]at h1;rw[h2]at h1;exact(List.append_inj_right' h1 rfl).symm))
    have lO:=fun W=>Lc x0 x1 x2 x3 x4 x5 y0 y1 y2 y3 y4 y5 W;rw[decide_eq_false he]at lO;clear he
    go_wp2_with fail
    go_quiet (fail)
    go_wp2_with fail
    go_ret
    exact⟨by rw[HD.o];rfl,_,World.drewN_drewN _ _ _⟩
  ·obtain rfl:m=k:=qo
   have HD:=qh (show decide (L=M)=true from decide_eq_true (by
    have h:=HX.o;rwa[List.take_of_length_le (by have:=nH.o;omega),List.take_of_length_le (by have:=I9.o;omega)]at h))
   go_wp2
   go_ret
   exact⟨by rw[HD.o];rfl,q,rfl⟩
theorem TA {n:Nat}{V:List Int}(hn:n≤12)(hv:G.Word n V)(hl:V.length≤40):EU n V.length (fun j=>V.getD j 0)=true:=by
 have h:∀k,k≤V.length→lA n (fun j=>V.getD j 0) k=true:=by
  intro k
  induction k with
  |zero=>intro _;rfl
  |succ k ih=>
   intro hk;have h1:=hv (V.getD k 0) (by simp[List.getD,show k<V.length by omega])
   simp only[lA,ih qo,Bool.true_and,qT,aJ]
   simp only[Bool.and_eq_true,decide_eq_true_eq]
   omega
 unfold EU aJ
 simp only[Bool.and_eq_true,decide_eq_true_eq]
 exact⟨⟨by omega,hl⟩,h _ ql⟩
theorem PP (n n':Nat)(V V':List Int)(A A':OA)(c c':Nat)(w:World)(ha:dN w A V)(hb:dN w A' V')(hn:n≤12)(hn':n'≤12)(hv:G.Word n V)(hv':G.Word n' V')(hl:V.length≤40)(hl':V'.length≤40):
 Calls Tryz.prog 120 #[.agg #[.int .i64 n,.slice A V.length c],.agg #[.int .i64 n',.slice A' V'.length c']] w fun e w'=>e=.returned (.bool (decide (n=n')&&nK n V V'))∧Below w.heap.size w w':=by
 have HW:=qh (((Below.refl w.heap.size w).alloc ql (.cells #[.int .i64 n,.slice A V.length c] 105)).alloc qj (.cells #[.int .i64 n',.slice A' V'.length c'] 105));have HA:=qh (Rd.below ha HW.o);have HB:=qh (Rd.below hb HW.o);have EY:=qh (EC n A V.length c (fun j=>V.getD j 0) _ HA.o qo);have I4:=qh (fun w' h=>EC n' A' V'.length c' (fun j=>V'.getD j 0) w' h qo);rw[TA hn hv hl]at EY
 simp only[TA hn' hv' hl']at I4
 have B0:=qh ((aG.at_ (g':=w.heap.size) w 105 #[.int .i64 n,.slice A V.length c] rfl).alloc (.cells #[.int .i64 n',.slice A' V'.length c'] 105));have B1:=qh (aG.at_ (g':=w.heap.size+1) (w.alloc (.cells #[.int .i64 n,.slice A V.length c] 105)) 105 #[.int .i64 n',.slice A' V'.length c'] qj);clear ha hb
 go_enter Tryz.func120,Tryz.ntmps120
 go_wp2_with fail
 refine EY.o.mono ?_;rintro e w1 ⟨rfl,hb1⟩;have hz0:=B0.out.lt;have hz1:=B1.out.lt;have C0:=qh (B0.out.below hb1 hz0);have C1:=qh (B1.out.below hb1 hz1);have HA1:=qh (Rd.below HA.o hb1);have HB1:=qh (Rd.below HB.o hb1);have HW1:=HW.st hb1;have d0:=qc C1.out 0 rfl;have d1:=qc C1.out 1 rfl;clear hb1 EY HA HB hz0 hz1 HW
 go_wp2_with fail
 refine(I4.o _ HB1.o).mono ?_;rintro e w2 ⟨rfl,hb2⟩;have hz0:=C0.out.lt;have hz1:=C1.out.lt;have D0:=qh (C0.out.below hb2 hz0);have D1:=qh (C1.out.below hb2 hz1);have HA2:=qh (Rd.below HA1.o hb2);have HB2:=qh (Rd.below HB1.o hb2);have HW2:=HW1.st hb2;have k0:=qc D0.out 0 rfl;have k1:=qc D0.out 1 rfl;have m0:=qc D1.out 0 rfl;have m1:=qc D1.out 1 rfl;clear hb2 I4 HA1 HB1 hz0 hz1 HW1 C0 C1 d0 d1 B0 B1
 by_cases hnn:n=n'
 ·subst hnn
  have hb:((n:Int)==(n:Int))=true:=by simp
  have HEW:=qh (wT V V' A A' c c' w2 HA2.o HB2.o qo hv hv' qo qo)
  go_wp2_with fail
  refine HEW.o.mono ?_;rintro e w3 ⟨rfl,hb3⟩;have HW3:=HW2.st hb3;clear hb3
  go_wp2_with fail
  go_ret
  exact⟨by simp,HW3.o⟩
 ·have hb:((n:Int)==(n':Int))=false:=by simp;omega
  have HD:=qh (decide_eq_false hnn)
  go_wp2_with fail
  go_ret
  exact⟨by rw[HD.o];rfl,HW2.o⟩
theorem DF (a b:cJ)(W S W' S':OA)(cw cs m PS cs' m':Nat)(w:World)(hra:dN w W a.2.1)(hsa:Rd w S (m*6) (fun j=>.int .i64 (a.2.2.getD j 0)))(hrb:dN w W' b.2.1)(hsb:Rd w S' (m'*6) (fun j=>.int .i64 (b.2.2.getD j 0)))(hla:a.2.2.length=m*6)(hlb:b.2.2.length=m'*6)(k1:KQ a)(k2:KQ b)(hm:m≤1000000)(hm':m'≤1000000):
 Calls Tryz.prog 72 #[.agg #[.int .i64 a.1,.slice W a.2.1.length cw,.slice S m cs],.agg #[.int .i64 b.1,.slice W' b.2.1.length PS,.slice S' m' cs']] w fun e w'=>e=.returned (.bool (JX a b))∧Below w.heap.size w w':=by
 obtain⟨n,V,T⟩:=a;obtain⟨n',V',T'⟩:=b;obtain⟨p0,p1,p2,p3⟩:=k1;obtain⟨q0,q1,q2,q3⟩:=k2
 simp only at hra hsa hrb hsb hla hlb p0 p1 p2 p3 q0 q1 q2 q3 ⊢
 obtain⟨N,rfl⟩:∃N:Nat,n=N:=⟨n.toNat,by omega⟩;obtain⟨N',rfl⟩:∃N:Nat,n'=N:=⟨n'.toNat,by omega⟩;rw[Int.toNat_natCast]at p2 q2;have HW:=qh (((Below.refl w.heap.size w).alloc ql (.cells #[.int .i64 N,.slice W V.length cw,.slice S m cs] 107)).alloc qj (.cells #[.int .i64 N',.slice W' V'.length PS,.slice S' m' cs'] 107));have HEB:=qh (PP N N' V V' W W' cw PS _ (Rd.below hra HW.o) (Rd.below hrb HW.o) qo qo p2 q2 p3 q3);have pP:=qh (fun w' (h:Rd w' S (m*6) (fun j=>.int .i64 (T.getD j 0))) (h':Rd w' S' (m'*6) (fun j=>.int .i64 (T'.getD j 0)))=>jr S S' cs cs' m m' T T' w' hla hlb h h' hm hm');have jR:=qh (hsa.below HW.o);have HS2:=qh (hsb.below HW.o);have nJ:=qh (show JX ((N:Int),V,T) ((N':Int),V',T')=((decide (N=N')&&nK N V V')&&decide (T=T'))by
  show(decide ((N:Int)=(N':Int))&&(decide (T=T')&&nK N V V'))=_;rw[show decide ((N:Int)=(N':Int))=decide (N=N')from decide_eq_decide.2 qo,Bool.and_assoc,Bool.and_comm (decide (T=T'))])
 have B0:=qh ((aG.at_ (g':=w.heap.size) w 107 #[.int .i64 N,.slice W V.length cw,.slice S m cs] rfl).alloc (.cells #[.int .i64 N',.slice W' V'.length PS,.slice S' m' cs'] 107));have B1:=qh (aG.at_ (g':=w.heap.size+1) (w.alloc (.cells #[.int .i64 N,.slice W V.length cw,.slice S m cs] 107)) 107 #[.int .i64 N',.slice W' V'.length PS,.slice S' m' cs'] qj);obtain⟨b,hb⟩:∃b,b=(decide (N=N')&&nK N V V'):=⟨_,rfl⟩;rw[←hb]at HEB nJ;clear hra hsa hrb hsb hb
 go_enter Tryz.func72,Tryz.ntmps72
 go_wp2_with fail
 refine HEB.o.mono ?_;rintro e w1 ⟨rfl,hb1⟩;have hz0:=B0.out.lt;have hz1:=B1.out.lt;have C0:=qh (B0.out.below hb1 hz0);have C1:=qh (B1.out.below hb1 hz1);have T1:=qh (jR.o.below hb1);have T2:=qh (HS2.o.below hb1);have HW1:=HW.st hb1;have c2:=qc C0.out 2 rfl;have d2:=qc C1.out 2 rfl;clear hb1 HEB jR HS2 hz0 hz1 HW C0 C1 B0 B1
 cases b with
 |false=>
  go_wp2_with fail
  go_ret
  exact⟨by rw[nJ.o];rfl,HW1.o⟩
 |true=>
  go_wp2_with fail
  refine(pP.o _ T1.out T2.out).mono ?_;rintro e w2 ⟨rfl,q2,rfl⟩
  go_wp2_with fail
  go_ret
  exact⟨by rw[nJ.o,Bool.true_and];rfl,Below.drewN' HW1.o q2⟩
theorem zP34x1 {p:Prop}(h:p:=by
 have h2:k<M.length:=qo;obtain⟨g,o,rfl,hg,hr⟩:=(HA.o.below fJ.o) qo;obtain⟨g',o',rfl,hg',hr'⟩:=(HB.o.below fJ.o) qo;obtain⟨a,ha⟩:∃a,L[k]?=some a:=⟨_,List.getElem?_eq_getElem h1⟩;obtain⟨b,hb⟩:∃b,M[k]?=some b:=⟨_,List.getElem?_eq_getElem h2⟩;have HA1:=qh (hr k a ha);have HB1:=qh (hr' k b hb);have HQ:=qh (fun q=>DF a b (d.W k) (d.S k) (d'.W k) (d'.S k) (d.cw k) (d.cs k) (d.m k) (d'.cw k) (d'.cs k) (d'.m k) (wr.drewN q) (Rd.drewN HA1.o.rw q) (Rd.drewN HA1.o.rs q) (Rd.drewN HB1.o.rw q) (Rd.drewN HB1.o.rs q) HA1.o.ln HB1.o.ln (G1.out a (List.mem_of_getElem? ha)) (G2.out b (List.mem_of_getElem? hb)) (K1.out.2 k a ha).ml (K2.out.2 k b hb).ml);have HD:=qh (show cW (L.drop k) (M.drop k) k=if JX a b=true then cW (L.drop (k+1)) (M.drop (k+1)) (k+1)else k by
  rw[List.drop_eq_getElem_cons h1,List.drop_eq_getElem_cons h2];rw[List.getElem?_eq_getElem h1]at ha;rw[List.getElem?_eq_getElem h2]at hb;injection ha with ha;injection hb with hb;rw[ha,hb]
  rfl)
 have c0:=HA1.o.c0;have c1:=HA1.o.c1;have c2:=HA1.o.c2;have d0:=HB1.o.c0;have d1:=HB1.o.c1;have d2:=HB1.o.c2;have hga:=HA1.o.lt;have hgb:=HB1.o.lt;have b1:(0:Int)≤(k:Int):=qo;have b2:(k:Int)<(L.length:Int):=qo;have b3:(k:Int)<(M.length:Int):=qo;clear hr hr' ha hb
 go_wp2_with fail
 go_region_held3 (fun w'=>w'.cell? ⟨g,o+k*3,none⟩=some (.int .i64 a.1)∧w'.cell? ⟨g,o+k*3+1,none⟩=some (.slice (d.W k) a.2.1.length (d.cw k))∧w'.cell? ⟨g,o+k*3+2,none⟩=some (.slice (d.S k) (d.m k) (d.cs k))∧w'.cell? ⟨g',o'+k*3,none⟩=some (.int .i64 b.1)∧w'.cell? ⟨g',o'+k*3+1,none⟩=some (.slice (d'.W k) b.2.1.length (d'.cw k))∧w'.cell? ⟨g',o'+k*3+2,none⟩=some (.slice (d'.S k) (d'.m k) (d'.cs k))) (go_keep) ((go_at_call 72;refine(HQ.o 1).mono ?_;rintro e w5 ⟨rfl,hb5⟩;have hb6:Below wr.heap.size wr w5:=(Below.drewN' (Below.refl _ _) 1).trans hb5;have bE:=fJ.st hb6;have c0:=aD hb6 hga c0;have c1:=aD hb6 hga c1;have c2:=aD hb6 hga c2;have d0:=aD hb6 hgb d0;have d1:=aD hb6 hgb d1;have d2:=aD hb6 hgb d2;clear hb5 hb6))
 rename_i hHeld
 clear hHeld c0 c1 c2 d0 d1 d2
 by_cases hq:JX a b=true
 ·have dP:=qh (HX.o.trans (HD.o.trans (if_pos hq)))
  rw[hq]
  go_wp2_with fail
  go_roundw
  case rel=>exact⟨k+1,by omega,qg,dP,bE⟩
  case measure=>exact qs
 ·have dP:=qh (HX.o.trans (HD.o.trans (if_neg hq)))
  rw[Bool.not_eq_true]at hq;rw[hq]
  go_wp2_with fail
  go_ret
  exact⟨by rw[dP.o];rfl,bE.o⟩):p:=h
theorem zP34x7 {p:Prop}(h:p:=by
 go_wp2_with fail
 go_ret
 exact⟨by rw[dP.o];(first|rfl|exact congrArg (fun x:Int=>Ending.returned (.int .i64 x)) qo),fJ.o⟩):p:=h
theorem EP (L M:List cJ)(A B:OA)(c c':Nat)(d d':fL)(w:World)(ha:I3 w A L d)(hb:I3 w B M d')(k1:Mv L d)(k2:Mv M d')(g1:∀b∈L,KQ b)(g2:∀b∈M,KQ b):
 Calls Tryz.prog 40 #[.slice A L.length c,.slice B M.length c'] w fun e w'=>e=.returned (.int .i64 (cW L M 0))∧Below w.heap.size w w':=by
 have HA:=qh ha;have HB:=qh hb;have K1:=qh k1;have K2:=qh k2;have G1:=qh g1;have G2:=qh g2;have hl:=k1.1;have hm:=k2.1;clear ha hb k1 k2 g1 g2
 by_cases hml:M.length<L.length
 ·have hmi:(M.length:Int)<(L.length:Int):=qo
  have hmj:¬(L.length:Int)≤(M.length:Int):=qo
  go_enter Tryz.func40,Tryz.ntmps40
  go_wp2_with fail
  go_loopw [11] (fun x wr=>∃k:Nat,k≤M.length∧x=.int .i64 k∧Hq (cW L M 0=cW (L.drop k) (M.drop k) k)∧Hq (Below w.heap.size w wr)) (fun x _=>M.length-(intOf x).toNat)
  case atStart=>exact⟨0,Nat.zero_le _,rfl,qh rfl,qh (Below.refl _ _)⟩
  case round=>
   obtain⟨k,hk,rfl,HX,fJ⟩:=hrel
   by_cases hlt:k<M.length
   ·have h1:k<L.length:=qo
    exact zP34x1
   ·have hkn:k=M.length:=qo
    have dP:=qh (HX.o.trans (zT (.inr ⟨by rw[Ne,List.drop_eq_nil_iff];omega,by rw[List.drop_eq_nil_iff];omega⟩)));have hne:((L.length:Int)==(M.length:Int))=false:=by rw[beq_eq_false_iff_ne];omega
    have hne2:¬(L.length:Int)=(M.length:Int):=qo;have hkn2:(k:Int)=(M.length:Int):=qo;subst hkn
    exact zP34x7
 ·have hmi:¬(M.length:Int)<(L.length:Int):=qo
  have hmj:(L.length:Int)≤(M.length:Int):=qo
  go_enter Tryz.func40,Tryz.ntmps40
  go_wp2_with fail
  go_loopw [11] (fun x wr=>∃k:Nat,k≤L.length∧x=.int .i64 k∧Hq (cW L M 0=cW (L.drop k) (M.drop k) k)∧Hq (Below w.heap.size w wr)) (fun x _=>L.length-(intOf x).toNat)
  case atStart=>exact⟨0,Nat.zero_le _,rfl,qh rfl,qh (Below.refl _ _)⟩
  case round=>
   obtain⟨k,hk,rfl,HX,fJ⟩:=hrel
   by_cases hlt:k<L.length
   ·have h1:k<L.length:=qo
    exact zP34x1
   ·have hkn:k=L.length:=qo
    by_cases hll:L.length=M.length
    ·have dP:=qh (show cW L M 0= -1 by
      rw[HX.o,List.drop_eq_nil_of_le qo,List.drop_eq_nil_of_le qo]
      rfl)
     have hne:((L.length:Int)==(M.length:Int))=true:=by simp;omega
     have hne2:(L.length:Int)=(M.length:Int):=qo;subst hkn
     exact zP34x7
    ·have dP:=qh (HX.o.trans (zT (.inl ⟨by rw[List.drop_eq_nil_iff];omega,by rw[Ne,List.drop_eq_nil_iff];omega⟩)))
     have hne:((L.length:Int)==(M.length:Int))=false:=by rw[beq_eq_false_iff_ne];omega
     have hne2:¬(L.length:Int)=(M.length:Int):=qo;subst hkn
     exact zP34x7
theorem Ec {k p c b y d n:Int}(h:iQ k p c b y d n=true): -1≤c∧c≤4:=by
 unfold iQ at h
 by_cases hp:p<0
 ·rw[if_pos hp]at h;cases h
 rw[if_neg hp]at h
 by_cases h1:k=1
 ·rw[if_pos h1]at h;simp at h;omega
 rw[if_neg h1]at h
 by_cases h2:k=2
 ·rw[if_pos h2]at h;simp[aJ]at h;omega
 rw[if_neg h2]at h
 by_cases h3:k=3
 ·rw[if_pos h3]at h;simp at h;omega
 rw[if_neg h3]at h
 by_cases h4:k=4
 ·rw[if_pos h4]at h;simp[aJ]at h;omega
 rw[if_neg h4]at h
 by_cases h5:k=5
 ·rw[if_pos h5]at h;simp[aJ]at h;omega
 rw[if_neg h5]at h
 cases h
theorem Am (z:Nat→Int)(k:Nat):(EB z k).length≤k:=by
 induction k with
 |zero=>exact Nat.le_refl _
 |succ k ih=>
  simp only[EB]
  split
  ·rw[List.length_append,List.length_singleton]
   omega
  ·exact Nat.zero_le _
theorem Xu {z:Nat→Int}{N:Nat}(hv:(cnt z 0 N).isSome=true){k:Nat}(hk:k≤N):GH (EB z k):=by
 induction k with
 |zero=>intro x hx;cases hx
 |succ k ih=>
  intro x hx
  simp only[EB]at hx
  by_cases h:z (k*6)=1
  ·rw[if_pos h]at hx
   rcases List.mem_append.1 hx with hx|hx
   ·exact ih qo x hx
   ·have h1:=Y9 hv (show k<N by omega)
    have h2:=h1.1;rw[h]at h2;obtain⟨p0,p1,p2⟩:=DE h2;rw[List.mem_singleton.1 hx];have h3:=W5 (c:=z (k*6+2)) (x:=z (k*6+1)+1) p2 qo;unfold OS;omega
  ·rw[if_neg h]at hx
   cases hx
theorem Hg {B n:Nat}{w:World}{e:TypeId}{v:Value}{xs:List Value}(h:w.ownsRow B e 3 v (n+1) xs):∃g c,v=.slice (some ⟨g,0,none⟩) (n+1) c:=by
 rcases h.2 with⟨_,h1⟩|⟨g,cap,_,e,_⟩
 ·omega
 ·exact⟨g,cap,e⟩
theorem zP34x0 {p:Prop}(h:p:=by
 go_wp2_with fail
 refine aY (S:=fun w'=>w'.cell? ⟨g5,q*3+2,none⟩=some (.slice (d1.S q) (d1.m q) (d1.cs q))∧w'.cell? ⟨ga,off+k*6,none⟩=some (.int .i64 z0)∧w'.cell? ⟨ga,off+k*6+1,none⟩=some (.int .i64 z1)∧w'.cell? ⟨ga,off+k*6+2,none⟩=some (.int .i64 z2)∧w'.cell? ⟨ga,off+k*6+3,none⟩=some (.int .i64 z3)∧w'.cell? ⟨ga,off+k*6+4,none⟩=some (.int .i64 z4)∧w'.cell? ⟨ga,off+k*6+5,none⟩=some (.int .i64 z5)) _ qj qk qk ⟨m2,q0,q1,q2,q3,q4,q5⟩ (fun hHeld=>?_)
 simp only[List.dropLast,List.getLast_cons_cons,List.getLast_singleton,List.length_cons,List.length_nil]
 refine qt 0 hHeld ?_;refine qt 1 hHeld ?_;refine qt 2 hHeld ?_;refine qt 3 hHeld ?_;refine qt 4 hHeld ?_;refine qt 5 hHeld ?_;refine qt 6 hHeld ?_;refine qt 7 hHeld ?_;refine qt 8 hHeld ?_
 simp only[List.getElem_toArray,List.getElem_cons_succ,List.getElem_cons_zero,Act.put,List.setIfInBounds_toArray,List.set_cons_zero,List.set_cons_succ]
 refine wpAnyH_ready (rs:=[9]) qk qj ?_;refine AllReadyH.cons rfl (fun K hK=>?_) AllReadyH.nil
 simp only[List.getElem_toArray,List.getElem_cons_succ,List.getElem_cons_zero]
 go_simp
 refine hK.out _ _ (by go_keep) (fun dK=>?_);clear hK K hHeld;refine wpAnyH_ready (rs:=[10]) qk qj ?_;refine AllReadyH.cons rfl (fun K hK=>?_) AllReadyH.nil
 simp only[List.getElem_toArray,List.getElem_cons_succ,List.getElem_cons_zero]
 have hlo1:=lV.o.lo b iD.o;have hq2:o1.length-1=q:=qo;have hlv:i7 o1.length d1=.slice (d1.S q) (d1.m q) (d1.cs q):=by unfold i7;rw[hq2]
 rw[hlv,hq2]at hlo1;have Vw:d1.m q≤3000:=by
  have h1:=lV.o.ln q b hb;have h2:=KC.o b (List.mem_of_getElem? hb);omega
 refine kR wy.drew (by rfl) (.tmp 82) (.tmp 87) _ (by rfl) w.heap.size 116 k0 _ 6 48 Tryz.underlying42 hk0 kz ks kb rfl qo (.slice (d1.S q) (d1.m q) (d1.cs q)) (d1.m q) (ints b.2.2) (by rfl) hlo1 _ 1 1 [.int .i64 z0,.int .i64 z1,.int .i64 z2,.int .i64 z3,.int .i64 z4,.int .i64 z5] (by rfl) rfl (by simp[Value.oneCell']) qm qo lW.o.size ?_;intro v8 w8 jN cG kB;obtain⟨A8,c8,rfl⟩:=aE jN;have hl5:¬(Value.slice (d1.S q) (d1.m q) (d1.cs q)).ownBlock=some g5:=fun e=>lV.o.lv g5 rfl (by rw[hlv];exact e);have sZ:¬(Value.slice (d1.S q) (d1.m q) (d1.cs q)).ownBlock=some ga:=fun e=>by
  have:=(hlo1.lt ga e).1;omega
 have u2:=(cG.cells (g:=g5) E4 hl5 (q*3+2)).trans m2;have v0:=(cG.cells (g:=ga) t6 sZ (off+k*6)).trans q0;have v1:=(cG.cells (g:=ga) t6 sZ (off+k*6+1)).trans q1;have v2:=(cG.cells (g:=ga) t6 sZ (off+k*6+2)).trans q2;have v3:=(cG.cells (g:=ga) t6 sZ (off+k*6+3)).trans q3;have v4:=(cG.cells (g:=ga) t6 sZ (off+k*6+4)).trans q4;have v5:=(cG.cells (g:=ga) t6 sZ (off+k*6+5)).trans q5;have f5:w8.frozen? ⟨g5,q*3+2,none⟩=false:=(World.frozen?_of_block (w:=wy.drew) (a:=⟨g5,q*3+2,none⟩) (cG.block g5 E4 hl5)).trans (lV.o.own.frozenAt (q*3+2));refine hK.out _ _ ⟨u2,v0,v1,v2,v3,v4,v5⟩ (fun bF=>?_);clear hK K dK;have mT:=qh ((lV.o.drewN 1).add iD.o (A':=A8) (c':=c8) (s:=[z0,z1,z2,z3,z4,z5]) rfl (by rw[hq2];exact jN) (by rw[hlv];exact cG) (by rw[hlv,hq2];exact kB));rw[hq2]at mT;have FG:=qh (Below.setCell (p:=⟨g5,q*3+2,none⟩) (lW.o.drew.trans (cG.own (w:=wy.drew) hlo1 lW.o.size)) hg5 (.slice A8 (d1.m q+1) c8));refine qt 11 bF ?_;refine qt 12 bF ?_
 simp only[List.getElem_toArray,List.getElem_cons_succ,List.getElem_cons_zero,Act.put,List.setIfInBounds_toArray,List.set_cons_zero,List.set_cons_succ]
 refine wpAnyH_done qk ?_ _;refine bZ.of ?_
 go_simp
 have nV:ga≠g5:=qo;have x0:(w8.setCell ⟨g5,q*3+2,none⟩ (.slice A8 (d1.m q+1) c8)).cell? ⟨ga,off+k*6,none⟩=some (.int .i64 z0):=(World.cell?_of_block (Below.heap_setCell w8 _ _ ga nV)).trans v0;have x1:(w8.setCell ⟨g5,q*3+2,none⟩ (.slice A8 (d1.m q+1) c8)).cell? ⟨ga,off+k*6+1,none⟩=some (.int .i64 z1):=(World.cell?_of_block (Below.heap_setCell w8 _ _ ga nV)).trans v1;have x2:(w8.setCell ⟨g5,q*3+2,none⟩ (.slice A8 (d1.m q+1) c8)).cell? ⟨ga,off+k*6+2,none⟩=some (.int .i64 z2):=(World.cell?_of_block (Below.heap_setCell w8 _ _ ga nV)).trans v2;have x3:(w8.setCell ⟨g5,q*3+2,none⟩ (.slice A8 (d1.m q+1) c8)).cell? ⟨ga,off+k*6+3,none⟩=some (.int .i64 z3):=(World.cell?_of_block (Below.heap_setCell w8 _ _ ga nV)).trans v3;have x4:(w8.setCell ⟨g5,q*3+2,none⟩ (.slice A8 (d1.m q+1) c8)).cell? ⟨ga,off+k*6+4,none⟩=some (.int .i64 z4):=(World.cell?_of_block (Below.heap_setCell w8 _ _ ga nV)).trans v4;have x5:(w8.setCell ⟨g5,q*3+2,none⟩ (.slice A8 (d1.m q+1) c8)).cell? ⟨ga,off+k*6+5,none⟩=some (.int .i64 z5):=(World.cell?_of_block (Below.heap_setCell w8 _ _ ga nV)).trans v5;clear bF v0 v1 v2 v3 v4 v5 u2 f5 cG jN kB hlo1 m2 q0 q1 q2 q3 q4 q5;obtain⟨w9,DB⟩:=qx (w8.setCell ⟨g5,q*3+2,none⟩ (.slice A8 (d1.m q+1) c8));rw[←DB]at mT FG x0 x1 x2 x3 x4 x5 ⊢;clear DB;have hz2:=Ec pP.o.1;have TT:=qh (yE z0 z1 z2 z3 z4 z5 nn w9 qo qo)
 go_wp2_with fail
 refine TT.o.mono ?_;rintro e w10 ⟨rfl,BO⟩;have CH:=qh (mT.o.below BO);have fK:=FG.st BO;clear BO
 go_wp2_with fail
 go_roundw
 case rel=>exact⟨k+1,eO o1 (qB z k),d1.add q A8 c8,some ⟨g5,0,none⟩,c4,bU z0 z2 nn,by omega,qg,by rw[cZ,hq],rfl,qh (fun _=>⟨HT1.o,pP.o.2.1.symm,by rw[RU.o];exact World.ownsRow_nil _ _ _ _,fun x hx=>by cases hx⟩),qh (fun h=>by omega),qh (by rw[cZ,MK.o];exact CH.o),by rw[cZ];omega,by rw[cZ];omega,fK⟩
 case measure=>exact qs):p:=h
theorem zP34x8 {p:Prop}(h:p:=by
 have h61:((o.length:Int)==60)=true:=by simp;omega
 have h62:(o.length:Int)=60:=qo
 go_wp2_with fail
 go_ret2
 exact⟨HB2.o,by rw[kL.o];rfl⟩):p:=h
theorem zP34x10 {p:Prop}(h:p:=by
 have hl2:(40:Int)<(L.length:Int):=qo
 go_wp2_with fail
 go_ret2
 exact⟨aR.o,by rw[kL.o];rfl⟩):p:=h
theorem PW (A:OA)(N c:Nat)(z:Nat→Int)(w:World)(ha:Rd w A (N*6) (fun j=>.int .i64 (z j)))(hN:N≤2000)(hv:(cnt z 0 N).isSome=true):
 Calls Tryz.prog 71 #[.slice A N c] w (adt w (jQ z N)):=by
 obtain⟨i0,hi,iz,is,ib⟩:=info_parts info64;obtain⟨j0,hj0,jz,js,jb⟩:=info_parts rz;obtain⟨k0,hk0,kz,ks,kb⟩:=info_parts qy;have HA:=qh ha;have HV:=qh hv;have fD:=qh ((DJ w).below ((Below.refl _ _).alloc ql (.cells #[] 2)));have yN:=qh (DJ w);have HB1:=qh (((Below.refl w.heap.size w).alloc ql (.cells #[.int .i64 0,.slice none 0 0,.slice none 0 0] 107)).alloc qj (.cells #[] 2));have HW1:=qh (World.ownsRow_made (base:=w.heap.size) (e:=2) (size:=1) (w.alloc (.cells #[.int .i64 0,.slice none 0 0,.slice none 0 0] 107)) #[] 0 qj qm rfl);clear ha hv
 go_enter Tryz.func71,Tryz.ntmps71
 go_wp2_with fail
 go_loopw [4,5,6,7,8] (fun ov nv wv x _ wr=>∃(k:Nat) (o:List cJ) (d:fL) (A4:OA) (c4:Nat) (nI:Int),k≤N+1∧x=.int .i64 k∧ov=.slice A4 o.length c4∧nv=.int .i64 nI∧Hq (k≤N→kQ z k=some o∧nI=i8 z k∧wr.ownsRow w.heap.size 2 1 wv (EB z k).length (ints (EB z k))∧∀x,wv.ownBlock=some x→¬EX (.slice A4 o.length c4) o d x)∧Hq (k=N+1→jQ z N=some o)∧Hq (l6 w.heap.size (.slice A4 o.length c4) o d wr)∧1≤o.length∧o.length≤60∧Hq (Below w.heap.size w wr)) (fun _ _ _ x _ _=>N+2-(intOf x).toNat)
 case atStart=>exact⟨0,[(0,[],[])],_,_,_,0,by omega,rfl,rfl,rfl,qh (fun _=>⟨rfl,rfl,by have h:=HW1.o;simp only[World.size_alloc]at h;exact h,fun x hx hi=>by
  have h1:=yN.o.DZ (Nat.zero_lt_one) hi;injection hx with hx;rw[World.size_alloc]at h1
  simp at hx
  omega⟩),qh (fun h=>by omega),fD,by simp,by simp,HB1⟩
 case round=>
  clear fD yN HB1 HW1;obtain⟨k,o,d,A4,c4,nI,hk,rfl,rfl,rfl,rG,HFI,HM,hlo1,V1,HB⟩:=hrel
  by_cases hkN:k≤N
  case neg=>
   obtain rfl:k=N+1:=qo;have b0:¬((N+1:Nat):Int)≤(N:Int):=qo;have pO:=qh (HFI.o rfl)
   go_wp2_with fail
   go_ret2
   exact⟨HB.o,by rw[pO.o];exact⟨A4,c4,d,rfl,HM.o⟩⟩
  obtain⟨ht0,rfl,hw0,hs0⟩:=rG.o hkN;have HT:=qh ht0;have rA:=qh hw0;have EZ:=qh hs0;clear ht0 hw0 hs0 rG HFI;have F9:=qh (xH HV.o hkN);have hwl:=Am z k;have yI:=qh (FH HV.o hkN);have Wy:=qh (Xu HV.o hkN);have K7:=qh (Xt z k);have QI:=qh (fun x hx=>HM.o.DZ (by omega:0<o.length) (x:=x) hx);have b0:(k:Int)≤(N:Int):=qo;have b1:(0:Int)≤(k:Int):=qo
  by_cases hlt:k<N
  ·obtain⟨ga,off,rfl,hg,hr⟩:=HA.o qo
   have r0:=aD HB.o hg (hr (k*6) qo);have r1:=aD HB.o hg (hr (k*6+1) qo);have r2:=aD HB.o hg (hr (k*6+2) qo);have r3:=aD HB.o hg (hr (k*6+3) qo);have r4:=aD HB.o hg (hr (k*6+4) qo);have r5:=aD HB.o hg (hr (k*6+5) qo);have pP:=qh (Y9 HV.o hlt);have iO:=qh (show OS z k=z (k*6+2)*(z (k*6+1)+1)from rfl);have C7:=qh (show EB z (k+1)=if z (k*6)=1 then EB z k++[OS z k]else []from rfl);have rB:=qh (show kQ z (k+1)=if z (k*6)=1 then kQ z k else(kQ z k).bind fun o=>(flush (i8 z k) (mG z k) o).map fun o'=>eO o' (qB z k)from rfl);have MK:=qh (show qB z k=[z (k*6),z (k*6+1),z (k*6+2),z (k*6+3),z (k*6+4),z (k*6+5)]from rfl);have HST:=qh (YD HT.o);rw[HT.o]at rB;obtain⟨z0,hz0⟩:=qx (z (k*6));obtain⟨z1,hz1⟩:=qx (z (k*6+1));obtain⟨z2,hz2⟩:=qx (z (k*6+2));obtain⟨z3,hz3⟩:=qx (z (k*6+3));obtain⟨z4,lD⟩:=qx (z (k*6+4));obtain⟨z5,EM⟩:=qx (z (k*6+5))
   simp only[←hz0,←Nat.add_assoc]at r0
   simp only[←hz1,←Nat.add_assoc]at r1
   simp only[←hz2,←Nat.add_assoc]at r2
   simp only[←hz3,←Nat.add_assoc]at r3
   simp only[←lD,←Nat.add_assoc]at r4
   simp only[←EM,←Nat.add_assoc]at r5
   rw[←hz0,←hz1,←hz2,←hz3,←lD,←EM]at pP MK;rw[←hz1,←hz2]at iO;rw[←hz0]at C7 rB;clear hr hz0 hz1 hz2 hz3 lD EM;obtain⟨n,hn⟩:=qx (i8 z k);obtain⟨L,hL⟩:=qx (mG z k);obtain⟨R,hR⟩:=qx (EB z k);rw[←hn]at pP rB F9 yI ⊢;rw[←hL]at rB yI K7;rw[←hR]at C7 rA hwl Wy K7;clear hn hL hR;have hcn:=F9.o;have hgw:ga<wr.heap.size:=Nat.lt_of_lt_of_le hg HB.o.size;have b2:(k:Int)<(N:Int):=qo
   by_cases hc1:z0=1
   ·subst hc1
    obtain⟨p0,p1,p2⟩:=DE pP.o.1;obtain⟨s1,s2,s3⟩:=W5 (c:=z2) (x:=z1+1) p2 qo;have s0:IntKind.i64.wrap (z1+1)=z1+1:=IntWalk.i64_in _ qo;rw[if_pos rfl,iO.o]at C7;rw[if_pos rfl]at rB;have j8:=qh (show i8 z (k+1)=n by rw[pP.o.2.1];simp[bU])
    go_wp2_with fail
    refine aY (S:=fun w'=>w'.cell? ⟨ga,off+k*6+1,none⟩=some (.int .i64 z1)∧w'.cell? ⟨ga,off+k*6+2,none⟩=some (.int .i64 z2)) _ qj qk qk ⟨r1,r2⟩ (fun hHeld=>?_)
    simp only[List.dropLast,List.getLast_cons_cons,List.getLast_singleton,List.length_cons,List.length_nil]
    refine qt 0 hHeld ?_;refine qt 1 hHeld ?_;refine qt 2 hHeld ?_;refine qt 3 hHeld ?_;refine qt 4 hHeld ?_;refine qt 5 hHeld ?_;refine qt 6 hHeld ?_;refine qt 7 hHeld ?_;refine qt 8 hHeld ?_;refine qt 9 hHeld ?_;refine qt 10 hHeld ?_;refine qt 11 hHeld ?_;refine qt 12 hHeld ?_
    simp only[List.getElem_toArray,List.getElem_cons_succ,List.getElem_cons_zero,Act.put,List.setIfInBounds_toArray,List.set_cons_zero,List.set_cons_succ]
    refine wpAnyH_ready (rs:=[13]) qk qj ?_;refine AllReadyH.cons rfl (fun K hK=>?_) AllReadyH.nil
    simp only[List.getElem_toArray,List.getElem_cons_succ,List.getElem_cons_zero]
    go_simp
    refine hK.out _ _ (by go_keep) (fun dK=>?_);clear hK K hHeld;refine wpAnyH_ready (rs:=[14]) qk qj ?_;refine AllReadyH.cons rfl (fun K hK=>?_) AllReadyH.nil
    simp only[List.getElem_toArray,List.getElem_cons_succ,List.getElem_cons_zero]
    refine kR wr.drew (by rfl) (.tmp 30) (.tmp 43) _ (by rfl) w.heap.size 2 i0 _ 1 8 Tryz.underlying61 hi iz is ib rfl qo u6 R.length (ints R) (by rfl) (own_drewN rA.o 1) _ 1 1 [.int .i64 (z2*(z1+1))] (by rfl) rfl (by simp[Value.oneCell']) qm qo HB.o.size ?_;intro v8 w8 jN cG kB;obtain⟨A8,c8,rfl⟩:=aE jN;have rP:=qh jN;have QE:=qh ((HM.o.drewN 1).fr qo cG (fun x hx he=>EZ.o x he hx));have dV:=qh (HB.o.drew.trans (cG.own (w:=wr.drew) (own_drewN rA.o 1) HB.o.size));have YZ:=qh (show∀x,(Value.slice A8 (R.length+1) c8).ownBlock=some x→¬EX (.slice A4 o.length c4) o d x from fun x hx hi=>by
     rcases kB with h1|h1
     ·exact EZ.o x (h1.symm.trans hx) hi
     ·rw[h1]at hx
      injection hx with hx;have h2:=QI.o x hi;have h3:wr.drew.heap.size=wr.heap.size:=rfl;omega)
    have hag:¬u6.ownBlock=some ga:=fun e=>by
     have:=(rA.o.lt ga e).1;omega
    have q1:=(cG.cells (g:=ga) hgw hag (off+k*6+1)).trans r1;have q2:=(cG.cells (g:=ga) hgw hag (off+k*6+2)).trans r2;refine hK.out _ _ ⟨q1,q2⟩ (fun bF=>?_);clear hK K dK;refine wpAnyH_done qk ?_ _;refine bZ.of ?_
    go_simp
    clear bF q1 q2 cG jN kB
    go_wp2_with fail
    go_roundw
    case rel=>exact⟨k+1,o,d,A4,c4,n,by omega,qg,rfl,rfl,qh (fun _=>⟨rB.o,j8.o.symm,by rw[C7.o,aL,List.length_append];exact rP.o,YZ.o⟩),qh (fun h=>by omega),QE,hlo1,V1,dV⟩
    case measure=>exact qs
   ·have htn:=rB.o.trans (if_neg hc1)
    rw[Option.bind_some]at htn;have GK:=qh htn;have RU:=qh (C7.o.trans (if_neg hc1));have hcb:(z0==1)=false:=by rw[beq_eq_false_iff_ne];exact hc1
    clear htn C7 rB iO;obtain⟨A6,c6,rfl⟩:=aE rA.o;have hJ:=qh (LQ R A6 c6 wr (j5 rA.o) qo Wy.o);rw[K7.o]at hJ
    go_wp2_with fail
    refine hJ.o.mono ?_;rintro e w1 h1;obtain⟨A7,c7,rfl,JM,JK,bM⟩:=h1.rd;have aR:=HB.st bM;have yM:=qh (HM.o.below bM);have yK:=qh JK;have zi:=qh (show∀x,(Value.slice A7 L.length c7).ownBlock=some x→¬EX (.slice A4 o.length c4) o d x from fun x hx hi=>by
     have h1:=(JM.lt x hx).1;have h2:=QI.o x hi;omega)
    have HG7:=qh (show∀x,(Value.slice A7 L.length c7).ownBlock=some x→w.heap.size≤x from fun x hx=>Nat.le_trans HB.o.size (JM.lt x hx).1);have hLl:L.length≤R.length:=by have:=G.tR R;rw[K7.o]at this;exact this
    have hz7:wr.heap.size≤w1.heap.size:=bM.size;have q0:=aD bM hgw r0;have q1:=aD bM hgw r1;have q2:=aD bM hgw r2;have q3:=aD bM hgw r3;have q4:=aD bM hgw r4;have q5:=aD bM hgw r5;clear r0 r1 r2 r3 r4 r5;clear h1 JM JK bM hJ HM rA HB EZ
    by_cases hlen:40<L.length
    ·have kL:=qh (show jQ z N=none from YF (j:=k+1) hlt (by rw[GK.o];unfold flush;rw[if_pos hlen];rfl))
     exact zP34x10
    have hl2:¬(40:Int)<(L.length:Int):=qo;obtain⟨nn,rfl⟩:∃nn:Nat,n=nn:=⟨n.toNat,(Int.toNat_of_nonneg F9.o.1).symm⟩
    by_cases hL0:L.length=0
    ·have ht:triv nn L=true:=by rw[List.length_eq_zero_iff.1 hL0];exact V9 nn
     have b7:¬(0:Int)<(L.length:Int):=qo;have KC:=qh (show∀b∈o,b.2.2.length≤k*6 from HST.o);have aT:=qh (show flush nn L o=some o by unfold flush;rw[if_neg hlen];exact if_pos ht);obtain⟨wy,q7⟩:=qx (w1);subst q7;obtain⟨o1,ho1⟩:=qx (o);subst ho1;obtain⟨d1,hd1⟩:=qx (d);subst hd1;have lV:=yM;have lW:=aR;clear yM aR yK zi;have HT1:=qh (show kQ z (k+1)=some (eO o1 (qB z k))by rw[GK.o,aT.o];rfl);obtain⟨q,hq⟩:∃q,o1.length=q+1:=⟨o1.length-1,by omega⟩;obtain⟨b,hb⟩:∃b,o1[q]?=some b:=⟨_,List.getElem?_eq_getElem qo⟩;have iD:=qh (show o1.getLast?=some b by rw[List.getLast?_eq_getElem?,hq];exact hb);obtain⟨g5,c5,hv5,hg5,E4⟩:=lV.o.form qo;injection hv5 with hv5 hv6 rM;clear hv6;subst hv5 rM;obtain⟨_,_,m2⟩:=ER lV.o hb;have b4:(0:Int)≤(q:Int):=qo;have b5:(q:Int)<((q+1:Nat):Int):=qo;have e7:((q+1:Nat):Int)-1=(q:Int):=qo;have t6:ga<wy.heap.size:=World.block_lt_of_cell? wy _ q0;rw[hq]
     exact zP34x0
    have K9:=qh (show Calls Tryz.prog 119 #[.int .i64 nn,.slice A7 L.length c7,.slice none 0 0] w1 _ from wT (n:=nn) L [] A7 none c7 0 w1 yK.o (fun h0=>absurd h0 (Nat.lt_irrefl 0)) qo yI.o (fun x hx=>by cases hx) qo qj);have b7:(0:Int)<(L.length:Int):=qo
    go_wp2_with fail
    refine K9.o.mono ?_;rintro e w2 ⟨rfl,hb2⟩;rw[CY];have HB2:=aR.st hb2;have dA:=qh (yM.o.below hb2);have HR2:=qh (Rd.below yK.o hb2);have NH:ga<w1.heap.size:=World.block_lt_of_cell? w1 _ q0;replace q0:=aD hb2 NH q0;replace q1:=aD hb2 NH q1;replace q2:=aD hb2 NH q2;replace q3:=aD hb2 NH q3;replace q4:=aD hb2 NH q4;replace q5:=aD hb2 NH q5;clear hb2 K9 aR yM yK NH
    by_cases ht:triv nn L=true
    ·rw[ht]
     have KC:=qh (show∀b∈o,b.2.2.length≤k*6 from HST.o);have aT:=qh (show flush nn L o=some o by unfold flush;rw[if_neg hlen];exact if_pos ht);obtain⟨wy,q7⟩:=qx (w2);subst q7;obtain⟨o1,ho1⟩:=qx (o);subst ho1;obtain⟨d1,hd1⟩:=qx (d);subst hd1;have lV:=dA;have lW:=HB2;clear dA HB2 HR2 zi;have HT1:=qh (show kQ z (k+1)=some (eO o1 (qB z k))by rw[GK.o,aT.o];rfl);obtain⟨q,hq⟩:∃q,o1.length=q+1:=⟨o1.length-1,by omega⟩;obtain⟨b,hb⟩:∃b,o1[q]?=some b:=⟨_,List.getElem?_eq_getElem qo⟩;have iD:=qh (show o1.getLast?=some b by rw[List.getLast?_eq_getElem?,hq];exact hb);obtain⟨g5,c5,hv5,hg5,E4⟩:=lV.o.form qo;injection hv5 with hv5 hv6 rM;clear hv6;subst hv5 rM;obtain⟨_,_,m2⟩:=ER lV.o hb;have b4:(0:Int)≤(q:Int):=qo;have b5:(q:Int)<((q+1:Nat):Int):=qo;have e7:((q+1:Nat):Int)-1=(q:Int):=qo;have t6:ga<wy.heap.size:=World.block_lt_of_cell? wy _ q0;rw[hq]
     exact zP34x0
    ·rw[Bool.not_eq_true]at ht
     rw[ht];have P4:¬triv nn L=true:=by rw[ht];exact Bool.false_ne_true
     have aT:=qh (show flush nn L o=some (o++[((nn:Int),L,[])])by unfold flush;rw[if_neg hlen];exact if_neg P4)
     by_cases h60:o.length=60
     ·have kL:=qh (show jQ z N=none from Sv (j:=k+1) hlt (o:=eO (o++[((nn:Int),L,[])]) (qB z k)) (by rw[GK.o,aT.o];rfl) (by rw[cZ];simp;omega))
      exact zP34x8
     ·have h61:((o.length:Int)==60)=false:=by rw[beq_eq_false_iff_ne];omega
      have h62:¬(o.length:Int)=60:=qo;have bo1:(0:Int)≤(o.length:Int):=qo;have bo2:(o.length:Int)<(o.length:Int)+1:=qo
      go_wp2_with (at_builtin;go_must (refine nN w2 rfl (.tmp 62) (.tmp 67) _ rfl w.heap.size 107 j0 _ 3 56 Tryz.underlying69 hj0 jz js jb rfl qo (.slice A4 o.length c4) o.length _ rfl dA.o.own _ 1 1 [.int .i64 nn,.slice A7 L.length c7,.slice none 0 0] w2.heap.size rfl rfl rfl (by simp[Value.oneCell']) qm qo HB2.o.size ?_);intro v' w' hown' hf' hat';have HOWN':=qh hown';have eR:=qh hf';have jB:=qh hat';clear hown' hf' hat';obtain⟨g9,c9,rfl⟩:=Hg HOWN'.o)
      have MG:=qh (dA.o.push (A:=A7) (W:=L) (c:=c7) (n:=nn) HR2.o (fun x hx e=>by
       obtain⟨_,a,rfl,rfl⟩:=hx;exact zi.o _ rfl (.inl e)) (fun x hx=>by obtain⟨_,a,rfl,rfl⟩:=hx;exact HG7.o _ rfl) HOWN'.o eR.o jB.o)
      have lW:=qh (HB2.o.trans (eR.o.own dA.o.own HB2.o.size));have hol:(o++[((nn:Int),L,[])]).length=o.length+1:=by simp
      have KC:=qh (show∀b∈o++[((nn:Int),L,[])],b.2.2.length≤k*6 from fun b hb=>by
       rcases List.mem_append.1 hb with hb|hb
       ·exact HST.o b hb
       ·rw[List.mem_singleton.1 hb]
        exact Nat.zero_le _)
      have hag:¬(Value.slice A4 o.length c4).ownBlock=some ga:=fun e=>by
       have:=(dA.o.own.lt ga e).1;omega
      have NM:ga<w2.heap.size:=World.block_lt_of_cell? w2 _ q0;replace q0:=(eR.o.cells (g:=ga) NM hag _).trans q0;replace q1:=(eR.o.cells (g:=ga) NM hag _).trans q1;replace q2:=(eR.o.cells (g:=ga) NM hag _).trans q2;replace q3:=(eR.o.cells (g:=ga) NM hag _).trans q3;replace q4:=(eR.o.cells (g:=ga) NM hag _).trans q4;replace q5:=(eR.o.cells (g:=ga) NM hag _).trans q5;obtain⟨d1,hd1⟩:=qx (d.push o.length A7 c7);obtain⟨o1,ho1⟩:=qx (o++[((nn:Int),L,[])]);have lV:=qh (show l6 w.heap.size (.slice (some ⟨g9,0,none⟩) o1.length c9) o1 d1 w' from by rw[hd1,ho1,hol];exact MG.o);rw[←ho1]at aT KC hol;have hlo1':1≤o1.length:=qo;have hlo60':o1.length≤60:=qo;clear NM hag hd1 ho1 MG HOWN' eR jB dA HB2 HR2 zi hlo1 V1
      rename World=>wy
      have HT1:=qh (show kQ z (k+1)=some (eO o1 (qB z k))by rw[GK.o,aT.o];rfl);obtain⟨q,hqo⟩:=qx (o.length);have hq:o1.length=q+1:=qo;rw[←hqo];clear hqo;obtain⟨b,hb⟩:∃b,o1[q]?=some b:=⟨_,List.getElem?_eq_getElem qo⟩;have iD:=qh (show o1.getLast?=some b by rw[List.getLast?_eq_getElem?,hq];exact hb);obtain⟨g5,c5,hv5,hg5,E4⟩:=lV.o.form qo;injection hv5 with hv5 hv6 rM;clear hv6;injection hv5 with hv5;injection hv5 with hv5 hv7 hv8;clear hv7 hv8;have Jm:=hv5.symm;clear hv5;subst Jm rM;obtain⟨_,_,m2⟩:=ER lV.o hb;have b4:(0:Int)≤(q:Int):=qo;have b5:(q:Int)<((q+1:Nat):Int):=qo;have e7:((q+1:Nat):Int)-1=(q:Int):=qo;have t6:ga<wy.heap.size:=World.block_lt_of_cell? wy _ q0;refine aY (S:=fun w'=>w'.cell? ⟨g5,q*3+2,none⟩=some (.slice (d1.S q) (d1.m q) (d1.cs q))∧w'.cell? ⟨ga,off+k*6,none⟩=some (.int .i64 z0)∧w'.cell? ⟨ga,off+k*6+1,none⟩=some (.int .i64 z1)∧w'.cell? ⟨ga,off+k*6+2,none⟩=some (.int .i64 z2)∧w'.cell? ⟨ga,off+k*6+3,none⟩=some (.int .i64 z3)∧w'.cell? ⟨ga,off+k*6+4,none⟩=some (.int .i64 z4)∧w'.cell? ⟨ga,off+k*6+5,none⟩=some (.int .i64 z5)) _ qj qk qk ⟨m2,q0,q1,q2,q3,q4,q5⟩ (fun hHeld=>?_)
      simp only[List.dropLast,List.getLast_cons_cons,List.getLast_singleton,List.length_cons,List.length_nil]
      refine qt 0 hHeld ?_;refine qt 1 hHeld ?_;refine qt 2 hHeld ?_;refine qt 3 hHeld ?_;refine qt 4 hHeld ?_;refine qt 5 hHeld ?_;refine qt 6 hHeld ?_;refine qt 7 hHeld ?_;refine qt 8 hHeld ?_
      simp only[List.getElem_toArray,List.getElem_cons_succ,List.getElem_cons_zero,Act.put,List.setIfInBounds_toArray,List.set_cons_zero,List.set_cons_succ]
      refine wpAnyH_ready (rs:=[9]) qk qj ?_;refine AllReadyH.cons rfl (fun K hK=>?_) AllReadyH.nil
      simp only[List.getElem_toArray,List.getElem_cons_succ,List.getElem_cons_zero]
      go_simp
      refine hK.out _ _ (by go_keep) (fun dK=>?_);clear hK K hHeld;refine wpAnyH_ready (rs:=[10]) qk qj ?_;refine AllReadyH.cons rfl (fun K hK=>?_) AllReadyH.nil
      simp only[List.getElem_toArray,List.getElem_cons_succ,List.getElem_cons_zero]
      have hlo1:=lV.o.lo b iD.o;have hq2:o1.length-1=q:=qo;have hlv:i7 o1.length d1=.slice (d1.S q) (d1.m q) (d1.cs q):=by unfold i7;rw[hq2]
      rw[hlv,hq2]at hlo1;have Vw:d1.m q≤3000:=by
       have h1:=lV.o.ln q b hb;have h2:=KC.o b (List.mem_of_getElem? hb);omega
      refine kR wy.drew (by rfl) (.tmp 82) (.tmp 87) _ (by rfl) w.heap.size 116 k0 _ 6 48 Tryz.underlying42 hk0 kz ks kb rfl qo (.slice (d1.S q) (d1.m q) (d1.cs q)) (d1.m q) (ints b.2.2) (by rfl) hlo1 _ 1 1 [.int .i64 z0,.int .i64 z1,.int .i64 z2,.int .i64 z3,.int .i64 z4,.int .i64 z5] (by rfl) rfl (by simp[Value.oneCell']) qm qo lW.o.size ?_;intro v8 w8 jN cG kB;obtain⟨A8,c8,rfl⟩:=aE jN;have hl5:¬(Value.slice (d1.S q) (d1.m q) (d1.cs q)).ownBlock=some g5:=fun e=>lV.o.lv g5 rfl (by rw[hlv];exact e);have sZ:¬(Value.slice (d1.S q) (d1.m q) (d1.cs q)).ownBlock=some ga:=fun e=>by
       have:=(hlo1.lt ga e).1;omega
      have u2:=(cG.cells (g:=g5) E4 hl5 (q*3+2)).trans m2;have v0:=(cG.cells (g:=ga) t6 sZ (off+k*6)).trans q0;have v1:=(cG.cells (g:=ga) t6 sZ (off+k*6+1)).trans q1;have v2:=(cG.cells (g:=ga) t6 sZ (off+k*6+2)).trans q2;have v3:=(cG.cells (g:=ga) t6 sZ (off+k*6+3)).trans q3;have v4:=(cG.cells (g:=ga) t6 sZ (off+k*6+4)).trans q4;have v5:=(cG.cells (g:=ga) t6 sZ (off+k*6+5)).trans q5;have f5:w8.frozen? ⟨g5,q*3+2,none⟩=false:=(World.frozen?_of_block (w:=wy.drew) (a:=⟨g5,q*3+2,none⟩) (cG.block g5 E4 hl5)).trans (lV.o.own.frozenAt (q*3+2));refine hK.out _ _ ⟨u2,v0,v1,v2,v3,v4,v5⟩ (fun bF=>?_);clear hK K dK;have mT:=qh ((lV.o.drewN 1).add iD.o (A':=A8) (c':=c8) (s:=[z0,z1,z2,z3,z4,z5]) rfl (by rw[hq2];exact jN) (by rw[hlv];exact cG) (by rw[hlv,hq2];exact kB));rw[hq2]at mT;have FG:=qh (Below.setCell (p:=⟨g5,q*3+2,none⟩) (lW.o.drew.trans (cG.own (w:=wy.drew) hlo1 lW.o.size)) hg5 (.slice A8 (d1.m q+1) c8));refine qt 11 bF ?_;refine qt 12 bF ?_
      simp only[List.getElem_toArray,List.getElem_cons_succ,List.getElem_cons_zero,Act.put,List.setIfInBounds_toArray,List.set_cons_zero,List.set_cons_succ]
      refine wpAnyH_done qk ?_ _;refine bZ.of ?_
      go_simp
      have nV:ga≠g5:=qo;have x0:(w8.setCell ⟨g5,q*3+2,none⟩ (.slice A8 (d1.m q+1) c8)).cell? ⟨ga,off+k*6,none⟩=some (.int .i64 z0):=(World.cell?_of_block (Below.heap_setCell w8 _ _ ga nV)).trans v0;have x1:(w8.setCell ⟨g5,q*3+2,none⟩ (.slice A8 (d1.m q+1) c8)).cell? ⟨ga,off+k*6+1,none⟩=some (.int .i64 z1):=(World.cell?_of_block (Below.heap_setCell w8 _ _ ga nV)).trans v1;have x2:(w8.setCell ⟨g5,q*3+2,none⟩ (.slice A8 (d1.m q+1) c8)).cell? ⟨ga,off+k*6+2,none⟩=some (.int .i64 z2):=(World.cell?_of_block (Below.heap_setCell w8 _ _ ga nV)).trans v2;have x3:(w8.setCell ⟨g5,q*3+2,none⟩ (.slice A8 (d1.m q+1) c8)).cell? ⟨ga,off+k*6+3,none⟩=some (.int .i64 z3):=(World.cell?_of_block (Below.heap_setCell w8 _ _ ga nV)).trans v3;have x4:(w8.setCell ⟨g5,q*3+2,none⟩ (.slice A8 (d1.m q+1) c8)).cell? ⟨ga,off+k*6+4,none⟩=some (.int .i64 z4):=(World.cell?_of_block (Below.heap_setCell w8 _ _ ga nV)).trans v4;have x5:(w8.setCell ⟨g5,q*3+2,none⟩ (.slice A8 (d1.m q+1) c8)).cell? ⟨ga,off+k*6+5,none⟩=some (.int .i64 z5):=(World.cell?_of_block (Below.heap_setCell w8 _ _ ga nV)).trans v5;clear bF v0 v1 v2 v3 v4 v5 u2 f5 cG jN kB hlo1 m2 q0 q1 q2 q3 q4 q5;obtain⟨w9,DB⟩:=qx (w8.setCell ⟨g5,q*3+2,none⟩ (.slice A8 (d1.m q+1) c8));rw[←DB]at mT FG x0 x1 x2 x3 x4 x5 ⊢;clear DB;have hz2:=Ec pP.o.1;have TT:=qh (yE z0 z1 z2 z3 z4 z5 nn w9 qo qo)
      go_wp2_with fail
      refine TT.o.mono ?_;rintro e w10 ⟨rfl,BO⟩;have CH:=qh (mT.o.below BO);have fK:=FG.st BO;clear BO
      go_wp2_with fail
      go_roundw
      case rel=>exact⟨k+1,eO o1 (qB z k),d1.add q A8 c8,some ⟨g5,0,none⟩,c9,bU z0 z2 nn,by omega,qg,by rw[cZ,hq],rfl,qh (fun _=>⟨HT1.o,pP.o.2.1.symm,by rw[RU.o];exact World.ownsRow_nil _ _ _ _,fun x hx=>by cases hx⟩),qh (fun h=>by omega),qh (by rw[cZ,MK.o];exact CH.o),by rw[cZ];omega,by rw[cZ];omega,fK⟩
      case measure=>exact qs
  ·obtain rfl:N=k:=qo
   have tE:=qh (show jQ z N=(flush (i8 z N) (mG z N) o).bind fun o=>if o.length≤60 then some o else none from by unfold jQ;rw[HT.o];rfl);obtain⟨n,hn⟩:=qx (i8 z N);obtain⟨L,hL⟩:=qx (mG z N);obtain⟨R,hR⟩:=qx (EB z N);rw[←hn]at F9 yI tE ⊢;rw[←hL]at tE yI K7;rw[←hR]at rA hwl Wy K7;clear hn hL hR;have hcn:=F9.o;have b2:¬(N:Int)<(N:Int):=qo;obtain⟨A6,c6,rfl⟩:=aE rA.o;have hJ:=qh (LQ R A6 c6 wr (j5 rA.o) qo Wy.o);rw[K7.o]at hJ
   go_wp2_with fail
   refine hJ.o.mono ?_;rintro e w1 h1;obtain⟨A7,c7,rfl,JM,JK,bM⟩:=h1.rd;have aR:=HB.st bM;have yM:=qh (HM.o.below bM);have yK:=qh JK;have zi:=qh (show∀x,(Value.slice A7 L.length c7).ownBlock=some x→¬EX (.slice A4 o.length c4) o d x from fun x hx hi=>by
    have h1:=(JM.lt x hx).1;have h2:=QI.o x hi;omega)
   have HG7:=qh (show∀x,(Value.slice A7 L.length c7).ownBlock=some x→w.heap.size≤x from fun x hx=>Nat.le_trans HB.o.size (JM.lt x hx).1);have hLl:L.length≤R.length:=by have:=G.tR R;rw[K7.o]at this;exact this
   clear h1 JM JK bM hJ HM rA HB EZ
   by_cases hlen:40<L.length
   ·have kL:=qh (show jQ z N=none from by rw[tE.o];unfold flush;rw[if_pos hlen];rfl)
    exact zP34x10
   have hl2:¬(40:Int)<(L.length:Int):=qo;obtain⟨nn,rfl⟩:∃nn:Nat,n=nn:=⟨n.toNat,(Int.toNat_of_nonneg F9.o.1).symm⟩
   by_cases hL0:L.length=0
   ·have ht:triv nn L=true:=by rw[List.length_eq_zero_iff.1 hL0];exact V9 nn
    have b7:¬(0:Int)<(L.length:Int):=qo;have aT:=qh (show flush nn L o=some o by unfold flush;rw[if_neg hlen];exact if_pos ht);have kL:=qh (show jQ z N=some o from by rw[tE.o,aT.o,Option.bind_some];exact if_pos qo)
    go_wp2_with fail
    go_roundw
    case rel=>exact⟨N+1,o,d,A4,c4,nn,by omega,qg,rfl,rfl,qh (fun h=>by omega),qh (fun _=>kL.o),yM,hlo1,V1,aR⟩
    case measure=>exact qs
   have K9:=qh (show Calls Tryz.prog 119 #[.int .i64 nn,.slice A7 L.length c7,.slice none 0 0] w1 _ from wT (n:=nn) L [] A7 none c7 0 w1 yK.o (fun h0=>absurd h0 (Nat.lt_irrefl 0)) qo yI.o (fun x hx=>by cases hx) qo qj);have b7:(0:Int)<(L.length:Int):=qo
   go_wp2_with fail
   refine K9.o.mono ?_;rintro e w2 ⟨rfl,hb2⟩;rw[CY];have HB2:=aR.st hb2;have dA:=qh (yM.o.below hb2);have HR2:=qh (Rd.below yK.o hb2);clear hb2 K9 aR yM yK
   by_cases ht:triv nn L=true
   ·rw[ht]
    have aT:=qh (show flush nn L o=some o by unfold flush;rw[if_neg hlen];exact if_pos ht);have kL:=qh (show jQ z N=some o from by rw[tE.o,aT.o,Option.bind_some];exact if_pos qo)
    go_wp2_with fail
    go_roundw
    case rel=>exact⟨N+1,o,d,A4,c4,nn,by omega,qg,rfl,rfl,qh (fun h=>by omega),qh (fun _=>kL.o),dA,hlo1,V1,HB2⟩
    case measure=>exact qs
   ·rw[Bool.not_eq_true]at ht
    rw[ht];have P4:¬triv nn L=true:=by rw[ht];exact Bool.false_ne_true
    have aT:=qh (show flush nn L o=some (o++[((nn:Int),L,[])])by unfold flush;rw[if_neg hlen];exact if_neg P4)
    by_cases h60:o.length=60
    ·have kL:=qh (show jQ z N=none from by rw[tE.o,aT.o,Option.bind_some];exact if_neg (by simp;omega))
     exact zP34x8
    ·have h61:((o.length:Int)==60)=false:=by rw[beq_eq_false_iff_ne];omega
     have h62:¬(o.length:Int)=60:=qo;have kL:=qh (show jQ z N=some (o++[((nn:Int),L,[])])from by rw[tE.o,aT.o,Option.bind_some];exact if_pos (by simp;omega))
     go_wp2_with (at_builtin;go_must (refine nN w2 rfl (.tmp 62) (.tmp 67) _ rfl w.heap.size 107 j0 _ 3 56 Tryz.underlying69 hj0 jz js jb rfl qo (.slice A4 o.length c4) o.length _ rfl dA.o.own _ 1 1 [.int .i64 nn,.slice A7 L.length c7,.slice none 0 0] w2.heap.size rfl rfl rfl (by simp[Value.oneCell']) qm qo HB2.o.size ?_);intro v' w' hown' hf' hat';have HOWN':=qh hown';have eR:=qh hf';have jB:=qh hat';clear hown' hf' hat';obtain⟨A9,c9,rfl⟩:=aE HOWN'.o)
     have MG:=qh (dA.o.push (A:=A7) (W:=L) (c:=c7) (n:=nn) HR2.o (fun x hx e=>by
      obtain⟨_,a,rfl,rfl⟩:=hx;exact zi.o _ rfl (.inl e)) (fun x hx=>by obtain⟨_,a,rfl,rfl⟩:=hx;exact HG7.o _ rfl) HOWN'.o eR.o jB.o)
     have lW:=qh (HB2.o.trans (eR.o.own dA.o.own HB2.o.size));have hol:(o++[((nn:Int),L,[])]).length=o.length+1:=by simp
     go_roundw
     case rel=>exact⟨N+1,o++[((nn:Int),L,[])],d.push o.length A7 c7,A9,c9,nn,by omega,qg,by rw[hol],rfl,qh (fun h=>by omega),qh (fun _=>kL.o),qh (by rw[hol];exact MG.o),by omega,by omega,lW⟩
     case measure=>exact qs
noncomputable def jL (z:Nat→Int)(n:Nat)(z':Nat→Int)(n':Nat):Except Int (List cJ×List cJ):=
 if(mX z n).isSome=true∧(mX z' n').isSome=true then(match jQ z n,jQ z' n' with
  |some o,some o'=>.ok (o,o')
  |_,_=>.error 5)else .error 1
theorem fS7 {z z':Nat→Int}{n n':Nat}(h:(mX z n).isSome=false∨(mX z' n').isSome=false):jL z n z' n'=.error 1:=if_neg fun⟨h1,h2⟩=>by
 rcases h with h|h
 ·rw[h1]at h;cases h
 ·rw[h2]at h;cases h
theorem D3 {z z':Nat→Int}{n n':Nat}(h1:(mX z n).isSome=true)(h2:(mX z' n').isSome=true)(h:jQ z n=none∨jQ z' n'=none):jL z n z' n'=.error 5:=by
 unfold jL;rw[if_pos ⟨h1,h2⟩]
 rcases h with h|h
 ·rw[h]
 ·rw[h]
  cases jQ z n<;>rfl
theorem SA {z z':Nat→Int}{n n':Nat}{o o':List cJ}(h1:(mX z n).isSome=true)(h2:(mX z' n').isSome=true)(h:jQ z n=some o)(h':jQ z' n'=some o'):jL z n z' n'=.ok (o,o'):=by
 unfold jL;rw[if_pos ⟨h1,h2⟩,h,h']
theorem D4 {z z':Nat→Int}{n n':Nat}{x:Int}(h:jL z n z' n'=.error x):x=1∨x=5:=by
 unfold jL at h
 split at h
 ·split at h
  ·cases h
  ·injection h with h
   omega
 ·injection h with h
  omega
theorem L6 {z:Nat→Int}{n:Nat}(h:(mX z n).isSome=true):n≤2000∧(cnt z 0 n).isSome=true:=by
 unfold mX at h
 split at h
 ·exact⟨‹_›,h⟩
 ·cases h
def Aa (w:World)(v:Value)(o:List cJ):Prop:=Ms w v o∧∀b∈o,KQ b
theorem Aa.below {w w':World}{v:Value}{o:List cJ}(h:Aa w v o)(hb:Below w.heap.size w w'):Aa w' v o:=⟨h.1.below hb,h.2⟩
theorem l6.goK {z:Nat→Int}{N:Nat}(hv:(cnt z 0 N).isSome=true)(hN:N≤2000){o:List cJ}(h:jQ z N=some o){B:Nat}{A:Option Addr}{c:Nat}{d:fL}{w:World}(hm:l6 B (.slice A o.length c) o d w):Aa w (.slice A o.length c) o:=⟨hm.rdK hv hN h,fun b hb=>((Wo hv h).1 b hb).1⟩
def Ws (w:World)(r:Except Int (List cJ×List cJ))(e:Ending)(w':World):Prop:=Below w.heap.size w w'∧match r with
 |.error x=>∃u v,e=.returned (.tuple #[u,v,.int .i64 x])
 |.ok (o,o')=>∃A c A' c',e=.returned (.tuple #[.slice A o.length c,.slice A' o'.length c',.int .i64 0])∧Aa w' (.slice A o.length c) o∧Aa w' (.slice A' o'.length c') o'
theorem zP34x2 {p:Prop}(h:p:=by
 cases hF:jQ z n with
 |none=>
  have HR:=qh (D3 H1.o H2.o (.inl hF));rw[hF]at h3;have h3:e=.returned (.tuple #[.slice none 0 0,.int .i64 5]):=h3;subst h3;clear hb3 hF jE dP HA2 HB2
  go_wp2_with fail
  go_ret3
  exact⟨HW3.o,by rw[HR.o];exact⟨_,_,rfl⟩⟩
 |some o=>
  rw[hF]at h3;obtain⟨A3,c3,d3,Ka,Js⟩:=h3;subst Ka;have iW:=qh Js;have pO:=qh hF;clear hb3 hF Js jE HA2 HB2 HW2
  go_wp2_with fail
  refine(dP.o _ HB3.o).mono ?_;rintro e w4 ⟨hb4,h4⟩;have zH:=HW3.st hb4;have fV:=qh (iW.o.below hb4)
  cases hF:jQ z' n' with
  |none=>
   have HR:=qh (D3 H1.o H2.o (.inr hF));rw[hF]at h4;have h4:e=.returned (.tuple #[.slice none 0 0,.int .i64 5]):=h4;subst h4;clear hb4 hF dP
   go_wp2_with fail
   go_ret3
   exact⟨zH.o,by rw[HR.o];exact⟨_,_,rfl⟩⟩
  |some o'=>
   have HR:=qh (SA H1.o H2.o pO.o hF);rw[hF]at h4;obtain⟨A4,c4,d4,PA,sY⟩:=h4;subst PA;have jF:=qh sY;have QJ:=qh hF;clear hb4 hF sY dP
   go_wp2_with fail
   go_ret3
   exact⟨zH.o,by rw[HR.o];exact⟨A3,c3,A4,c4,rfl,fV.o.goK EY.o hN1 pO.o,jF.o.goK I4.o M8 QJ.o⟩⟩):p:=h
theorem zP34x9 {p:Prop}(h:p:=by
 go_wp2_with fail
 go_ret3
 exact⟨HW2.o,by rw[HR.o];exact⟨_,_,rfl⟩⟩):p:=h
theorem LW (A A':OA)(n n' c c':Nat)(z z':Nat→Int)(w:World)(ha:Rd w A (n*6) (fun j=>.int .i64 (z j)))(hb:Rd w A' (n'*6) (fun j=>.int .i64 (z' j)))(hn:n≤1048576)(hn':n'≤1048576):
 Calls Tryz.prog 31 #[.slice A n c,.slice A' n' c'] w (Ws w (jL z n z' n')):=by
 have HA:=qh ha;have HB:=qh hb;clear ha hb
 go_enter Tryz.func31,Tryz.ntmps31
 go_wp2_with fail
 refine(JB A n c z w HA.o hn).mono ?_;rintro e w1 ⟨v1,rfl,q1,rfl⟩
 go_wp2_with fail
 refine(JB A' n' c' z' _ (HB.o.drewN q1) hn').mono ?_;rintro e w2 ⟨v2,rfl,q2,rfl⟩;rw[World.drewN_drewN];have HA2:=qh (HA.o.drewN (q1+q2));have HB2:=qh (HB.o.drewN (q1+q2));have HW2:=qh (Below.drewN' (Below.refl w.heap.size w) (q1+q2))
 cases h1:(mX z n).isSome with
 |false=>
  have HR:=qh (fS7 (.inl h1) (z':=z') (n':=n'));clear h1
  exact zP34x9
 |true=>
 cases h2:(mX z' n').isSome with
 |false=>
  have HR:=qh (fS7 (.inr h2) (z:=z) (n:=n));clear h1 h2
  exact zP34x9
 |true=>
  have H1:=qh h1;have H2:=qh h2;clear h1 h2 HA HB
  go_wp2_with fail
  obtain⟨hN1,hv1⟩:=L6 H1.o;obtain⟨M8,hv2⟩:=L6 H2.o;have EY:=qh hv1;have I4:=qh hv2;have jE:=qh (fun w' (h:Rd w' A (n*6) (fun j=>.int .i64 (z j)))=>GV A n c z w' h hN1 EY.o);have dP:=qh (fun w' (h:Rd w' A' (n'*6) (fun j=>.int .i64 (z' j)))=>GV A' n' c' z' w' h M8 I4.o);clear hv1 hv2;refine(jE.o _ HA2.o).mono ?_;rintro e w3 ⟨hb3,h3⟩;have HW3:=HW2.st hb3;have HB3:=qh (HB2.o.below hb3)
  exact zP34x2
theorem I2 (A A':OA)(n n' c c':Nat)(z z':Nat→Int)(w:World)(ha:Rd w A (n*6) (fun j=>.int .i64 (z j)))(hb:Rd w A' (n'*6) (fun j=>.int .i64 (z' j)))(hn:n≤1048576)(hn':n'≤1048576):
 Calls Tryz.prog 39 #[.slice A n c,.slice A' n' c'] w (Ws w (jL z n z' n')):=by
 have HA:=qh ha;have HB:=qh hb;clear ha hb
 go_enter Tryz.func39,Tryz.ntmps39
 go_wp2_with fail
 refine(CR A n c z w HA.o hn).mono ?_;rintro e w1 ⟨rfl,hb1⟩;have HA1:=qh (HA.o.below hb1);have HB1:=qh (HB.o.below hb1);have HW1:=qh hb1;clear hb1 HA HB
 cases h1:(mX z n).isSome with
 |false=>
  have HR:=qh (fS7 (.inl h1) (z':=z') (n':=n'));clear h1
  go_wp2_with fail
  go_ret3
  exact⟨HW1.o,by rw[HR.o];exact⟨_,_,rfl⟩⟩
 |true=>
 have H1:=qh h1;clear h1
 go_wp2_with fail
 refine(CR A' n' c' z' w1 HB1.o hn').mono ?_;rintro e w2 ⟨rfl,hb2⟩;have HA2:=qh (HA1.o.below hb2);have HB2:=qh (HB1.o.below hb2);have HW2:=HW1.st hb2;clear hb2 HA1 HB1 HW1
 cases h2:(mX z' n').isSome with
 |false=>
  have HR:=qh (fS7 (.inr h2) (z:=z) (n:=n));clear h2
  exact zP34x9
 |true=>
  have H2:=qh h2;clear h2
  go_wp2_with fail
  obtain⟨hN1,hv1⟩:=L6 H1.o;obtain⟨M8,hv2⟩:=L6 H2.o;have EY:=qh hv1;have I4:=qh hv2;have jE:=qh (fun w' (h:Rd w' A (n*6) (fun j=>.int .i64 (z j)))=>PW A n c z w' h hN1 EY.o);have dP:=qh (fun w' (h:Rd w' A' (n'*6) (fun j=>.int .i64 (z' j)))=>PW A' n' c' z' w' h M8 I4.o);clear hv1 hv2;refine(jE.o _ HA2.o).mono ?_;rintro e w3 ⟨hb3,h3⟩;have HW3:=HW2.st hb3;have HB3:=qh (HB2.o.below hb3)
  exact zP34x2
noncomputable def qQ (r:Except Int (List cJ×List cJ)):Bool×Int:=match r with
 |.error x=>(false,x)
 |.ok (o,o')=>(decide (cW o o' 0<0),0)
noncomputable def qV (r:Except Int (List cJ×List cJ)):Int×Int:=match r with
 |.error x=>(0,x)
 |.ok (o,o')=>if cW o o' 0<0 then(0,3)else(cW o o' 0,0)
theorem zP34x3 {p:Prop}(h:p:=by
 obtain⟨u,v,he⟩:=h1;subst he;have hx:=HC.o x rfl;have hx0:¬x=0:=qo;have hx1:(x==0)=false:=by rw[beq_eq_false_iff_ne];exact hx0
 clear hx HP
 go_wp2_with fail
 go_ret2
 exact⟨rfl,HW1.o⟩):p:=h
theorem zP34x4 {p:Prop}(h:p:=by
 go_wp2_with fail
 go_ret2
 exact⟨by rw[dP.o];first|rfl|simp[h0],HW2.o⟩):p:=h
theorem zP34x5 {p:Prop}(h:p:=by
 go_wp2_with fail
 refine HD.o.mono ?_;rintro e w2 ⟨rfl,hb2⟩;have HW2:=HW1.st hb2;clear hb2
 by_cases h0:x<0
 ·have dP:=qh (show qQ (.ok (o,o'))=(true,0)by rw[HX.o];simp[h0])
  exact zP34x4
 ·have dP:=qh (show qQ (.ok (o,o'))=(false,0)by rw[HX.o];simp[h0])
  exact zP34x4):p:=h
theorem IU (A A':OA)(n n' c c':Nat)(z z':Nat→Int)(w:World)(ha:Rd w A (n*6) (fun j=>.int .i64 (z j)))(hb:Rd w A' (n'*6) (fun j=>.int .i64 (z' j)))(hn:n≤1048576)(hn':n'≤1048576):
 Calls Tryz.prog 17 #[.slice A n c,.slice A' n' c'] w fun e w'=>e=.returned (.tuple #[.bool (qQ (jL z n z' n')).1,.int .i64 (qQ (jL z n z' n')).2])∧Below w.heap.size w w':=by
 have HP:=qh (LW A A' n n' c c' z z' w ha hb hn hn');have HC:=qh (fun x h=>D4 (z:=z) (n:=n) (z':=z') (n':=n') (x:=x) h);clear ha hb;obtain⟨r,hr⟩:=qx (jL z n z' n');rw[←hr]at HP HC ⊢;clear hr
 go_enter Tryz.func17,Tryz.ntmps17
 go_wp2_with fail
 refine HP.o.mono ?_;rintro e w1 ⟨hb1,h1⟩;have HW1:=qh hb1;clear hb1
 cases r with
 |error x=>
  exact zP34x3
 |ok p=>
  obtain⟨o,o'⟩:=p;obtain⟨A3,c3,A4,c4,he,hg1,hg2⟩:=h1;subst he;obtain⟨⟨_,_,d1,hv1,hr1,hl1⟩,hg1⟩:=hg1;injection hv1 with hv1 hv2 hv3;clear hv2;subst hv1 hv3;obtain⟨⟨_,_,d2,hv1,hr2,hl2⟩,hg2⟩:=hg2;injection hv1 with hv1 hv2 hv3;clear hv2;subst hv1 hv3;have HD:=qh (J9 o o' A3 A4 c3 c4 d1 d2 w1 hr1 hr2 hl1 hl2);clear hr1 hl1 hg1 hr2 hl2 hg2 HP;have HK:=qh (show(cW o o' 0)=(cW o o' 0)from rfl);obtain⟨x,hx⟩:=qx (cW o o' 0);have HX:=qh (show qQ (.ok (o,o'))=(decide (cW o o' 0<0),0)from rfl);rw[←hx]at HD HX;clear hx HK
  exact zP34x5
theorem JH (A A':OA)(n n' c c':Nat)(z z':Nat→Int)(w:World)(ha:Rd w A (n*6) (fun j=>.int .i64 (z j)))(hb:Rd w A' (n'*6) (fun j=>.int .i64 (z' j)))(hn:n≤1048576)(hn':n'≤1048576):
 Calls Tryz.prog 21 #[.slice A n c,.slice A' n' c'] w fun e w'=>e=.returned (.tuple #[.bool (qQ (jL z n z' n')).1,.int .i64 (qQ (jL z n z' n')).2])∧Below w.heap.size w w':=by
 have HP:=qh (I2 A A' n n' c c' z z' w ha hb hn hn');have HC:=qh (fun x h=>D4 (z:=z) (n:=n) (z':=z') (n':=n') (x:=x) h);clear ha hb;obtain⟨r,hr⟩:=qx (jL z n z' n');rw[←hr]at HP HC ⊢;clear hr
 go_enter Tryz.func21,Tryz.ntmps21
 go_wp2_with fail
 refine HP.o.mono ?_;rintro e w1 ⟨hb1,h1⟩;have HW1:=qh hb1;clear hb1
 cases r with
 |error x=>
  exact zP34x3
 |ok p=>
  obtain⟨o,o'⟩:=p;obtain⟨A3,c3,A4,c4,he,hg1,hg2⟩:=h1;subst he;obtain⟨⟨_,_,d1,hv1,hr1,hl1⟩,hg1⟩:=hg1;injection hv1 with hv1 hv2 hv3;clear hv2;subst hv1 hv3;obtain⟨⟨_,_,d2,hv1,hr2,hl2⟩,hg2⟩:=hg2;injection hv1 with hv1 hv2 hv3;clear hv2;subst hv1 hv3;have HD:=qh (EP o o' A3 A4 c3 c4 d1 d2 w1 hr1 hr2 hl1 hl2 hg1 hg2);clear hr1 hl1 hg1 hr2 hl2 hg2 HP;have HK:=qh (show(cW o o' 0)=(cW o o' 0)from rfl);obtain⟨x,hx⟩:=qx (cW o o' 0);have HX:=qh (show qQ (.ok (o,o'))=(decide (cW o o' 0<0),0)from rfl);rw[←hx]at HD HX;clear hx HK
  exact zP34x5
theorem zP34x6 {p:Prop}(h:p:=by
 go_wp2_with fail
 refine HD.o.mono ?_;rintro e w2 ⟨rfl,hb2⟩;have HW2:=HW1.st hb2;clear hb2
 by_cases h0:x<0
 ·have dP:=qh (show qV (.ok (o,o'))=(0,3)by rw[HX.o];simp[h0])
  exact zP34x4
 ·have dP:=qh (show qV (.ok (o,o'))=(x,0)by rw[HX.o];simp[h0])
  exact zP34x4):p:=h
theorem CP (A A':OA)(n n' c c':Nat)(z z':Nat→Int)(w:World)(ha:Rd w A (n*6) (fun j=>.int .i64 (z j)))(hb:Rd w A' (n'*6) (fun j=>.int .i64 (z' j)))(hn:n≤1048576)(hn':n'≤1048576):
 Calls Tryz.prog 24 #[.slice A n c,.slice A' n' c'] w fun e w'=>e=.returned (.tuple #[.int .i64 (qV (jL z n z' n')).1,.int .i64 (qV (jL z n z' n')).2])∧Below w.heap.size w w':=by
 have HP:=qh (LW A A' n n' c c' z z' w ha hb hn hn');have HC:=qh (fun x h=>D4 (z:=z) (n:=n) (z':=z') (n':=n') (x:=x) h);clear ha hb;obtain⟨r,hr⟩:=qx (jL z n z' n');rw[←hr]at HP HC ⊢;clear hr
 go_enter Tryz.func24,Tryz.ntmps24
 go_wp2_with fail
 refine HP.o.mono ?_;rintro e w1 ⟨hb1,h1⟩;have HW1:=qh hb1;clear hb1
 cases r with
 |error x=>
  exact zP34x3
 |ok p=>
  obtain⟨o,o'⟩:=p;obtain⟨A3,c3,A4,c4,he,hg1,hg2⟩:=h1;subst he;obtain⟨⟨_,_,d1,hv1,hr1,hl1⟩,hg1⟩:=hg1;injection hv1 with hv1 hv2 hv3;clear hv2;subst hv1 hv3;obtain⟨⟨_,_,d2,hv1,hr2,hl2⟩,hg2⟩:=hg2;injection hv1 with hv1 hv2 hv3;clear hv2;subst hv1 hv3;have HD:=qh (J9 o o' A3 A4 c3 c4 d1 d2 w1 hr1 hr2 hl1 hl2);clear hr1 hl1 hg1 hr2 hl2 hg2 HP;have HK:=qh (show(cW o o' 0)=(cW o o' 0)from rfl);obtain⟨x,hx⟩:=qx (cW o o' 0);have HX:=qh (show qV (.ok (o,o'))=if cW o o' 0<0 then(0,3)else(cW o o' 0,0)from rfl);rw[←hx]at HD HX;clear hx HK
  exact zP34x6
theorem CQ (A A':OA)(n n' c c':Nat)(z z':Nat→Int)(w:World)(ha:Rd w A (n*6) (fun j=>.int .i64 (z j)))(hb:Rd w A' (n'*6) (fun j=>.int .i64 (z' j)))(hn:n≤1048576)(hn':n'≤1048576):
 Calls Tryz.prog 25 #[.slice A n c,.slice A' n' c'] w fun e w'=>e=.returned (.tuple #[.int .i64 (qV (jL z n z' n')).1,.int .i64 (qV (jL z n z' n')).2])∧Below w.heap.size w w':=by
 have HP:=qh (I2 A A' n n' c c' z z' w ha hb hn hn');have HC:=qh (fun x h=>D4 (z:=z) (n:=n) (z':=z') (n':=n') (x:=x) h);clear ha hb;obtain⟨r,hr⟩:=qx (jL z n z' n');rw[←hr]at HP HC ⊢;clear hr
 go_enter Tryz.func25,Tryz.ntmps25
 go_wp2_with fail
 refine HP.o.mono ?_;rintro e w1 ⟨hb1,h1⟩;have HW1:=qh hb1;clear hb1
 cases r with
 |error x=>
  exact zP34x3
 |ok p=>
  obtain⟨o,o'⟩:=p;obtain⟨A3,c3,A4,c4,he,hg1,hg2⟩:=h1;subst he;obtain⟨⟨_,_,d1,hv1,hr1,hl1⟩,hg1⟩:=hg1;injection hv1 with hv1 hv2 hv3;clear hv2;subst hv1 hv3;obtain⟨⟨_,_,d2,hv1,hr2,hl2⟩,hg2⟩:=hg2;injection hv1 with hv1 hv2 hv3;clear hv2;subst hv1 hv3;have HD:=qh (EP o o' A3 A4 c3 c4 d1 d2 w1 hr1 hr2 hl1 hl2 hg1 hg2);clear hr1 hl1 hg1 hr2 hl2 hg2 HP;have HK:=qh (show(cW o o' 0)=(cW o o' 0)from rfl);obtain⟨x,hx⟩:=qx (cW o o' 0);have HX:=qh (show qV (.ok (o,o'))=if cW o o' 0<0 then(0,3)else(cW o o' 0,0)from rfl);rw[←hx]at HD HX;clear hx HK
  exact zP34x6
end Go.Proofs.YtimlpmbabbbcaaaGreat
