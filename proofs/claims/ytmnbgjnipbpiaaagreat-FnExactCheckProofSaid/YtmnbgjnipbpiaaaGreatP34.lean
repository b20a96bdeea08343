/- Walks and plain lemmas. -/
import Derived.Test.YtmnbgjnipbpiaaaGreatP32
set_option linter.unusedVariables false
set_option linter.unusedSimpArgs false
set_option maxHeartbeats 2000000
set_option maxRecDepth 20000
namespace Go.Proofs.YtmnbgjnipbpiaaaGreat
open Go.RowKit
theorem xB {q q':Bool}(L M:List (List Int))(A A':OA)(c c':Nat)(w:World)(ha:aX q w A L)(hb:aX q' w A' M)(k1:L.length≤1048576)(k2:M.length≤1048576)(k3:∀x∈L,x.length≤1048576)(k4:∀x∈M,x.length≤1048576):
 Calls Tryz.prog 84 #[.slice A L.length c,.slice A' M.length c',.func (.func 85) #[] #[]] w fun e w'=>e=.returned (.bool (decide (L=M)))∧Below w.heap.size w w':=by
 obtain⟨V,hV⟩:=qx (decide (L=M));rw[←hV];have HV:=qh hV;have HA:=qh ha;have HB:=qh hb;have K3:=qh k3;have K4:=qh k4;clear ha hb k3 k4 hV
 by_cases hl:L.length=M.length
 case neg=>
  have HD:=qh (show decide (L=M)=false from decide_eq_false fun h=>hl (by rw[h]));have hlb:((L.length:Int)==(M.length:Int))=false:=by rw[beq_eq_false_iff_ne];omega
  have hlc:¬(L.length:Int)=(M.length:Int):=qo
  go_enter Tryz.func84,Tryz.ntmps84
  go_wp2_with fail
  go_ret
  exact⟨by rw[HV.o,HD.o];rfl,Below.refl _ _⟩
 obtain⟨N,hN⟩:=qx (L.length);have fN:=qh hN;have dL:=qh (show M.length=N by omega);rw[←hN]at hl k1;rw[←hN,←hl];clear hN hl k2
 go_enter Tryz.func84,Tryz.ntmps84
 go_wp2_with fail
 go_loopw [17] (fun x wr=>∃k:Nat,k≤N∧x=.int .i64 k∧Hq (Below w.heap.size w wr)∧Hq (L.take k=M.take k)) (fun x _=>N-(intOf x).toNat)
 case atStart=>exact⟨0,Nat.zero_le _,rfl,qh (Below.refl _ _),qh qj⟩
 case round=>
  obtain⟨k,hk,rfl,HW,HX⟩:=hrel
  by_cases hlt:k<N
  ·obtain⟨x,hx⟩:=dD (L:=L) (k:=k) (by have:=fN.o;omega)
   obtain⟨y,hy⟩:=dD (L:=M) (k:=k) (by have:=dL.o;omega);obtain⟨g,o,B,d,rfl,hg,h0,hr,_⟩:=(HA.o.below HW.o).at hx;obtain⟨g',o',B',d',rfl,hg',h0',hr',_⟩:=(HB.o.below HW.o).at hy;have hxl:=K3.out x (List.mem_of_getElem? hx);have hyl:=K4.out y (List.mem_of_getElem? hy);have HT:=qh (show L.take (k+1)=L.take k++[x]from bG hx);have mB:=qh (show M.take (k+1)=M.take k++[y]from bG hy);have fC:=qh (l9 B B' d d' x y wr hr hr' hxl hyl);have eD:=qh (fun h:x≠y=>iF hx hy h);have b1:(0:Int)≤(k:Int):=qo;have b2:(k:Int)<(N:Int):=qo;clear hx hy hr hr' hxl hyl
   go_wp2_with fail
   refine fC.o.mono ?_;rintro e w4 ⟨rfl,q4,rfl⟩;have dU:=qh (Below.drewN' HW.o q4)
   by_cases hxy:x=y
   ·rw[decide_eq_true hxy]
    subst hxy
    go_wp2_with fail
    go_roundw
    case rel=>exact⟨k+1,by omega,qg,dU,qh (by rw[HT.o,mB.o,HX.o])⟩
    case measure=>exact qs
   ·rw[decide_eq_false hxy]
    have j5:=qh (show decide (L=M)=false from decide_eq_false (eD.o hxy))
    go_wp2_with fail
    go_ret
    exact⟨by rw[HV.o,j5.o];rfl,dU.o⟩
  ·obtain rfl:N=k:=qo
   have j5:=qh (show decide (L=M)=true from decide_eq_true (gG HX.o fN.o.symm dL.o))
   go_wp2_with fail
   go_ret
   exact⟨by rw[HV.o,j5.o];rfl,HW.o⟩
theorem nP {q q':Bool}(f f':aP)(A A':OA)(c c':Nat)(w:World)(ha:aX q w A f.2.2)(hb:aX q' w A' f'.2.2)(k1:i5 f)(k2:i5 f'):
 Calls Tryz.prog 46 #[.agg #[.int .i64 f.1,.int .i64 f.2.1,.slice A f.2.2.length c],.agg #[.int .i64 f'.1,.int .i64 f'.2.1,.slice A' f'.2.2.length c']] w fun e w'=>e=.returned (.bool (decide (f=f')))∧Below w.heap.size w w':=by
 obtain⟨s,p,L⟩:=f;obtain⟨s',p',M⟩:=f';have HW:=qh (((Below.refl w.heap.size w).alloc ql (.cells #[.int .i64 s,.int .i64 p,.slice A L.length c] 72)).alloc qj (.cells #[.int .i64 s',.int .i64 p',.slice A' M.length c'] 72));have HE:=qh (xB L M A A' c c' _ (ha.below HW.o) (hb.below HW.o) k1.n k2.n k1.l k2.l);obtain⟨V,hV⟩:=qx (decide ((s,p,L)=(s',p',M)));rw[←hV];have HV:=qh hV;clear ha hb k1 k2 hV
 by_cases hs:s=s'
 case neg=>
  have HD:=qh (show decide ((s,p,L)=(s',p',M))=false from decide_eq_false fun h=>by injection h with h _;exact hs h);have hsb:(s==s')=false:=by simp[hs]
  clear HE
  go_enter Tryz.func46,Tryz.ntmps46
  go_wp2_with fail
  go_ret
  exact⟨by rw[HV.o,HD.o];rfl,HW.o⟩
 subst hs
 by_cases hp:p=p'
 case neg=>
  have HD:=qh (show decide ((s,p,L)=(s,p',M))=false from decide_eq_false fun h=>by injection h with _ h;injection h with h _;exact hp h);have hsb:(p==p')=false:=by simp[hp]
  clear HE
  go_enter Tryz.func46,Tryz.ntmps46
  go_wp2_with fail
  go_ret
  exact⟨by rw[HV.o,HD.o];rfl,HW.o⟩
 subst hp;have HD:=qh (show decide ((s,p,L)=(s,p,M))=decide (L=M)from decide_eq_decide.2 ⟨fun h=>by injection h with _ h;injection h with _ h,fun h=>by rw[h]⟩)
 go_enter Tryz.func46,Tryz.ntmps46
 go_wp2_with fail
 refine HE.o.mono ?_;rintro e w4 ⟨rfl,hb4⟩;have bQ:=HW.st hb4;clear hb4;obtain⟨U,hU⟩:=qx (decide (L=M));rw[←hU]at HD ⊢;clear hU
 go_wp2_with fail
 go_ret
 exact⟨by rw[HV.o,HD.o];rfl,bQ.o⟩
theorem pS {q q':Bool}(F E:List aP)(A A':OA)(c c':Nat)(w:World)(ha:eR q w A F)(hb:eR q' w A' E)(k1:F.length≤1048576)(k2:E.length≤1048576)(k3:∀x∈F,i5 x)(k4:∀x∈E,i5 x):
 Calls Tryz.prog 45 #[.slice A F.length c,.slice A' E.length c',.func (.func 46) #[] #[]] w fun e w'=>e=.returned (.bool (decide (F=E)))∧Below w.heap.size w w':=by
 obtain⟨V,hV⟩:=qx (decide (F=E));rw[←hV];have HV:=qh hV;have HA:=qh ha;have HB:=qh hb;have K3:=qh k3;have K4:=qh k4;clear ha hb k3 k4 hV
 by_cases hl:F.length=E.length
 case neg=>
  have HD:=qh (show decide (F=E)=false from decide_eq_false fun h=>hl (by rw[h]));have hlb:((F.length:Int)==(E.length:Int))=false:=by rw[beq_eq_false_iff_ne];omega
  have hlc:¬(F.length:Int)=(E.length:Int):=qo
  go_enter Tryz.func45,Tryz.ntmps45
  go_wp2_with fail
  go_ret
  exact⟨by rw[HV.o,HD.o];rfl,Below.refl _ _⟩
 obtain⟨N,hN⟩:=qx (F.length);have fN:=qh hN;have dL:=qh (show E.length=N by omega);rw[←hN]at hl k1;rw[←hN,←hl];clear hN hl k2
 go_enter Tryz.func45,Tryz.ntmps45
 go_wp2_with fail
 go_loopw [7,8,9,17] (fun _ _ _ x wr=>∃k:Nat,k≤N∧x=.int .i64 k∧Hq (Below w.heap.size w wr)∧Hq (F.take k=E.take k)) (fun _ _ _ x _=>N-(intOf x).toNat)
 case atStart=>exact⟨0,Nat.zero_le _,rfl,qh (Below.refl _ _),qh qj⟩
 case round=>
  obtain⟨k,hk,rfl,HW,HX⟩:=hrel
  by_cases hlt:k<N
  ·obtain⟨x,hx⟩:=dD (L:=F) (k:=k) (by have:=fN.o;omega)
   obtain⟨y,hy⟩:=dD (L:=E) (k:=k) (by have:=dL.o;omega);obtain⟨g,o,B,d,rfl,hg,hat⟩:=(HA.o.below HW.o).at hx;obtain⟨g',o',B',d',rfl,hg',hat'⟩:=(HB.o.below HW.o).at hy;have hxl:=K3.out x (List.mem_of_getElem? hx);have hyl:=K4.out y (List.mem_of_getElem? hy);have HT:=qh (show F.take (k+1)=F.take k++[x]from bG hx);have mB:=qh (show E.take (k+1)=E.take k++[y]from bG hy);have HW2:=qh (((Below.refl wr.heap.size wr).alloc ql (.cells #[.int .i64 x.1,.int .i64 x.2.1,.slice B x.2.2.length d] 72)).alloc qj (.cells #[.int .i64 y.1,.int .i64 y.2.1,.slice B' y.2.2.length d'] 72));have fC:=qh (nP x y B B' d d' _ (hat.rd.below HW2.o) (hat'.rd.below HW2.o) hxl hyl);have eD:=qh (fun h:x≠y=>iF hx hy h);have b1:(0:Int)≤(k:Int):=qo;have b2:(k:Int)<(N:Int):=qo;have c0:=hat.c0;have c1:=hat.c1;have c2:=hat.c2;have d0:=hat'.c0;have d1:=hat'.c1;have d2:=hat'.c2;clear hx hy hat hat' hxl hyl
   go_wp2_with fail
   refine fC.o.mono ?_;rintro e w4 ⟨rfl,hb4⟩;have dU:=qh (HW.o.trans ((HW2.o.trans (hb4.mono HW2.o.size)).mono HW.o.size));clear hb4 c0 c1 c2 d0 d1 d2
   by_cases hxy:x=y
   ·rw[decide_eq_true hxy]
    have jN:=qh hxy;clear hxy
    go_wp2_with fail
    go_roundw
    case rel=>exact⟨k+1,by omega,qg,dU,qh (by rw[HT.o,mB.o,HX.o,jN.o])⟩
    case measure=>exact qs
   ·rw[decide_eq_false hxy]
    have j5:=qh (show decide (F=E)=false from decide_eq_false (eD.o hxy));clear hxy
    go_wp2_with fail
    go_ret
    exact⟨by rw[HV.o,j5.o];rfl,dU.o⟩
  ·obtain rfl:N=k:=qo
   have j5:=qh (show decide (F=E)=true from decide_eq_true (gG HX.o fN.o.symm dL.o))
   go_wp2_with fail
   go_ret
   exact⟨by rw[HV.o,j5.o];rfl,HW.o⟩
theorem wR (A B:OA)(c c' m m':Nat)(L M:List Int)(w:World)(hL:L.length=m*6)(hM:M.length=m'*6)(ha:Rd w A (m*6) (fun j=>.int .i64 (L.getD j 0)))(hb:Rd w B (m'*6) (fun j=>.int .i64 (M.getD j 0)))(hm:m≤1000000)(hm':m'≤1000000):
 Calls Tryz.prog 48 #[.slice A m c,.slice B m' c'] w fun e w'=>e=.returned (.bool (decide (L=M)))∧Below w.heap.size w w':=by
 have HE:=qh (xC A B c c' m m' L M w hL hM ha hb hm hm');obtain⟨V,hV⟩:=qx (decide (L=M));rw[←hV]at HE ⊢;clear ha hb hV
 go_enter Tryz.func48,Tryz.ntmps48
 go_wp2_with fail
 refine HE.o.mono ?_;rintro e w1 ⟨rfl,h1⟩;have H1:=qh h1;clear h1
 go_wp2_with fail
 go_ret
 exact⟨rfl,by first|exact H1.o|exact(by obtain⟨q,rfl⟩:=H1.o;exact Below.drewN' (Below.refl _ _) q)⟩
theorem tW (S T:List (List Int))(A A':OA)(c c':Nat)(w:World)(ha:eZ w A S)(hb:eZ w A' T)(k1:S.length≤1048576)(k2:T.length≤1048576)(k3:∀x∈S,x.length≤1000000*6)(k4:∀x∈T,x.length≤1000000*6):
 Calls Tryz.prog 47 #[.slice A S.length c,.slice A' T.length c',.func (.func 48) #[] #[]] w fun e w'=>e=.returned (.bool (decide (S=T)))∧Below w.heap.size w w':=by
 obtain⟨V,hV⟩:=qx (decide (S=T));rw[←hV];have HV:=qh hV;have HA:=qh ha;have HB:=qh hb;have K3:=qh k3;have K4:=qh k4;clear ha hb k3 k4 hV
 by_cases hl:S.length=T.length
 case neg=>
  have HD:=qh (show decide (S=T)=false from decide_eq_false fun h=>hl (by rw[h]));have hlb:((S.length:Int)==(T.length:Int))=false:=by rw[beq_eq_false_iff_ne];omega
  have hlc:¬(S.length:Int)=(T.length:Int):=qo
  go_enter Tryz.func47,Tryz.ntmps47
  go_wp2_with fail
  go_ret
  exact⟨by rw[HV.o,HD.o];rfl,Below.refl _ _⟩
 obtain⟨N,hN⟩:=qx (S.length);have fN:=qh hN;have dL:=qh (show T.length=N by omega);rw[←hN]at hl k1;rw[←hN,←hl];clear hN hl k2
 go_enter Tryz.func47,Tryz.ntmps47
 go_wp2_with fail
 go_loopw [7,8,9,17] (fun _ _ _ x wr=>∃k:Nat,k≤N∧x=.int .i64 k∧Hq (Below w.heap.size w wr)∧Hq (S.take k=T.take k)) (fun _ _ _ x _=>N-(intOf x).toNat)
 case atStart=>exact⟨0,Nat.zero_le _,rfl,qh (Below.refl _ _),qh qj⟩
 case round=>
  obtain⟨k,hk,rfl,HW,HX⟩:=hrel
  by_cases hlt:k<N
  ·obtain⟨x,hx⟩:=dD (L:=S) (k:=k) (by have:=fN.o;omega)
   obtain⟨y,hy⟩:=dD (L:=T) (k:=k) (by have:=dL.o;omega);obtain⟨g,o,B,m,d,rfl,hg,h0,hl,hr⟩:=(HA.o.below HW.o).at hx;obtain⟨g',o',B',m',d',rfl,hg',h0',hl',hr'⟩:=(HB.o.below HW.o).at hy;have hxl:=K3.out x (List.mem_of_getElem? hx);have hyl:=K4.out y (List.mem_of_getElem? hy);have HT:=qh (show S.take (k+1)=S.take k++[x]from bG hx);have mB:=qh (show T.take (k+1)=T.take k++[y]from bG hy);have fC:=qh (wR B B' d d' m m' x y wr hl hl' hr hr' qo qo);have eD:=qh (fun h:x≠y=>iF hx hy h);have b1:(0:Int)≤(k:Int):=qo;have b2:(k:Int)<(N:Int):=qo;clear hx hy hr hr' hxl hyl hl hl'
   go_wp2_with fail
   refine fC.o.mono ?_;rintro e w4 ⟨rfl,hb4⟩;have dU:=HW.st hb4;clear hb4 h0 h0'
   by_cases hxy:x=y
   ·rw[decide_eq_true hxy]
    have jN:=qh hxy;clear hxy
    go_wp2_with fail
    go_roundw
    case rel=>exact⟨k+1,by omega,qg,dU,qh (by rw[HT.o,mB.o,HX.o,jN.o])⟩
    case measure=>exact qs
   ·rw[decide_eq_false hxy]
    have j5:=qh (show decide (S=T)=false from decide_eq_false (eD.o hxy));clear hxy
    go_wp2_with fail
    go_ret
    exact⟨by rw[HV.o,j5.o];rfl,dU.o⟩
  ·obtain rfl:N=k:=qo
   have j5:=qh (show decide (S=T)=true from decide_eq_true (gG HX.o fN.o.symm dL.o))
   go_wp2_with fail
   go_ret
   exact⟨by rw[HV.o,j5.o];rfl,HW.o⟩
theorem mX {q q':Bool}(F E:List aP)(S T:List (List Int))(A A' B B':OA)(c c' d d':Nat)(w:World)(ha:cE q w A B F S)(hb:cE q' w A' B' E T)(k1:lD F S)(k2:lD E T)(k3:∀x∈S,x.length≤1000000*6)(k4:∀x∈T,x.length≤1000000*6):
 Calls Tryz.prog 25 #[.agg #[.slice A F.length c,.slice B S.length d],.agg #[.slice A' E.length c',.slice B' T.length d']] w fun e w'=>e=.returned (.bool (decide (F=E)&&decide (S=T)))∧Below w.heap.size w w':=by
 have HW:=qh (((Below.refl w.heap.size w).alloc ql (.cells #[.slice A F.length c,.slice B S.length d] 36)).alloc qj (.cells #[.slice A' E.length c',.slice B' T.length d'] 36));have HE:=qh (pS F E A A' c c' _ (ha.f.below HW.o) (hb.f.below HW.o) k1.f.1 k2.f.1 k1.f.2 k2.f.2);have HS:=qh (fun w' (h:Below w.heap.size w w')=>tW S T B B' d d' w' (ha.s.below h) (hb.s.below h) k1.s.1 k2.s.1 k3 k4);have hsz:=HW.o.size
 simp only[World.size_alloc]at hsz
 obtain⟨V,hV⟩:∃V,V=(decide (F=E)&&decide (S=T)):=⟨_,rfl⟩;rw[←hV];have HV:=qh hV;clear ha hb k1 k2 k3 k4 hV
 go_enter Tryz.func25,Tryz.ntmps25
 go_wp2_with fail
 refine HE.o.mono ?_;rintro e w4 ⟨rfl,hb4⟩;have bQ:=HW.st hb4;have x0:w4.cell? ⟨w.heap.size,1,none⟩=some (.slice B S.length d):=((aJ hb4).1 w.heap.size 1 (by simp;omega)).trans (by simp[go_sem]);have x1:w4.cell? ⟨w.heap.size+1,1,none⟩=some (.slice B' T.length d'):=((aJ hb4).1 (w.heap.size+1) 1 qj).trans (by simp[go_sem]);clear hb4 HE;obtain⟨U,hU⟩:=qx (decide (F=E));rw[←hU];have HU:=qh hU;clear hU
 cases U
 ·go_wp2_with fail
  go_ret
  exact⟨by rw[HV.o,←HU.o];rfl,bQ.o⟩
 ·go_wp2_with fail
  refine(HS.o _ bQ.o).mono ?_;rintro e w5 ⟨rfl,hb5⟩;have bP:=bQ.st hb5;clear hb5;obtain⟨U,hU⟩:=qx (decide (S=T));rw[←hU];have iZ:=qh hU;clear hU
  go_wp2_with fail
  go_ret
  exact⟨by rw[HV.o,←HU.o,←iZ.o];rfl,bP.o⟩
structure l8 {α:Type}(g n k:Nat)(R:List α)(Q:World→α→Value→Prop)(w:World):Prop where
 lt:g<w.heap.size
 sR:bK w g 0 n
 pt:∀j r,j<k→R[j]?=some r→∃v,w.cell? ⟨g,j,none⟩=some v∧d4 (fun u=>Q u r v) (fun b=>b≤g) w
theorem l8.next {α:Type}{g n k:Nat}{R:List α}{Q:World→α→Value→Prop}{w w2:World}{r:α}{v:Value}(h:l8 g n k R Q w)(hk:k<n)(hr:R[k]?=some r)(hb:Below w.heap.size w w2)(hq:d4 (fun u=>Q u r v) (fun b=>b<w.heap.size) w2):l8 g n (k+1) R Q (w2.setCell ⟨g,k,none⟩ v):=by
 have hlt:=h.lt;have hsz:=hb.size;refine⟨by simp;omega,(h.sR.below hb).set _ _,fun j s hj hs=>?_⟩
 by_cases e:j=k
 ·subst e
  rw[hr]at hs;injection hs with hs;subst hs;exact⟨v,l2 (h.sR.below hb) hk,hq.step ((Fr.refl _ _).set (p:=⟨g,j,none⟩) hlt v) fun b hb=>.inl qo⟩
 ·obtain⟨v',h1,h2⟩:=h.pt j s qo hs
  exact⟨v',cD (a7 hb hlt h1) e,h2.step (show Fr w (w2.setCell ⟨g,k,none⟩ v) (fun b=>b≤g)from(Fr.of_below hb (fun b=>b≤g)).set (F:=fun b=>b≤g) (p:=⟨g,k,none⟩) (Nat.le_refl g) v) fun b hb=>.inl hb⟩
abbrev QL (u:World)(L:List Int)(v:Value):Prop:=∃B c,v=.slice B L.length c∧aG u B L∧L.length≤c
abbrev QS (u:World)(L:List Int)(v:Value):Prop:=∃B m c,v=.slice B m c∧L.length=m*6∧Rd u B (m*6) (fun i=>.int .i64 (L.getD i 0))
theorem l8.lists {g n:Nat}{Ls:List (List Int)}{w:World}(h:l8 g n n Ls QL w)(hn:Ls.length=n):d4 (fun u=>aX true u (some ⟨g,0,none⟩) Ls) (fun b=>b<g) w:=fun w' hf h0=>by
 have hg:=hf g h.lt qo;have hlt:g<w'.heap.size:=by
  have:=h.lt;rw[Array.getElem?_eq_getElem this]at hg;exact(Array.getElem?_eq_some_iff.1 hg).1
 refine⟨g,0,rfl,hlt,fun j L hj=>?_⟩;obtain⟨v,h1,h2⟩:=h.pt j L (by have:=mP hj;omega) hj;obtain⟨B,c,rfl,h3⟩:=h2 w' fun b hb hn=>hf b hb qo;exact⟨B,c,by rw[Nat.zero_add];exact(World.cell?_of_block (w:=w) (a:=⟨g,j,none⟩) hg).trans h1,h3.1,fun _=>h3.2⟩
theorem l8.DH {g n:Nat}{S:List (List Int)}{w:World}(h:l8 g n n S QS w)(hn:S.length=n):d4 (fun u=>eZ u (some ⟨g,0,none⟩) S) (fun b=>b<g) w:=fun w' hf h0=>by
 have hg:=hf g h.lt qo;have hlt:g<w'.heap.size:=by
  have:=h.lt;rw[Array.getElem?_eq_getElem this]at hg;exact(Array.getElem?_eq_some_iff.1 hg).1
 refine⟨g,0,rfl,hlt,fun j L hj=>?_⟩;obtain⟨v,h1,h2⟩:=h.pt j L (by have:=mP hj;omega) hj;obtain⟨B,m,c,rfl,h3,h4⟩:=h2 w' fun b hb hn=>hf b hb qo;exact⟨B,m,c,by rw[Nat.zero_add];exact(World.cell?_of_block (w:=w) (a:=⟨g,j,none⟩) hg).trans h1,h3,h4⟩
structure pZ (g n k:Nat)(F:List aP)(w:World):Prop where
 lt:g<w.heap.size
 sR:bK w g 0 (n*3)
 pt:∀j f,j<k→F[j]?=some f→w.cell? ⟨g,j*3,none⟩=some (.int .i64 f.1)∧w.cell? ⟨g,j*3+1,none⟩=some (.int .i64 f.2.1)∧∃B c,w.cell? ⟨g,j*3+2,none⟩=some (.slice B f.2.2.length c)∧d4 (fun u=>aX true u B f.2.2) (fun b=>b≤g) w
theorem pZ.next {g n k:Nat}{F:List aP}{w w2:World}{f:aP}{B:Option Addr}{c:Nat}(h:pZ g n k F w)(hk:k<n)(hr:F[k]?=some f)(hb:Below w.heap.size w w2)(hq:d4 (fun u=>aX true u B f.2.2) (fun b=>b<w.heap.size) w2):
 pZ g n (k+1) F (((w2.setCell ⟨g,k*3,none⟩ (.int .i64 f.1)).setCell ⟨g,k*3+1,none⟩ (.int .i64 f.2.1)).setCell ⟨g,k*3+2,none⟩ (.slice B f.2.2.length c)):=by
 have hlt:=h.lt;have hsz:=hb.size;have hrw:=h.sR.below hb;have hfr:∀X:Nat→Prop,X g→Fr w2 (((w2.setCell ⟨g,k*3,none⟩ (.int .i64 f.1)).setCell ⟨g,k*3+1,none⟩ (.int .i64 f.2.1)).setCell ⟨g,k*3+2,none⟩ (.slice B f.2.2.length c)) X:=fun X hX=>(((Fr.refl _ _).set (p:=⟨g,k*3,none⟩) hX _).set (p:=⟨g,k*3+1,none⟩) hX _).set (p:=⟨g,k*3+2,none⟩) hX _;refine⟨by simp;omega,((hrw.set _ _).set _ _).set _ _,fun j s hj hs=>?_⟩
 by_cases e:j=k
 ·subst e
  rw[hr]at hs;injection hs with hs;subst hs;exact⟨cD (cD (l2 hrw qo) qo) qo,cD (l2 (hrw.set _ _) qo) qo,B,c,l2 ((hrw.set _ _).set _ _) qo,hq.step (hfr _ hlt) fun b hb=>.inl qo⟩
 ·obtain⟨h0,h1,B',c',h2,h3⟩:=h.pt j s qo hs
  exact⟨cD (cD (cD (a7 hb hlt h0) qo) qo) qo,cD (cD (cD (a7 hb hlt h1) qo) qo) qo,B',c',cD (cD (cD (a7 hb hlt h2) qo) qo) qo,h3.step ((Fr.of_below hb (fun b=>b≤g)).trans (hfr _ ql)) fun b hb=>.inl hb⟩
theorem pZ.forms {g n:Nat}{F:List aP}{w:World}(h:pZ g n n F w)(hn:F.length=n):d4 (fun u=>eR true u (some ⟨g,0,none⟩) F) (fun b=>b<g) w:=fun w' hf h0=>by
 have hg:=hf g h.lt qo;have hlt:g<w'.heap.size:=by
  have:=h.lt;rw[Array.getElem?_eq_getElem this]at hg;exact(Array.getElem?_eq_some_iff.1 hg).1
 have hc:∀i v,w.cell? ⟨g,i,none⟩=some v→w'.cell? ⟨g,i,none⟩=some v:=fun i v h1=>(World.cell?_of_block (w:=w) (a:=⟨g,i,none⟩) hg).trans h1;refine⟨g,0,rfl,hlt,fun j f hj=>?_⟩;obtain⟨h1,h2,B,c,h3,h4⟩:=h.pt j f (by have:=mP hj;omega) hj;have h5:=h4 w' fun b hb hn=>hf b hb qo;rw[Nat.zero_add];exact⟨B,c,hc _ _ h1,hc _ _ h2,hc _ _ h3,h5⟩
def KJ (w:World)(Ls:List (List Int))(e:Ending)(w':World):Prop:=∃B c,e=.returned (.slice B Ls.length c)∧d4 (fun u=>aX true u B Ls) (fun b=>b<w.heap.size) w'∧Below w.heap.size w w'
def KK (w:World)(F:List aP)(e:Ending)(w':World):Prop:=∃B c,e=.returned (.slice B F.length c)∧d4 (fun u=>eR true u B F) (fun b=>b<w.heap.size) w'∧Below w.heap.size w w'
def KL (w:World)(S:List (List Int))(e:Ending)(w':World):Prop:=∃B c,e=.returned (.slice B S.length c)∧d4 (fun u=>eZ u B S) (fun b=>b<w.heap.size) w'∧Below w.heap.size w w'
theorem G8:(Tryz.prog.info? 74).map (fun i=>(i.zero,i.size,i.bytes))=some (some (.slice none 0 0),1,24):=by kernel_rfl
theorem G7:(Tryz.prog.info? 31).map (fun i=>(i.zero,i.size,i.bytes))=some (some (.slice none 0 0),1,24):=by kernel_rfl
theorem G6:(Tryz.prog.info? 72).map (fun i=>(i.zero,i.size,i.bytes))=some (some (.agg #[.int .i64 0,.int .i64 0,.slice none 0 0]),3,40):=by kernel_rfl
theorem xT {w w':World}{A:Option Addr}{N:Nat}{f:Nat→Value}(h:New w w' A N f):d4 (fun u=>Rd u A N f) (fun b=>b<w.heap.size) w':=d4.sY (aB A N f) h.rd fun b ⟨_,a,e,hb⟩ h2=>by
 have:=h.ab a e;omega
theorem wJ (A:OA)(q:Nat)(Ls:List (List Int)){q0:Bool}(w:World)(ha:aX q0 w A Ls)(hn:Ls.length≤1048576)(hns:∀M∈Ls,M.length≤1048576):
 Calls Tryz.prog 67 #[.slice A Ls.length q] w (KJ w Ls):=by
 have HA:=qh ha;have mG:=qh hns;clear ha hns;obtain⟨i0,hi,hz0,hz1,hz2⟩:=info_parts G8;obtain⟨n,hnl⟩:=qx (Ls.length);rw[←hnl]at hn ⊢;have dK:=qh hnl;clear hnl
 go_enter Tryz.func67,Tryz.ntmps67
 go_wp2_with (at_make;refine wpList_make_full _ rfl _ _ 65 rfl w.heap.size 74 i0 (.slice none 0 0) 1 Tryz.underlying65 hi hz0 hz1 .i64 .i64 n n n rfl rfl rfl rfl (by rw[hz2];omega) qm ql ?_;intro w1 hown hg1)
 have hb1:=(Below.refl w.heap.size w).grown hg1 ql (fun k e=>by cases e);have hw1:=bK.iM hown;have hg1:w.heap.size<w1.heap.size:=(hown.lt _ rfl).2;have HB:=qh hb1;have HW:=qh hw1;clear hb1 hw1 hown
 go_loopw [4] (fun i wr=>∃(k:Nat),k≤n∧i=.int .i64 k∧Below w.heap.size w wr∧l8 w.heap.size n k Ls QL wr) (fun i _=>n-(intOf i).toNat)
 case atStart=>exact⟨0,Nat.zero_le _,rfl,HB.o,⟨hg1,by simpa using HW.o,fun j r hj=>absurd hj qo⟩⟩
 case round=>
  obtain⟨k,hk,rfl,hb,hacc⟩:=hrel;have HB:=qh hb;have j8:=qh hacc;have hgr:=hacc.lt;have bT:=qh dK.o
  by_cases hlt:k<n
  ·obtain⟨M,hM⟩:=eU (L:=Ls) (k:=k) (by have:=dK.o;omega)
   obtain⟨g,o,B,d,rfl,hg,h0,hr,_⟩:=(HA.o.below hb).at hM;have hm:=mG.o M (List.mem_of_getElem? hM);have HM:=qh hM;have HR:=qh hr;have b1:(0:Int)≤(k:Int):=qo;have b2:(k:Int)<(n:Int):=qo;clear hb hacc hM hr
   go_wp2_with fail
   refine(rD B M.length d (fun j=>M.getD j 0) _ HR.o hm).mono ?_;rintro e w2 ⟨A1,c1,rfl,hcc,hnew⟩;have hrw:=j8.o.sR.below hnew.bl;obtain⟨⟨u0,hu0⟩,hf0⟩:=hrw k qo;rw[Nat.zero_add]at hu0 hf0;have aL:=qh (j8.o.next hlt HM.o hnew.bl (v:=.slice A1 M.length c1) fun w' hf=>⟨A1,c1,rfl,xT hnew w' hf,hcc⟩);have HB2:=qh (HB.o.trans (hnew.bl.mono HB.o.size));clear hrw hnew h0
   go_wp2
   go_roundw
   case rel=>exact⟨k+1,by omega,qg,HB2.o.setCell ql _,aL.o⟩
   case measure=>exact qs
  ·obtain rfl:n=k:=qo
   clear hb hacc
   go_wp2
   go_ret
   exact⟨_,_,by rw[←dK.o];rfl,j8.o.lists dK.o.symm,HB.o⟩
theorem sI (f:aP)(A:OA)(q:Nat){q0:Bool}(w:World)(ha:aX q0 w A f.2.2)(hb:i5 f):
 Calls Tryz.prog 38 #[.agg #[.int .i64 f.1,.int .i64 f.2.1,.slice A f.2.2.length q]] w fun e w'=>∃B c,e=.returned (.agg #[.int .i64 f.1,.int .i64 f.2.1,.slice B f.2.2.length c])∧d4 (fun u=>aX true u B f.2.2) (fun b=>b<w.heap.size) w'∧Below w.heap.size w w':=by
 obtain⟨s,p,Ls⟩:=f;have HA:=qh ha;have HB:=qh hb;clear ha hb
 go_enter Tryz.func38,Tryz.ntmps38
 go_wp2_with fail
 refine(wJ A q Ls _ (HA.o.below (qz)) HB.o.n HB.o.l).mono ?_;rintro e w1 ⟨A1,c1,rfl,hst,hb1⟩;obtain⟨hc1,hf1⟩:=aJ hb1;have hz1:w.heap.size+1+1<w1.heap.size:=blt hb1 qj;have HST:=qh hst;have HB1:=qh (show Below w.heap.size w w1 from qz);clear hst hb1
 go_wp2
 refine bodyPost_ret (v:=.agg #[.int .i64 s,.int .i64 p,.slice A1 Ls.length c1]) (by simp[results,Tryz.results38,go_sem,hc1]) rfl ⟨A1,c1,rfl,?_⟩;have hR:∀wF,Fr w1 wF (fun g=>g=w.heap.size+1∨g=w.heap.size+1+1)→Below w.heap.size w wF→d4 (fun u=>aX true u A1 Ls) (fun b=>b<w.heap.size) wF∧Below w.heap.size w wF:=by
  intro wF hf hb;refine⟨HST.o.step (hf.mono fun b hb=>?_) fun b hb=>.inl ?_,hb⟩
  ·simp
   omega
  ·simp
   omega
 have hb1:=HB1.o;exact hR _ (qf) (qz)
theorem wK (A:OA)(q:Nat)(F:List aP){q0:Bool}(w:World)(ha:eR q0 w A F)(hn:F.length≤1048576)(hns:∀f∈F,i5 f):
 Calls Tryz.prog 20 #[.slice A F.length q] w (KK w F):=by
 have HA:=qh ha;have mG:=qh hns;clear ha hns;obtain⟨i0,hi,hz0,hz1,hz2⟩:=info_parts G6;obtain⟨n,hnl⟩:=qx (F.length);rw[←hnl]at hn ⊢;have dK:=qh hnl;clear hnl
 go_enter Tryz.func20,Tryz.ntmps20
 go_wp2_with (at_make;refine wpList_make_full _ rfl _ _ 33 rfl w.heap.size 72 i0 (.agg #[.int .i64 0,.int .i64 0,.slice none 0 0]) 3 Tryz.underlying33 hi hz0 hz1 .i64 .i64 n n n rfl rfl rfl rfl (by rw[hz2];omega) qm ql ?_;intro w1 hown hg1)
 have hb1:=(Below.refl w.heap.size w).grown hg1 ql (fun k e=>by cases e);have hw1:=bK.iM hown;have hg1:w.heap.size<w1.heap.size:=(hown.lt _ rfl).2;have HB:=qh hb1;have HW:=qh hw1;clear hb1 hw1 hown
 go_loopw [4] (fun i wr=>∃(k:Nat),k≤n∧i=.int .i64 k∧Below w.heap.size w wr∧pZ w.heap.size n k F wr) (fun i _=>n-(intOf i).toNat)
 case atStart=>exact⟨0,Nat.zero_le _,rfl,HB.o,⟨hg1,HW.o,fun j r hj=>absurd hj qo⟩⟩
 case round=>
  obtain⟨k,hk,rfl,hb,hacc⟩:=hrel;have HB:=qh hb;have j8:=qh hacc;have hgr:=hacc.lt
  by_cases hlt:k<n
  ·obtain⟨f,hf⟩:=eU (L:=F) (k:=k) (by have:=dK.o;omega)
   obtain⟨g,o,B,d,rfl,hg,hat⟩:=(HA.o.below hb).at hf;have hm:=mG.o f (List.mem_of_getElem? hf);have HF:=qh hf;have h0:=hat.c0;have h1:=hat.c1;have h2:=hat.c2;have HC:=qh (sI f B d _ hat.rd hm);have b1:(0:Int)≤(k:Int):=qo;have b2:(k:Int)<(n:Int):=qo;clear hb hacc hf hat hm
   go_wp2_with fail
   refine HC.o.mono ?_;rintro e w2 ⟨A1,c1,rfl,hst,hb2⟩;have hrw:=j8.o.sR.below hb2;obtain⟨⟨u0,hu0⟩,hf0⟩:=hrw (k*3) qo;obtain⟨⟨u1,hu1⟩,hf1⟩:=hrw (k*3+1) qo;obtain⟨⟨u2,hu2⟩,hf2⟩:=hrw (k*3+2) qo;rw[Nat.zero_add]at hu0 hf0 hu1 hf1 hu2 hf2;have aL:=qh (j8.o.next (c:=c1) hlt HF.o hb2 hst);have HB2:=HB.st hb2;clear hrw hst hb2 h0 h1 h2
   go_wp2
   go_roundw
   case rel=>exact⟨k+1,by omega,qg,(((HB2.o.setCell ql _).setCell ql _).setCell ql _),aL.o⟩
   case measure=>exact qs
  ·obtain rfl:n=k:=qo
   clear hb hacc
   go_wp2
   go_ret
   exact⟨_,_,by rw[←dK.o];rfl,j8.o.forms dK.o.symm,HB.o⟩
theorem pC (A:OA)(q:Nat)(S:List (List Int))(w:World)(ha:eZ w A S)(hn:S.length≤1048576)(hns:∀M∈S,M.length≤1048576*6):
 Calls Tryz.prog 21 #[.slice A S.length q] w (KL w S):=by
 have HA:=qh ha;have mG:=qh hns;clear ha hns;obtain⟨i0,hi,hz0,hz1,hz2⟩:=info_parts G7;obtain⟨n,hnl⟩:=qx (S.length);rw[←hnl]at hn ⊢;have dK:=qh hnl;clear hnl
 go_enter Tryz.func21,Tryz.ntmps21
 go_wp2_with (at_make;refine wpList_make_full _ rfl _ _ 34 rfl w.heap.size 31 i0 (.slice none 0 0) 1 Tryz.underlying34 hi hz0 hz1 .i64 .i64 n n n rfl rfl rfl rfl (by rw[hz2];omega) qm ql ?_;intro w1 hown hg1)
 have hb1:=(Below.refl w.heap.size w).grown hg1 ql (fun k e=>by cases e);have hw1:=bK.iM hown;have hg1:w.heap.size<w1.heap.size:=(hown.lt _ rfl).2;have HB:=qh hb1;have HW:=qh hw1;clear hb1 hw1 hown
 go_loopw [4] (fun i wr=>∃(k:Nat),k≤n∧i=.int .i64 k∧Below w.heap.size w wr∧l8 w.heap.size n k S QS wr) (fun i _=>n-(intOf i).toNat)
 case atStart=>exact⟨0,Nat.zero_le _,rfl,HB.o,⟨hg1,by simpa using HW.o,fun j r hj=>absurd hj qo⟩⟩
 case round=>
  obtain⟨k,hk,rfl,hb,hacc⟩:=hrel;have HB:=qh hb;have j8:=qh hacc;have hgr:=hacc.lt
  by_cases hlt:k<n
  ·obtain⟨M,hM⟩:=eU (L:=S) (k:=k) (by have:=dK.o;omega)
   obtain⟨g,o,B,m,d,rfl,hg,h0,hl,hr⟩:=(HA.o.below hb).at hM;have hm:=mG.o M (List.mem_of_getElem? hM);have hmm:m≤1048576:=qo;have HM:=qh hM;have HR:=qh hr;have HL:=qh hl;have b1:(0:Int)≤(k:Int):=qo;have b2:(k:Int)<(n:Int):=qo;clear hb hacc hM hr hl hm
   go_wp2_with fail
   refine(lL B m d (fun j=>M.getD j 0) _ HR.o hmm).mono ?_;rintro e w2 ⟨A1,c1,rfl,hnew⟩;have hrw:=j8.o.sR.below hnew.bl;obtain⟨⟨u0,hu0⟩,hf0⟩:=hrw k qo;rw[Nat.zero_add]at hu0 hf0;have aL:=qh (j8.o.next hlt HM.o hnew.bl (v:=.slice A1 m c1) fun w' hf=>⟨A1,m,c1,rfl,HL.o,xT hnew w' hf⟩);have HB2:=qh (HB.o.trans (hnew.bl.mono HB.o.size));clear hrw hnew h0
   go_wp2
   go_roundw
   case rel=>exact⟨k+1,by omega,qg,HB2.o.setCell ql _,aL.o⟩
   case measure=>exact qs
  ·obtain rfl:n=k:=qo
   clear hb hacc
   go_wp2
   go_ret
   exact⟨_,_,by rw[←dK.o];rfl,j8.o.DH dK.o.symm,HB.o⟩
def KG (w:World)(F:List aP)(S:List (List Int))(e:Ending)(w':World):Prop:=∃A c B d,e=.returned (.agg #[.slice A F.length c,.slice B S.length d])∧cE true w' A B F S∧Below w.heap.size w w'
theorem wI (A B:OA)(c d:Nat)(F:List aP)(S:List (List Int)){q0:Bool}(w:World)(ha:cE q0 w A B F S)(hb:lD F S):
 Calls Tryz.prog 8 #[.agg #[.slice A F.length c,.slice B S.length d]] w (KG w F S):=by
 have HA:=qh ha;have HB:=qh hb;clear ha hb
 go_enter Tryz.func8,Tryz.ntmps8
 go_wp2_with fail
 refine(wK A c F _ (HA.o.f.below (qz)) HB.o.f.1 HB.o.f.2).mono ?_;rintro e w1 ⟨A1,c1,rfl,hst,hb1⟩;obtain⟨hc1,hf1⟩:=aJ hb1;have hz1:w.heap.size+1+1<w1.heap.size:=blt hb1 qj;have dQ:=qh hst;have Y1:=qh (aA.below ((aA.at_ (g':=w.heap.size+1) _ 36 #[.slice none 0 0,.slice none 0 0] qj).alloc _) hb1 (by first|(simp;done)|(simp;omega)|omega));have Z1:=qh (aA.below (aA.at_ (g':=w.heap.size+1+1) _ 36 #[.slice none 0 0,.slice none 0 0] qj) hb1 (by first|(simp;done)|(simp;omega)|omega));have HB1:=qh (show Below w.heap.size w w1 from qz);have hsz1:=hb1.size
 simp only[World.size_alloc]at hsz1
 have LV:=qh (HB1.o.setCell (p:=⟨w.heap.size+1+1,0,none⟩) (show w.heap.size≤w.heap.size+1+1 by omega) (.slice A1 F.length c1));have PZ:=qh (HA.o.s.below LV.o);have NN:=qh (show d4 (fun u=>eR true u A1 F) (fun b=>b<w.heap.size+1+1+1) (w1.setCell ⟨w.heap.size+1+1,0,none⟩ (.slice A1 F.length c1))from by
  have h:=dQ.o
  simp only[World.size_alloc]at h
  exact h.step ((Fr.refl w1 (fun b=>b<w.heap.size+1+1+1)).set (F:=fun b=>b<w.heap.size+1+1+1) (p:=⟨w.heap.size+1+1,0,none⟩) (show w.heap.size+1+1<w.heap.size+1+1+1 by omega) _) fun b hb=>.inl hb)
 clear hst
 go_wp2_with fail
 refine(pC B d S _ PZ.o HB.o.s.1 HB.o.s.2).mono ?_;rintro e w2 ⟨A2,c2,rfl,H7,hb2⟩;obtain⟨hc2,hf2⟩:=aJ hb2;have hz2:w.heap.size+1+1<w2.heap.size:=Nat.lt_of_lt_of_le hz1 (by have:=hb2.size;simpa using this);have HS2:=qh H7;have HB2:=LV.st hb2;have NM:=qh (NN.o.step (X':=fun b=>b<w.heap.size+1+1+1) (Fr.of_below hb2 _) fun b hb=>.inl hb);have Y2:=qh (aA.below (Y1.out.far (p:=⟨w.heap.size+1+1,0,none⟩) qj _) hb2 (by first|(simp;done)|(simp;omega)|omega));have Z2:=qh (aA.below (Z1.out.cM 0 _) hb2 (by first|(simp;done)|(simp;omega)|omega));have y2:=fun o=>Y2.out.cell o;have y2f:=fun o=>Y2.out.frozen o;have z2':=fun o=>Z2.out.cell o;have z2f:=fun o=>Z2.out.frozen o;clear H7 hb2 hc1 hf1 hc2 hf2
 go_wp2
 refine bodyPost_ret (v:=.agg #[.slice A1 F.length c1,.slice A2 S.length c2]) (by simp[results,Tryz.results8,go_sem,y2]) rfl ⟨A1,c1,A2,c2,rfl,?_⟩;have hR:∀wF,Fr w2 wF (fun g=>g=w.heap.size+1∨g=w.heap.size+1+1)→Below w.heap.size w wF→cE true wF A1 A2 F S∧Below w.heap.size w wF:=by
  intro wF hf hb;refine⟨⟨(NM.o.step (X':=fun _=>False) (hf.mono fun b hb=>by omega) fun b hb=>hb.elim).now,(HS2.o.step (X':=fun _=>False) (hf.mono fun b hb=>?_) fun b hb=>hb.elim).now⟩,hb⟩;have h3:=hsz1
  simp only[World.size_setCell]
  omega
 have hb2:=HB2.o;exact hR _ (qf) (qz)
theorem xE {q q':Bool}(A A':OA)(c c':Nat)(Ls:List (List Int))(w:World)(ha:aX q w A Ls)(hb:aX q' w A' Ls)(hn:Ls.length≤1048576)(hns:∀M∈Ls,M.length≤1048576):
 Calls Tryz.prog 86 #[.slice A Ls.length c,.slice A' Ls.length c'] w fun e w'=>e=.returned (.bool true)∧Below w.heap.size w w':=by
 have HA:=qh ha;have HB:=qh hb;have HN:=qh hns;clear ha hb hns
 go_enter Tryz.func86,Tryz.ntmps86
 go_wp2
 go_loopw [5] (fun i wr=>∃k:Nat,k≤Ls.length∧i=.int .i64 k∧Below w.heap.size w wr) (fun i _=>Ls.length-(intOf i).toNat)
 case atStart=>exact⟨0,Nat.zero_le _,rfl,Below.refl _ _⟩
 case round=>
  obtain⟨k,hk,rfl,hbl⟩:=hrel;have HL:=qh hbl
  by_cases hlt:k<Ls.length
  ·obtain⟨M,hM⟩:=eU hlt
   obtain⟨g,o,B,d,rfl,hg,a0,hr,_⟩:=(HA.o.below hbl).at hM;obtain⟨g',o',B',d',rfl,hg',b0,hr',_⟩:=(HB.o.below hbl).at hM;have hm:=HN.o M (List.mem_of_getElem? hM);have HE:=qh (tX B B' M.length d d' (fun j=>M.getD j 0) (wr.drewN 1) (by rw[Nat.mul_one];exact Rd.drewN hr 1) (by rw[Nat.mul_one];exact Rd.drewN hr' 1) qo);have b1:(0:Int)≤(k:Int):=qo;have b2:(k:Int)<(Ls.length:Int):=qo;clear hbl hM hr hr'
   go_wp2
   go_region_held3 (fun w'=>w'.cell? ⟨g,o+k,none⟩=some (.slice B M.length d)∧w'.cell? ⟨g',o'+k,none⟩=some (.slice B' M.length d')) (go_keep) (first|(go_at_call 105;refine HE.o.mono ?_;rintro e w1 ⟨rfl,hb1⟩;have hk1:=((aJ hb1).1 g (o+k) hg).trans a0;have hk2:=((aJ hb1).1 g' (o'+k) hg').trans b0))
   go_wp2
   go_roundw
   case rel=>exact⟨k+1,by omega,qg,(Below.drewN' HL.o 1).trans (hb1.mono HL.o.size)⟩
   case measure=>exact qs
  ·obtain rfl:k=Ls.length:=qo
   clear hbl
   go_wp2
   go_ret
   exact⟨rfl,HL.o⟩
theorem zW {q q':Bool}(f:aP)(A A':OA)(c c':Nat)(w:World)(ha:aX q w A f.2.2)(hb:aX q' w A' f.2.2)(hf:i5 f):
 Calls Tryz.prog 50 #[.agg #[.int .i64 f.1,.int .i64 f.2.1,.slice A f.2.2.length c],.agg #[.int .i64 f.1,.int .i64 f.2.1,.slice A' f.2.2.length c']] w fun e w'=>e=.returned (.bool true)∧Below w.heap.size w w':=by
 obtain⟨s,p,Ls⟩:=f;have HA:=qh ha;have HB:=qh hb;have HF:=qh hf;clear ha hb hf
 go_enter Tryz.func50,Tryz.ntmps50
 go_wp2_with fail
 refine(xE A A' c c' Ls _ (HA.o.below (qz)) (HB.o.below (qz)) HF.o.n HF.o.l).mono ?_;rintro e w1 ⟨rfl,hb1⟩;have HB1:=qh (show Below w.heap.size w w1 from qz);clear hb1
 go_wp2_with fail
 go_ret
 exact⟨rfl,HB1.o⟩
theorem xF {q q':Bool}(A A':OA)(c c':Nat)(F:List aP)(w:World)(ha:eR q w A F)(hb:eR q' w A' F)(hn:F.length≤1048576)(hns:∀f∈F,i5 f):
 Calls Tryz.prog 27 #[.slice A F.length c,.slice A' F.length c'] w fun e w'=>e=.returned (.bool true)∧Below w.heap.size w w':=by
 have HA:=qh ha;have HB:=qh hb;have HN:=qh hns;clear ha hb hns
 go_enter Tryz.func27,Tryz.ntmps27
 go_wp2
 go_loopw [5] (fun i wr=>∃k:Nat,k≤F.length∧i=.int .i64 k∧Below w.heap.size w wr) (fun i _=>F.length-(intOf i).toNat)
 case atStart=>exact⟨0,Nat.zero_le _,rfl,Below.refl _ _⟩
 case round=>
  obtain⟨k,hk,rfl,hbl⟩:=hrel;have HL:=qh hbl
  by_cases hlt:k<F.length
  ·obtain⟨f,hf⟩:=eU hlt
   obtain⟨g,o,B,d,rfl,hg,hat⟩:=(HA.o.below hbl).at hf;obtain⟨g',o',B',d',rfl,hg',hat'⟩:=(HB.o.below hbl).at hf;have hm:=HN.o f (List.mem_of_getElem? hf);have HE:=qh (zW f B B' d d' (wr.drewN 1) (hat.rd.drewN 1) (hat'.rd.drewN 1) hm);have h0:=hat.c0;have h1:=hat.c1;have h2:=hat.c2;have h0':=hat'.c0;have h1':=hat'.c1;have h2':=hat'.c2;have b1:(0:Int)≤(k:Int):=qo;have b2:(k:Int)<(F.length:Int):=qo;clear hbl hf hat hat' hm
   go_wp2_with fail
   go_region_held3 (fun w'=>w'.cell? ⟨g,o+k*3,none⟩=some (.int .i64 f.1)∧w'.cell? ⟨g',o'+k*3,none⟩=some (.int .i64 f.1)∧w'.cell? ⟨g,o+k*3+1,none⟩=some (.int .i64 f.2.1)∧w'.cell? ⟨g',o'+k*3+1,none⟩=some (.int .i64 f.2.1)∧w'.cell? ⟨g,o+k*3+2,none⟩=some (.slice B f.2.2.length d)∧w'.cell? ⟨g',o'+k*3+2,none⟩=some (.slice B' f.2.2.length d')) (go_keep)
    (first|(go_at_call 50;refine HE.o.mono ?_;rintro e w1 ⟨rfl,hb1⟩;have kb:=aJ hb1;have k0:=(kb.1 g (o+k*3) hg).trans h0;have OI:=(kb.1 g' (o'+k*3) hg').trans h0';have k1:=(kb.1 g (o+k*3+1) hg).trans h1;have k1':=(kb.1 g' (o'+k*3+1) hg').trans h1';have k2:=(kb.1 g (o+k*3+2) hg).trans h2;have k2':=(kb.1 g' (o'+k*3+2) hg').trans h2';clear kb))
   go_wp2
   go_roundw
   case rel=>exact⟨k+1,by omega,qg,(Below.drewN' HL.o 1).trans (hb1.mono HL.o.size)⟩
   case measure=>exact qs
  ·obtain rfl:k=F.length:=qo
   clear hbl
   go_wp2
   go_ret
   exact⟨rfl,HL.o⟩
theorem pT (A A':OA)(c c':Nat)(S:List (List Int))(w:World)(ha:eZ w A S)(hb:eZ w A' S)(hn:S.length≤1048576)(hns:∀M∈S,M.length≤1048576*6):
 Calls Tryz.prog 28 #[.slice A S.length c,.slice A' S.length c'] w fun e w'=>e=.returned (.bool true)∧Below w.heap.size w w':=by
 have HA:=qh ha;have HB:=qh hb;have HN:=qh hns;clear ha hb hns
 go_enter Tryz.func28,Tryz.ntmps28
 go_wp2
 go_loopw [5] (fun i wr=>∃k:Nat,k≤S.length∧i=.int .i64 k∧Below w.heap.size w wr) (fun i _=>S.length-(intOf i).toNat)
 case atStart=>exact⟨0,Nat.zero_le _,rfl,Below.refl _ _⟩
 case round=>
  obtain⟨k,hk,rfl,hbl⟩:=hrel;have HL:=qh hbl
  by_cases hlt:k<S.length
  ·obtain⟨M,hM⟩:=eU hlt
   obtain⟨g,o,B,m,d,rfl,hg,a0,hl,hr⟩:=(HA.o.below hbl).at hM;obtain⟨g',o',B',m',d',rfl,hg',b0,hl',hr'⟩:=(HB.o.below hbl).at hM;have hm:=HN.o M (List.mem_of_getElem? hM);obtain rfl:m=m':=qo;have HE:=qh (m6 B B' m d d' (fun j=>M.getD j 0) (wr.drewN 1) (Rd.drewN hr 1) (Rd.drewN hr' 1) qo);have b1:(0:Int)≤(k:Int):=qo;have b2:(k:Int)<(S.length:Int):=qo;clear hbl hM hr hr' hl hl' hm
   go_wp2
   go_region_held3 (fun w'=>w'.cell? ⟨g,o+k,none⟩=some (.slice B m d)∧w'.cell? ⟨g',o'+k,none⟩=some (.slice B' m d')) (go_keep) (first|(go_at_call 10;refine HE.o.mono ?_;rintro e w1 ⟨rfl,hb1⟩;have hk1:=((aJ hb1).1 g (o+k) hg).trans a0;have hk2:=((aJ hb1).1 g' (o'+k) hg').trans b0))
   go_wp2
   go_roundw
   case rel=>exact⟨k+1,by omega,qg,(Below.drewN' HL.o 1).trans (hb1.mono HL.o.size)⟩
   case measure=>exact qs
  ·obtain rfl:k=S.length:=qo
   clear hbl
   go_wp2
   go_ret
   exact⟨rfl,HL.o⟩
theorem xD {q q':Bool}(F:List aP)(S:List (List Int))(A A' B B':OA)(c c' d d':Nat)(w:World)(ha:cE q w A B F S)(hb:cE q' w A' B' F S)(k1:lD F S):
 Calls Tryz.prog 11 #[.agg #[.slice A F.length c,.slice B S.length d],.agg #[.slice A' F.length c',.slice B' S.length d']] w fun e w'=>e=.returned (.bool true)∧Below w.heap.size w w':=by
 have HW:=qh (((Below.refl w.heap.size w).alloc ql (.cells #[.slice A F.length c,.slice B S.length d] 36)).alloc qj (.cells #[.slice A' F.length c',.slice B' S.length d'] 36));have HE:=qh (xF A A' c c' F _ (ha.f.below HW.o) (hb.f.below HW.o) k1.f.1 k1.f.2);have HS:=qh (fun w' (h:Below w.heap.size w w')=>pT B B' d d' S w' (ha.s.below h) (hb.s.below h) k1.s.1 k1.s.2);have hsz:=HW.o.size
 simp only[World.size_alloc]at hsz
 clear ha hb k1
 go_enter Tryz.func11,Tryz.ntmps11
 go_wp2_with fail
 refine HE.o.mono ?_;rintro e w4 ⟨rfl,hb4⟩;have bQ:=HW.st hb4;have x0:w4.cell? ⟨w.heap.size,1,none⟩=some (.slice B S.length d):=((aJ hb4).1 w.heap.size 1 (by simp;omega)).trans (by simp[go_sem]);have x1:w4.cell? ⟨w.heap.size+1,1,none⟩=some (.slice B' S.length d'):=((aJ hb4).1 (w.heap.size+1) 1 qj).trans (by simp[go_sem]);clear hb4 HE
 go_wp2_with fail
 refine(HS.o _ bQ.o).mono ?_;rintro e w5 ⟨rfl,hb5⟩;have bP:=bQ.st hb5;clear hb5 x0 x1
 go_wp2_with fail
 go_ret
 exact⟨rfl,bP.o⟩
end Go.Proofs.YtmnbgjnipbpiaaaGreat
namespace Go.Proofs.YtmnbgjnipbpiaaaGreat
open Go.RowKit Go.WideShapes Go.ChangeShapes Go.Deep Go.Joins Go.ChangeAt
variable {H:Type}{enc:TypeId×Value→H}{P:Program}{W:World}{spare:Nat→Bool}{held:Bool}
theorem kW {α:Type}[Inhabited α]{t e:TypeId}{C fuel:Nat}{u:Value}{x:DataW H×List MemPlace}(Q:List Value→α→Prop)(ht:P.underlying t=some (.slice e))(hC:P.cellsOf e=C)(h0:0<C)(hQ:∀cs r,Q cs r→cs.length=C)
 (hel:∀m cs y,DataW.trod enc P W 0 spare held m e cs=some y→∃r:α,Q cs r) (hf:DataW.trod enc P W 0 spare held fuel t [u]=some x):
 ∃(A:OA) (c:Nat) (R:List α),u=.slice A R.length c∧R.length≤maxLen∧(∀r∈R,∃cs,Q cs r)∧(0<R.length→∃g o,A=some ⟨g,o,none⟩∧g<W.heap.size∧∀j r,R[j]?=some r→∃cs,Q cs r∧∀i,i<C→W.cell? ⟨g,o+j*C+i,none⟩=cs[i]?):=by
 rcases open_slice ht hf with⟨hcs,_⟩|⟨a,len,cap,m,k,D,Pl,hcs,_,hl,hm,hmm,_,hi⟩
 ·simp at hcs
  subst hcs;exact⟨none,0,[],rfl,by simp,fun r h=>by simp at h,fun h=>absurd h qj⟩
 ·simp at hcs
  subst hcs;have hle:len≤m:=by rw[hmm];split<;>omega
  have hall:∀q,∃r:α,q<len→∃cs,Q cs r∧∀i,i<C→W.cell? (a.add (q*C+i))=cs[i]?:=by
   intro q
   by_cases hq:q<len
   ·obtain⟨cs',hcells,htr⟩:=hi q qo
    rw[hC]at hcells;obtain⟨_,hcl,hat⟩:=World.cells?_some hcells;obtain⟨r,hr⟩:=hel _ _ _ htr;refine⟨r,fun _=>⟨cs',hr,fun i hi=>?_⟩⟩;rw[←Go.Deep.add_add];exact hat i hi
   ·exact⟨default,fun h=>absurd h hq⟩
  obtain⟨r,hr⟩:=Classical.axiomOfChoice hall;have hlen:((List.range len).map r).length=len:=by simp
  have hget:∀j y,((List.range len).map r)[j]?=some y→j<len∧y=r j:=fun j y hj=>by
   have hjl:j<len:=by have:=(List.getElem?_eq_some_iff.1 hj).1;simpa using this
   rw[List.getElem?_map,List.getElem?_range hjl]at hj;exact⟨hjl,by simpa using hj.symm⟩
  refine⟨some a,cap,(List.range len).map r,by rw[hlen],by rw[hlen];omega,fun y hy=>?_,fun hN=>?_⟩
  ·obtain⟨j,hj⟩:=List.getElem?_of_mem hy
   obtain⟨hjl,rfl⟩:=hget j y hj;obtain⟨cs,h1,_⟩:=hr j hjl;exact⟨cs,h1⟩
  ·rw[hlen]at hN
   obtain⟨cs,hq,hc⟩:=hr 0 hN;have h00:=hc 0 h0;have hcl:=hQ cs _ hq;rw[List.getElem?_eq_getElem qo]at h00;obtain⟨g,o,rfl⟩:∃g o,a=⟨g,o,none⟩:=by
    rw[show a.add (0*C+0)=a by simp[Addr.add]]at h00;exact lP h00
   refine⟨g,o,rfl,by simpa [Addr.add_lit]using World.block_lt_of_cell? W _ h00,fun j y hj=>?_⟩;obtain⟨hjl,rfl⟩:=hget j y hj;obtain⟨cs,h1,h2⟩:=hr j hjl;refine⟨cs,h1,fun i hi=>?_⟩;have h3:=h2 i hi;rw[Addr.add_lit]at h3;rw[Nat.add_assoc];exact h3
theorem xM {w:World}{A:Option Addr}{n:Nat}{z:Nat→Int}(h:Rd w A n (fun j=>.int .i64 (z j))):((List.range n).map z).length=n∧Rd w A n (fun j=>.int .i64 (((List.range n).map z).getD j 0)):=by
 refine⟨by simp,fun h0=>?_⟩;obtain⟨g,o,e,hg,hr⟩:=h h0;exact⟨g,o,e,hg,fun j hj=>by rw[hr j hj];simp[List.getD,hj]⟩
theorem zL {t e i:TypeId}{fuel:Nat}{u:Value}{x:DataW H×List MemPlace}(ht:P.underlying t=some (.slice e))(he:P.underlying e=some (.slice i))(hi:P.underlying i=some (.int .i64))(hC:P.cellsOf e=1)(hc:P.cellsOf i=1)
 (hf:DataW.trod enc P W 0 spare held fuel t [u]=some x):
 ∃(A:OA) (c:Nat) (Ls:List (List Int)),u=.slice A Ls.length c∧aX false W A Ls∧Ls.length≤maxLen∧∀L∈Ls,L.length≤maxLen:=by
 obtain⟨A,c,R,hu,hl,hb,hr⟩:=kW (α:=List Int) (C:=1) (fun cs L=>∃B c,cs=[.slice B L.length c]∧aG W B L∧L.length≤maxLen) ht hC qo (fun cs r ⟨B,c,h,_⟩=>by rw[h];rfl)
  (fun m cs y h=>by
   obtain⟨v,rfl⟩:∃v,cs=[v]:=by
    rcases open_slice he h with⟨e,_⟩|⟨a,l,c,_,_,_,_,e,_⟩<;>exact⟨_,e⟩
   obtain⟨B,n,c,z,e,hz,hn,_⟩:=sW he hi hc h;obtain⟨h1,h2⟩:=xM hz;exact⟨(List.range n).map z,B,c,by rw[e,h1],by unfold aG;rw[h1];exact h2,by rw[h1];exact hn⟩) hf
 refine⟨A,c,R,hu,fun h0=>?_,hl,fun L hL=>?_⟩
 ·obtain⟨g,o,e,hg,hr⟩:=hr h0
  refine⟨g,o,e,hg,fun j L hj=>?_⟩;obtain⟨cs,⟨B,c,hcs,hrd,_⟩,hcell⟩:=hr j L hj;have:=hcell 0 qo;rw[hcs,Nat.mul_one,Nat.add_zero]at this;exact⟨B,c,this,hrd,fun h=>by cases h⟩
 ·obtain⟨cs,B,c,_,_,h⟩:=hb L hL
  exact h
structure MR (f:aP):Prop where
 n:f.2.2.length≤maxLen
 l:∀L∈f.2.2,L.length≤maxLen
theorem zM {t e t2 e2 i:TypeId}{f0 f1 f2:Field}{fuel:Nat}{u:Value}{x:DataW H×List MemPlace}(ht:P.underlying t=some (.slice e))(he:P.underlying e=some (.struct #[f0,f1,f2]))(hone:oneCellFields P #[f0,f1,f2]=true)(hC:P.cellsOf e=3)
 (h0:P.underlying f0.type=some (.int .i64)) (h1:P.underlying f1.type=some (.int .i64)) (h2:f2.type=t2) (ht2:P.underlying t2=some (.slice e2)) (he2:P.underlying e2=some (.slice i)) (hi:P.underlying i=some (.int .i64)) (hC2:P.cellsOf e2=1) (hc:P.cellsOf i=1)
 (hf:DataW.trod enc P W 0 spare held fuel t [u]=some x):
 ∃(A:OA) (c:Nat) (F:List aP),u=.slice A F.length c∧eR false W A F∧F.length≤maxLen∧∀f∈F,MR f:=by
 obtain⟨A,c,R,hu,hl,hb,hr⟩:=kW (α:=aP) (C:=3) (fun cs f=>∃B c,cs=[.int .i64 f.1,.int .i64 f.2.1,.slice B f.2.2.length c]∧aX false W B f.2.2∧MR f) ht hC qo (fun cs r ⟨B,c,h,_⟩=>by rw[h];rfl)
  (fun m cs y h=>by
   obtain⟨xs,n,_,_,hcl,hxl,hfl⟩:=DataW.trod_struct he h;obtain⟨o0,k0⟩:=hone_of hone 0 f0 rfl;obtain⟨o1,k1⟩:=hone_of hone 1 f1 rfl;obtain⟨o2,k2⟩:=hone_of hone 2 f2 rfl
   match cs,hcl.trans hC,xs,hxl with
   |[c0,c1,c2],_,[y0,y1,y2],_=>
    have g0:=hfl 0 f0 rfl;have g1:=hfl 1 f1 rfl;have g2:=hfl 2 f2 rfl;rw[o0,k0]at g0;rw[o1,k1]at g1;rw[o2,k2]at g2;obtain⟨d,e0,_,_⟩:=DataW.trod_int h0 (show DataW.trod enc P W 0 spare held n f0.type [c0]=some y0 from g0);obtain⟨p,e1,_,_⟩:=DataW.trod_int h1 (show DataW.trod enc P W 0 spare held n f1.type [c1]=some y1 from g1);have g3:DataW.trod enc P W 0 spare held n f2.type [c2]=some y2:=g2;rw[h2]at g3;obtain⟨B,q,Ls,e3,hr,hl,hll⟩:=zL ht2 he2 hi hC2 hc g3
    simp at e0 e1
    subst e0 e1 e3;exact⟨(d,p,Ls),B,q,rfl,hr,hl,hll⟩) hf
 refine⟨A,c,R,hu,fun h0=>?_,hl,fun f hf=>?_⟩
 ·obtain⟨g,o,e,hg,hr⟩:=hr h0
  refine⟨g,o,e,hg,fun j f hj=>?_⟩;obtain⟨cs,⟨B,c,hcs,hrd,_⟩,hcell⟩:=hr j f hj;have k0:=hcell 0 qo;have k1:=hcell 1 qo;have k2:=hcell 2 qo;rw[hcs]at k0 k1 k2;exact⟨B,c,k0,k1,k2,hrd⟩
 ·obtain⟨cs,B,c,_,_,h⟩:=hb f hf
  exact h
theorem rI {t e i:TypeId}{fs:Array Field}{fuel:Nat}{u:Value}{x:DataW H×List MemPlace}(ht:P.underlying t=some (.slice e))(he:P.underlying e=some (.slice i))(hC:P.cellsOf e=1)(hi:P.underlying i=some (.struct fs))(hone:oneCellFields P fs=true)(OS:P.cellsOf i=fs.size)
 (hfs:fs.toList.map (fun f=>P.underlying f.type)=List.replicate 6 (some (.int .i64))) (hS:fs.size=6) (hf:DataW.trod enc P W 0 spare held fuel t [u]=some x):
 ∃(A:OA) (c:Nat) (S:List (List Int)),u=.slice A S.length c∧eZ W A S∧S.length≤maxLen∧∀L∈S,L.length≤maxLen*6:=by
 obtain⟨A,c,R,hu,hl,hb,hr⟩:=kW (α:=List Int) (C:=1) (fun cs L=>∃B m c,cs=[.slice B m c]∧L.length=m*6∧Rd W B (m*6) (fun i=>.int .i64 (L.getD i 0))∧m≤maxLen) ht hC qo (fun cs r ⟨B,m,c,h,_⟩=>by rw[h];rfl)
  (fun m cs y h=>by
   obtain⟨v,rfl⟩:∃v,cs=[v]:=by
    rcases open_slice he h with⟨e,_⟩|⟨a,l,c,_,_,_,_,e,_⟩<;>exact⟨_,e⟩
   obtain⟨B,n,c,z,e,hz,hn⟩:=lS he hi hone OS hfs hS qo h;obtain⟨h1,h2⟩:=xM hz;exact⟨(List.range (n*6)).map z,B,n,c,by rw[e],h1,h2,hn⟩) hf
 refine⟨A,c,R,hu,fun h0=>?_,hl,fun L hL=>?_⟩
 ·obtain⟨g,o,e,hg,hr⟩:=hr h0
  refine⟨g,o,e,hg,fun j L hj=>?_⟩;obtain⟨cs,⟨B,m,c,hcs,hll,hrd,_⟩,hcell⟩:=hr j L hj;have:=hcell 0 qo;rw[hcs,Nat.mul_one,Nat.add_zero]at this;exact⟨B,m,c,this,hll,hrd⟩
 ·obtain⟨cs,B,m,c,_,h1,_,h2⟩:=hb L hL
  omega
end Go.Proofs.YtmnbgjnipbpiaaaGreat
