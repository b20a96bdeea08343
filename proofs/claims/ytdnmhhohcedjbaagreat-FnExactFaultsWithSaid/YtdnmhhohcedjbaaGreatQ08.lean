/- Walks and plain lemmas. -/
import Derived.Test.YtdnmhhohcedjbaaGreatQ06
import Derived.Test.YtdnmhhohcedjbaaGreatQ02
import Derived.BigQuiet
import Derived.Deep.RegionHeld3
import Derived.Test.YtdnmhhohcedjbaaGreatQ05
import Derived.Deep.RegionLaw
set_option linter.unusedVariables false
set_option linter.unusedSimpArgs false
set_option maxHeartbeats 1000000
set_option maxRecDepth 20000
namespace Go.Proofs.YtdnmhhohcedjbaaGreat
open Go.RowKit
structure gI (b o:Nat)(k d fb fa tb ta c r:Int)(w:World):Prop where
 c0:w.cell? ⟨b,o,none⟩=some (.int .i64 k)
 c1:w.cell? ⟨b,o+1,none⟩=some (.int .i64 d)
 c2:w.cell? ⟨b,o+2,none⟩=some (.int .i64 fb)
 c3:w.cell? ⟨b,o+2+1,none⟩=some (.int .i64 fa)
 c4:w.cell? ⟨b,o+4,none⟩=some (.int .i64 tb)
 c5:w.cell? ⟨b,o+4+1,none⟩=some (.int .i64 ta)
 c6:w.cell? ⟨b,o+6,none⟩=some (.int .i64 c)
 c7:w.cell? ⟨b,o+7,none⟩=some (.int .i64 r)
theorem dA (b o:Nat)(k d fb fa tb ta c r:Int):Loc (gI b o k d fb fa tb ta c r) (fun q=>q=b):=by
 refine⟨fun w w' h hF=>?_,fun w q h hq=>by subst hq;exact World.block_lt_of_cell? w _ h.c0⟩;have hb:∀i,w'.cell? ⟨b,i,none⟩=w.cell? ⟨b,i,none⟩:=fun i=>World.cell?_of_block (w:=w) (a:=⟨b,i,none⟩) (hF b rfl);exact⟨(hb _).trans h.c0,(hb _).trans h.c1,(hb _).trans h.c2,(hb _).trans h.c3,(hb _).trans h.c4,(hb _).trans h.c5,(hb _).trans h.c6,(hb _).trans h.c7⟩
def aL (b a r:Int):Int:=if b=2 then a+r else a
theorem iC {b a r:Int}(h0:0≤a)(h1:a≤23)(h2: -3≤r)(h3:r≤3): -3≤aL b a r∧aL b a r≤26:=by unfold aL;split<;>omega
theorem sO (b a r:Int)(w:World)(h0:0≤a)(h1:a≤23)(h2: -3≤r)(h3:r≤3):Calls Tryz.prog 115 #[.agg #[.int .i64 b,.int .i64 a],.int .i64 r] w fun e w'=>e=.returned (.int .i64 (aL b a r))∧Below w.heap.size w w':=by
 by_cases hb:b=2
 ·subst hb
  go_enter Tryz.func115,Tryz.ntmps115
  go_wp2
  go_ret
  exact⟨by simp[aL],qz⟩
 ·have hb':(b==2)=false:=by simpa using hb
  go_enter Tryz.func115,Tryz.ntmps115
  go_wp2
  go_ret
  exact⟨by simp[aL,hb],qz⟩
def MW (a:bC)(s:aI)(b:Int):Value:=if b=1 then .slice (some ⟨a.gf,0,none⟩) s.W a.cf else .slice (some ⟨a.gk,0,none⟩) s.W a.ck
section
variable {tg:Nat→Nat}{a:bC}{s:aI}
theorem EW (b:Int)(w:World)(H:Mem tg a s w):Calls Tryz.prog 116 #[.pointer (some ⟨a.g,0,none⟩),.int .i64 b] w fun e w'=>e=.returned (MW a s b)∧w=w':=by
 have m2:w.cell? ⟨a.g,2,none⟩=some (.slice (some ⟨a.gf,0,none⟩) s.W a.cf):=H.m.cell 2;have m3:w.cell? ⟨a.g,3,none⟩=some (.slice (some ⟨a.gk,0,none⟩) s.W a.ck):=H.m.cell 3;clear H
 by_cases hb:b=1
 ·subst hb
  go_enter Tryz.func116,Tryz.ntmps116
  go_wp2
  go_ret
  exact⟨rfl,rfl⟩
 ·have hb':(b==1)=false:=by simpa using hb
  have HB:=qh (show MW a s b=.slice (some ⟨a.gk,0,none⟩) s.W a.ck from if_neg hb)
  go_enter Tryz.func116,Tryz.ntmps116
  go_wp2
  go_ret
  exact⟨by rw[HB.o];rfl,rfl⟩
def kO (a:bC)(b x:Int):Value:=if b=1 then a.F x.toNat else a.K x.toNat
def aM (s:aI)(b x:Int):Nat:=if b=1 then s.f x.toNat else s.k x.toNat
theorem zQ08x0 {p:Prop}(h:p:=by
 go_enter Tryz.func87,Tryz.ntmps87
 go_wp2_with fail
 go_quiet ((go_at_call 116;exact Calls.quiet_of_same (hq _)))
 go_wp2
 go_ret
 exact⟨by rw[E1.out,←HV.o];rfl,qz⟩):p:=h
theorem pA (b x:Int)(w:World)(H:Mem tg a s w)(hx:0≤x)(hx1:x<s.W):Calls Tryz.prog 87 #[.pointer (some ⟨a.g,0,none⟩),.agg #[.int .i64 b,.int .i64 x]] w fun e w'=>e=.returned (kO a b x)∧Below w.heap.size w w':=by
 have hg:Below w.heap.size w (w.alloc (.cells #[.int .i64 b,.int .i64 x] 65)):=qb;have HN:=qh (H.below hg);have hq:∀q,Calls Tryz.prog 116 #[.pointer (some ⟨a.g,0,none⟩),.int .i64 b] ((w.alloc (.cells #[.int .i64 b,.int .i64 x] 65)).drewN q) fun e w'=>e=.returned (MW a s b)∧w'=(w.alloc (.cells #[.int .i64 b,.int .i64 x] 65)).drewN q:=fun q=>(EW b _ (HN.o.drewN q)).mono fun _ _ h=>⟨h.1,h.2.symm⟩
 by_cases hb:b=1
 ·subst hb
  have hc:=HN.o.f x.toNat qo;rw[Nat.zero_add]at hc;have e1:kO a 1 x=a.F x.toNat:=if_pos rfl;have e2:MW a s 1=.slice (some ⟨a.gf,0,none⟩) s.W a.cf:=if_pos rfl;have E1:=qh e1
  simp only[e2]at hq
  obtain⟨V,hV⟩:=qx (a.F x.toNat);rw[←hV]at hc;have HV:=qh hV;clear e1 e2 hV
  exact zQ08x0
 ·have hb':(b==1)=false:=by simpa using hb
  have hc:=HN.o.k x.toNat qo;rw[Nat.zero_add]at hc;have e1:kO a b x=a.K x.toNat:=if_neg hb;have e2:MW a s b=.slice (some ⟨a.gk,0,none⟩) s.W a.ck:=if_neg hb;have E1:=qh e1
  simp only[e2]at hq
  obtain⟨V,hV⟩:=qx (a.K x.toNat);rw[←hV]at hc;have HV:=qh hV;clear e1 e2 hV
  exact zQ08x0
def bO (a:bC)(b:Int):Nat:=if b=1 then a.gf else a.gk
def ahS (a:bC)(b x:Int)(v:Value)(w:World)(e:Ending)(w':World):Prop:=e=.returned (.tuple #[])∧∃w1,Below w.heap.size w w1∧w'=w1.setCell ⟨bO a b,x.toNat,none⟩ v
theorem lV (b x:Int)(v:Value)(w:World)(H:Mem tg a s w)(hx:0≤x)(hx1:x<s.W)(hv:∃A n c,v=.slice A n c):Calls Tryz.prog 89 #[.pointer (some ⟨a.g,0,none⟩),.agg #[.int .i64 b,.int .i64 x],v] w (ahS a b x v w):=by
 obtain⟨Av,nv,cv,rfl⟩:=hv;have hg:Below w.heap.size w (w.alloc (.cells #[.int .i64 b,.int .i64 x] 65)):=qb;have HN:=qh (H.below hg)
 by_cases hb:b=1
 ·subst hb
  have hc:=HN.o.f x.toNat qo;obtain⟨_,hw⟩:=HN.o.fw x.toNat qo;rw[Nat.zero_add]at hc hw;have e2:MW a s 1=.slice (some ⟨a.gf,0,none⟩) s.W a.cf:=if_pos rfl;have E2:=qh e2;have E3:=qh (show bO a 1=a.gf from if_pos rfl);obtain⟨V,hV⟩:=qx (a.F x.toNat);rw[←hV]at hc;clear e2 hV
  go_enter Tryz.func89,Tryz.ntmps89
  go_wp2_with fail
  refine(EW 1 _ HN.o).mono ?_;rintro e w' ⟨rfl,rfl⟩;rw[E2.out]
  go_wp2
  go_end0
  exact⟨rfl,_,qb,by rw[E3.out]⟩
 ·have hb':(b==1)=false:=by simpa using hb
  have hc:=HN.o.k x.toNat qo;obtain⟨_,hw⟩:=HN.o.kw x.toNat qo;rw[Nat.zero_add]at hc hw;have e2:MW a s b=.slice (some ⟨a.gk,0,none⟩) s.W a.ck:=if_neg hb;have E2:=qh e2;have E3:=qh (show bO a b=a.gk from if_neg hb);obtain⟨V,hV⟩:=qx (a.K x.toNat);rw[←hV]at hc;clear e2 hV
  go_enter Tryz.func89,Tryz.ntmps89
  go_wp2_with fail
  refine(EW b _ HN.o).mono ?_;rintro e w' ⟨rfl,rfl⟩;rw[E2.out]
  go_wp2
  go_end0
  exact⟨rfl,_,qb,by rw[E3.out]⟩
end
end Go.Proofs.YtdnmhhohcedjbaaGreat
namespace Go.Proofs.YtdnmhhohcedjbaaGreat
open Go.RowKit
theorem yL:(Tryz.prog.info? 2).map (fun i=>(i.zero,i.size,i.bytes))=some (some (.int .i64 0),1,8):=by kernel_rfl
def AV (w:World)(n:Nat)(e:Ending)(w':World):Prop:=∃v,e=.returned v∧bE w' v n∧(∀b,v.ownBlock=some b→w.heap.size≤b)∧Below w.heap.size w w'
theorem bE.form {w:World}{v:Value}{n:Nat}(h:bE w v n):∃A c,v=.slice A n c:=by
 obtain⟨xs,hx⟩:=h;exact aF hx
theorem bE.rd {w:World}{v:Value}{n:Nat}(h:bE w v n):∃A c,∃xs:List Int,v=.slice A n c∧Rd w A n (fun j=>.int .i64 (xs.getD j 0)):=by
 obtain⟨xs,hx⟩:=h;obtain⟨A,c,rfl⟩:=aF hx;refine⟨A,c,xs,rfl,fun hn=>?_⟩;have hl:xs.length=n:=by have:=hx.1;simpa [ints]using this
 have hx':=hx
 rcases hx'.2 with⟨e,h0⟩|⟨g,cap,cur,e,_,hh,_⟩
 ·subst h0
  omega
 ·injection e with e1 e2 e3
  subst e1 e3;refine⟨g,0,rfl,(Array.getElem?_eq_some_iff.1 hh).1,fun j hj=>?_⟩;rw[Nat.zero_add,hx.cellAt j qo]
  simp[ints,List.getD,List.getElem?_eq_getElem (show j<xs.length by omega)]
theorem JP {w:World}{B:Nat}{e:TypeId}{size n:Nat}{v:Value}{xs:List Value}(ho:w.ownsRow B e size v n xs):(∀b,v.ownBlock=some b→B≤b):=fun b hb=>(ho.lt b hb).1
theorem AV.of {w w':World}{v:Value}{n:Nat}{xs:List Int}(ho:w'.ownsRow w.heap.size 2 1 v n (ints xs))(hb:Below w.heap.size w w'):AV w n (.returned v) w':=
 ⟨v,rfl,⟨xs,eF ho (Nat.zero_le _)⟩,JP ho,hb⟩
theorem yK (z:List Int)(n:Nat):((List.range n).map fun j=>Value.int .i64 (z.getD j 0))=ints ((List.range n).map fun j=>z.getD j 0):=by
 simp[ints]
theorem iO (v:Value)(n:Nat)(w:World)(hv:bE w v n)(hn:n≤1048576):Calls Tryz.prog 83 #[v] w (AV w n):=by
 obtain⟨i0,hi,iz,is,ib⟩:=info_parts yL;obtain⟨A,c,xs,rfl,hr⟩:=hv.rd;have hb0:Below w.heap.size w (w.alloc (.cells #[] 2)):=qb;have HR:=qh (hr.below hb0);have HO:=qh (World.ownsRow_made (e:=2) (size:=1) w #[] 0 ql qm rfl);have HB:=qh hb0;clear hv hr hb0
 go_enter Tryz.func83,Tryz.ntmps83
 go_wp2_with (at_builtin;go_must (refine cW (w.alloc (.cells #[] 2)) rfl (.tmp 3) (.tmp 4) _ rfl w.heap.size 2 i0 _ 1 8 Tryz.underlying34 hi iz is ib rfl qo _ 0 [] rfl HO.o A n c (fun j=>.int .i64 (xs.getD j 0)) rfl (by rw[Nat.mul_one];exact HR.o) (fun j=>rfl) qm qo qj ?_);intro v' w' hown' hfr;have HOWN':=qh hown';have iL:=qh hfr;clear hown' hfr)
 go_ret
 have ho:=HOWN'.o;rw[Nat.zero_add,List.nil_append,Nat.mul_one,yK]at ho;exact AV.of ho (HB.o.trans (iL.o.own HO.o qj))
def afM (w:World)(n:Nat)(e:Ending)(w':World):Prop:=∃q,q≤n∧AV w q e w'
theorem zQ08x1 {p:Prop}(h:p:=by
 go_roundw
 case rel=>exact⟨j+1,q+1,true,zs++[x],by omega,qg,rfl,by simp;omega,by rw[aT];exact f9.o,HB2.o⟩
 case measure=>exact qs):p:=h
theorem Dt (v:Value)(n:Nat)(y:Int)(w:World)(hv:bE w v n)(hn:n≤1048576):Calls Tryz.prog 88 #[v,.int .i64 y] w (afM w (n+1)):=by
 obtain⟨i0,hi,iz,is,ib⟩:=info_parts yL;obtain⟨A,c,xs,rfl,hr⟩:=hv.rd;have HR:=qh hr;clear hv hr
 go_enter Tryz.func88,Tryz.ntmps88
 go_wp2_with fail
 go_loopw [5,6,7] (fun v dv iv wr=>∃(j q:Nat) (dn:Bool) (zs:List Int),j≤n∧iv=.int .i64 j∧dv=.bool dn∧q≤j+(if dn then 1 else 0)∧wr.ownsRow w.heap.size 2 1 v q (ints zs)∧Below w.heap.size w wr) (fun _ _ iv _=>n-(intOf iv).toNat)
 case atStart=>exact⟨0,0,false,[],Nat.zero_le _,rfl,rfl,by simp,World.ownsRow_made w #[] 0 ql qm rfl,qz⟩
 case round=>
  obtain⟨j,q,dn,zs,hj,rfl,rfl,hq,hown,hb⟩:=hrel;have HOWN:=qh hown;have HB:=qh hb;have hq1:q≤j+1:=by split at hq<;>omega
  have HQ:=qh hq;clear hown hb hq
  by_cases hlt:j<n
  ·obtain⟨g,o,rfl,hg,hra⟩:=HR.o qo
   have hcw:=((aA HB.o).1 _ _ hg).trans (hra j hlt);clear hra;obtain⟨x,hx⟩:=qx (xs.getD j 0)
   simp only[←hx]at hcw
   clear hx
   cases dn
   ·have hq0:q≤j:=by have:=HQ.o;simpa using this
    by_cases hge:y≤x
    ·by_cases hgt:y<x
     ·go_wp2_with (first
       |(at_builtin;(refine bV _ rfl (.tmp 31) (.tmp 33) _ rfl w.heap.size 2 i0 _ 1 8 Tryz.underlying34 hi iz is ib rfl qo u5 q (ints zs) rfl HOWN.o _ 1 1 [.int .i64 y] rfl rfl (by simp[Value.oneCell']) qm qo HB.o.size ?_);intro v1 w1 hown1 hb1;have CI:=qh hown1;have HB1:=qh (HB.o.trans hb1);have hcw1:=((aA hb1).1 g (o+j) hg).trans hcw;clear hown1 hb1)
       |(at_builtin;(refine bV _ rfl (.tmp 35) (.tmp 40) _ rfl w.heap.size 2 i0 _ 1 8 Tryz.underlying34 hi iz is ib rfl qo v1 (q+1) (ints zs++[.int .i64 y]) rfl CI.o _ 1 1 [.int .i64 x] rfl rfl (by simp[Value.oneCell']) qm qo HB1.o.size ?_);intro v2 w2 hown2 hb2;have f9:=qh hown2;have HB2:=qh (HB1.o.trans hb2);clear hown2 hb2))
      go_roundw
      case rel=>exact⟨j+1,q+1+1,true,zs++[y]++[x],by omega,qg,rfl,by simp;omega,by rw[aT,aT];exact f9.o,HB2.o⟩
      case measure=>exact qs
     ·go_wp2_with (at_builtin;go_must (refine bV _ rfl (.tmp 35) (.tmp 40) _ rfl w.heap.size 2 i0 _ 1 8 Tryz.underlying34 hi iz is ib rfl qo u5 q (ints zs) rfl HOWN.o _ 1 1 [.int .i64 x] rfl rfl (by simp[Value.oneCell']) qm qo HB.o.size ?_);intro v2 w2 hown2 hb2;have f9:=qh hown2;have HB2:=qh (HB.o.trans hb2);clear hown2 hb2)
      exact zQ08x1
    ·go_wp2_with (at_builtin;go_must (refine bV _ rfl (.tmp 35) (.tmp 40) _ rfl w.heap.size 2 i0 _ 1 8 Tryz.underlying34 hi iz is ib rfl qo u5 q (ints zs) rfl HOWN.o _ 1 1 [.int .i64 x] rfl rfl (by simp[Value.oneCell']) qm qo HB.o.size ?_);intro v2 w2 hown2 hb2;have f9:=qh hown2;have HB2:=qh (HB.o.trans hb2);clear hown2 hb2)
     go_roundw
     case rel=>exact⟨j+1,q+1,false,zs++[x],by omega,qg,rfl,by simp;omega,by rw[aT];exact f9.o,HB2.o⟩
     case measure=>exact qs
   ·go_wp2_with (at_builtin;go_must (refine bV _ rfl (.tmp 35) (.tmp 40) _ rfl w.heap.size 2 i0 _ 1 8 Tryz.underlying34 hi iz is ib rfl qo u5 q (ints zs) rfl HOWN.o _ 1 1 [.int .i64 x] rfl rfl (by simp[Value.oneCell']) qm qo HB.o.size ?_);intro v2 w2 hown2 hb2;have f9:=qh hown2;have HB2:=qh (HB.o.trans hb2);clear hown2 hb2)
    exact zQ08x1
  ·obtain rfl:n=j:=qo
   cases dn
   ·go_wp2_with (at_builtin;go_must (refine bV _ rfl (.tmp 44) (.tmp 46) _ rfl w.heap.size 2 i0 _ 1 8 Tryz.underlying34 hi iz is ib rfl qo u5 q (ints zs) rfl HOWN.o _ 1 1 [.int .i64 y] rfl rfl (by simp[Value.oneCell']) qm qo HB.o.size ?_);intro v2 w2 hown2 hb2;have f9:=qh hown2;have HB2:=qh (HB.o.trans hb2);clear hown2 hb2)
    go_ret
    have hq0:q≤n:=by have:=HQ.o;simpa using this
    exact⟨q+1,by omega,AV.of (xs:=zs++[y]) (by rw[aT];exact f9.o) HB2.o⟩
   ·go_wp2
    go_ret
    exact⟨q,hq1,AV.of HOWN.o HB.o⟩
end Go.Proofs.YtdnmhhohcedjbaaGreat
namespace Go.Proofs.YtdnmhhohcedjbaaGreat
open Go.RowKit
def Zd (w:World)(tg:Nat→Nat)(g:Nat)(ok:Bool)(s':aI)(v:Value)(e:Ending)(w':World):Prop:=e=.returned v∧Fr w w' (eZ tg)∧(ok=true→Moved w tg g s' w')
def eP (s:aI)(d x:Int)(j:Nat):Bool:=s.cin j&&!(decide (d=1)&&decide (x<s.cat j))&&!(decide (d= -1)&&decide (s.cat j<x+1))
def bM (s:aI)(d x:Int)(j:Nat):aI:={s with cat:=fun q=>if q=j then(if d=1 then x+1 else x)else s.cat q}
section
variable {tg:Nat→Nat}{a:bC}{s:aI}{D:Nat}{w:World}
theorem Mem.mA (H:Mem tg a s w){j:Nat}(hj:j<4):w.cell? ⟨a.gc,j*2,none⟩=some (.bool (s.cin j))∧w.cell? ⟨a.gc,j*2+1,none⟩=some (.int .i64 (s.cat j))∧w.frozen? ⟨a.gc,j*2,none⟩=false∧w.frozen? ⟨a.gc,j*2+1,none⟩=false:=by
 have h0:=H.c (j*2) qo;have h1:=H.c (j*2+1) qo;have f0:=(H.cw (j*2) qo).2;have f1:=(H.cw (j*2+1) qo).2;rw[Nat.zero_add]at h0 h1 f0 f1;have e0:nO s (j*2)=.bool (s.cin j):=by unfold nO;rw[if_pos qo,show j*2/2=j by omega]
 have e1:nO s (j*2+1)=.int .i64 (s.cat j):=by unfold nO;rw[if_neg qo,show(j*2+1)/2=j by omega]
 exact⟨h0.trans (by rw[e0]),h1.trans (by rw[e1]),f0,f1⟩
theorem I6 (bo o:Nat)(k d fb fa tb ta r:Int)(j:Nat)(H:Mem tg a s w)(hs:bW s D)(ho:gI bo o k d fb fa tb ta ((j:Int)+1) r w)(bK:tg bo=0)(hj:j<4)(hd:d=1∨d= -1)(ha0:0≤fa)(ha1:fa≤23):
 Calls Tryz.prog 85 #[.pointer (some ⟨a.g,0,none⟩),.pointer (some ⟨bo,o,none⟩)] w (Zd w tg a.g (eP s d (aL fb fa s.rk) j) (bM s d (aL fb fa s.rk) j) (.bool (eP s d (aL fb fa s.rk) j))):=by
 obtain⟨x,hx⟩:=qx (aL fb fa s.rk);have hxb:=iC (b:=fb) ha0 ha1 hs.r1 hs.r2;rw[←hx]at hxb ⊢;have HX0:=qh hx;have HH:=qh H;have m1:w.cell? ⟨a.g,1,none⟩=some (.int .i64 s.rk):=H.m.cell 1;have m4:w.cell? ⟨a.g,4,none⟩=some (.slice (some ⟨a.gc,0,none⟩) 4 a.cc):=H.m.cell 4;obtain⟨k0,k1,f0,f1⟩:=H.mA hj;have o1:=ho.c1;have o2:=ho.c2;have o3:=ho.c3;have o6:=ho.c6;have hr1:=hs.r1;have hr2:=hs.r2;have hcb:=hs.ca j hj;clear H ho hx
 go_enter Tryz.func85,Tryz.ntmps85
 go_wp2_with fail
 go_region
 have hgo:=World.block_lt_of_cell? w _ o2;have hgm:=World.block_lt_of_cell? w _ m1;have mN:=qh hgo;have GH:=qh hgm;have O2:=qh o2;have O3:=qh o3;have M1:=qh m1
 go_wp2_with fail
 go_region_held3 (fun w'=>w'.cell? ⟨bo,o+2,none⟩=some (.int .i64 fb)∧w'.cell? ⟨bo,o+2+1,none⟩=some (.int .i64 fa)∧w'.cell? ⟨a.g,1,none⟩=some (.int .i64 s.rk)) (go_keep)
  ((go_at_call 115;refine(sO fb fa s.rk _ ha0 ha1 hr1 hr2).mono ?_;rintro e w1 ⟨he,hb1⟩;obtain rfl:e=.returned (.int .i64 x):=he.trans (by rw[HX0.o]);have HB1:Hq (Below w.heap.size w w1):=qh (((Below.refl w.heap.size w).drew.drew).trans hb1);have IA:=((aA HB1.o).1 bo (o+2) mN.o).trans O2.out;have I9:=((aA HB1.o).1 bo (o+2+1) mN.o).trans O3.out;have Kw:=((aA HB1.o).1 a.g 1 GH.o).trans M1.out;clear hb1))
 rename_i hHeld
 clear hHeld;have KL:=((aA HB1.o).1 bo (o+1) mN.o).trans o1;obtain⟨kc0,kc1,kf0,kf1⟩:=(HH.o.below HB1.o).mA hj;clear o1 o2 o3 o6 m1 m4 k0 k1 f0 f1 IA I9 Kw;have HHX:=qh (HH.o.below HB1.o);have kK:=qh (show∀w',Fr w w' (eZ tg)→eP s d x j=false→Zd w tg a.g (eP s d x j) (bM s d x j) (.bool (eP s d x j)) (.returned (.bool false)) w' from fun w' hf hb=>⟨by rw[hb],hf,fun h=>by rw[hb]at h;cases h⟩);have iL:=qh (Fr.of_below HB1.o (eZ tg))
 cases hci:s.cin j
 ·have HX:=qh (show eP s d x j=false by simp[eP,hci])
  rw[hci]at kc0;clear hci
  go_wp2_with fail
  go_ret
  exact kK.o _ iL.o HX.o
 ·rw[hci]at kc0
  rcases hd with rfl|rfl
  ·by_cases hlt:x<s.cat j
   ·have HX:=qh (show eP s 1 x j=false by simp[eP,hlt])
    clear hci
    go_wp2_with fail
    go_ret
    exact kK.o _ iL.o HX.o
   ·have HX:=qh (show eP s 1 x j=true by simp[eP,hlt,hci])
    have HM:=qh ((HHX.o.setAt hj x).setAt hj (x+1));have HE:=qh (show({s with cat:=fun q=>if q=j then x+1 else(if q=j then x else s.cat q)}:aI)=bM s 1 x j by
     unfold bM
     congr 1
     funext q
     by_cases h:q=j
     ·rw[if_pos h,if_pos h,if_pos rfl]
     ·rw[if_neg h,if_neg h,if_neg h])
    have aO:=qh (show eZ tg a.gc from by unfold eZ;rw[HH.o.tc];omega);have ahv:=(World.cell?_setCell_other w1 ⟨a.gc,j*2+1,none⟩ ⟨bo,o+1,none⟩ (.int .i64 x) (by intro e;injection e with e1 e2;have:=HH.o.tc;rw[e1,bK]at this;omega)).trans KL;clear hci
    go_wp2_with fail
    go_ret
    refine⟨by rw[HX.o];rfl,(iL.o.set aO.o _).set aO.o _,fun _=>⟨tg,a,rfl,?_,(iL.o.set aO.o _).set aO.o _,fun _ h=>.inl h⟩⟩;rw[←HE.o];exact HM.o
  ·by_cases hlt:s.cat j<x+1
   ·have HX:=qh (show eP s (-1) x j=false by simp[eP,hlt])
    clear hci
    go_wp2_with fail
    go_ret
    exact kK.o _ iL.o HX.o
   ·have HX:=qh (show eP s (-1) x j=true by simp[eP,hlt,hci])
    have HM:=qh (HHX.o.setAt hj x);have HE:=qh (show({s with cat:=fun q=>if q=j then x else s.cat q}:aI)=bM s (-1) x j by
     unfold bM
     congr 1)
    have aO:=qh (show eZ tg a.gc from by unfold eZ;rw[HH.o.tc];omega);have ahv:=(World.cell?_setCell_other w1 ⟨a.gc,j*2+1,none⟩ ⟨bo,o+1,none⟩ (.int .i64 x) (by intro e;injection e with e1 e2;have:=HH.o.tc;rw[e1,bK]at this;omega)).trans KL;clear hci
    go_wp2_with fail
    go_ret
    refine⟨by rw[HX.o];rfl,iL.o.set aO.o _,fun _=>⟨tg,a,rfl,?_,iL.o.set aO.o _,fun _ h=>.inl h⟩⟩;rw[←HE.o];exact HM.o
end
end Go.Proofs.YtdnmhhohcedjbaaGreat
