/- Walks and plain lemmas. -/
import Derived.Test.YtdnmhhohcedjbaaGreatP43
set_option linter.unusedVariables false
set_option linter.unusedSimpArgs false
set_option maxHeartbeats 2000000
set_option maxRecDepth 20000
namespace Go.Proofs.YtdnmhhohcedjbaaGreat
open Go.RowKit
noncomputable def hfs (W:Nat)(z:Nat→Int)(n:Nat)(own:List aV):Nat→List Int
 |0=>[]
 |k+1=>if l3 W z n own k=0 then hfs W z n own k++[fF z n k,(fX z n k:Int)]else hfs W z n own k
noncomputable def SU (W:Int)(z:Nat→Int)(n:Nat):List Int:=if l6 W z n=0 then hfs W.toNat z n (ownB W z n) (kI z n)else []
noncomputable def KN (W:Int)(z:Nat→Int)(n:Nat):Nat:=(SU W z n).length/2
theorem aa1 (W:Nat)(z:Nat→Int)(n:Nat)(own:List aV)(k:Nat):∃m,(hfs W z n own k).length=2*m∧m≤k:=by
 induction k with
 |zero=>exact⟨0,rfl,Nat.le_refl _⟩
 |succ k ih=>
  obtain⟨m,h1,h2⟩:=ih;unfold hfs
  split
  ·exact⟨m+1,by rw[List.length_append,h1];rfl,by omega⟩
  ·exact⟨m,h1,by omega⟩
theorem MY {W:Int}{z:Nat→Int}{n:Nat}(h:l6 W z n=0):n≤1500:=by
 unfold l6 at h
 split at h
 ·rename_i hc
  obtain⟨_,_,_,_,h15,_⟩:=wR hc;exact h15
 ·exact absurd h ‹_›
theorem ac9 (W:Int)(z:Nat→Int)(n:Nat):KN W z n≤6000:=by
 unfold KN SU
 split
 ·rename_i h
  obtain⟨m,h1,h2⟩:=aa1 W.toNat z n (ownB W z n) (kI z n);have:=IL (z:=z) (MY h);omega
 ·simp
noncomputable def l5 (W:Nat)(z:Nat→Int)(n:Nat)(own:List aV)(x:Int):Nat→Nat
 |0=>0
 |k+1=>l5 W z n own x k+(if l3 W z n own k=x then 1 else 0)
theorem DW (W:Nat)(z:Nat→Int)(n:Nat)(own:List aV)(x:Int)(k:Nat):l5 W z n own x k≤k:=by
 induction k with
 |zero=>exact Nat.le_refl _
 |succ k ih=>
  unfold l5
  split<;>omega
noncomputable def CA (W:Nat)(z:Nat→Int)(n:Nat)(own:List aV)(k:Nat):List Int:=[(l5 W z n own 0 k:Int),(l5 W z n own 1 k:Int),(l5 W z n own 2 k:Int)]
noncomputable def TA (W:Int)(z:Nat→Int)(n:Nat):List Int:=if l6 W z n=0 then CA W.toNat z n (ownB W z n) (kI z n)else []
noncomputable def KW (W:Int)(z:Nat→Int)(n:Nat):Nat:=(TA W z n).length
theorem adG (W:Int)(z:Nat→Int)(n:Nat):KW W z n≤3:=by
 unfold KW TA
 split
 ·exact Nat.le_refl _
 ·exact Nat.zero_le _
abbrev HfP (w:World)(W:Int)(z:Nat→Int)(n:Nat):Ending→World→Prop:=q7 w (KN W z n) (KN W z n*2) (fun j=>.int .i64 ((SU W z n).getD j 0)) (l6 W z n)
abbrev CeP (w:World)(W:Int)(z:Nat→Int)(n:Nat):Ending→World→Prop:=q7 w (KW W z n) (KW W z n*1) (fun j=>.int .i64 ((TA W z n).getD j 0)) (l6 W z n)
theorem NR {w w':World}{t:TypeId}{S m c N:Nat}{A:Option Addr}{L L':List Int}{C:Int}{e:Ending}(hL:L'=L)(hN:N=m)(hC:C=0)(he:e=.returned (.tuple #[.slice A m c,.int .i64 0]))(ho:w'.ownsRow w.heap.size t S (.slice A m c) m (ints L))(hb:Below w.heap.size w w'):q7 w N (N*S) (fun j=>.int .i64 (L'.getD j 0)) C e w':=by
 subst hL hN hC;obtain⟨A',c',e',hp⟩:=New.aaK hb ho;injection e' with e1 e2 e3;subst e1 e3;exact⟨A,c,he,hp⟩
theorem NS {w w':World}{S N:Nat}{L':List Int}{C cd:Int}{e:Ending}(hN:N=0)(hC:C=cd)(he:e=.returned (.tuple #[.slice none 0 0,.int .i64 cd]))(hb:Below w.heap.size w w'):q7 w N (N*S) (fun j=>.int .i64 (L'.getD j 0)) C e w':=by
 subst hN hC;rw[Nat.zero_mul];exact⟨none,0,he,New.none_ hb _⟩
section
variable (W:Int)(A:OA)(n q:Nat)(z:Nat→Int)(w:World)
theorem CQ (ha:Rd w A (n*8) (fun j=>.int .i64 (z j)))(hn:n≤1048576):Calls Tryz.prog 19 #[.int .i64 W,.slice A n q] w (HfP w W z n):=by
 obtain⟨i0,hi,iz,is,ib⟩:=info_parts OD;have iX:=qh (NZ W A n q z w ha hn);clear ha
 by_cases hc:l6 W z n=0
 ·have HC:=qh hc
  have HL:=qh (show SU W z n=hfs W.toNat z n (ownB W z n) (kI z n)from if_pos hc);have hfm:=IL (z:=z) (MY hc);clear hc;obtain⟨m,hm⟩:=qx (kI z n);have HM:=qh hm;obtain⟨own,hown⟩:=qx (ownB W z n);have HOW:=qh hown;rw[←hm]at hfm;clear hm hown
  go_enter Tryz.func19,Tryz.ntmps19
  go_wp2_with fail
  refine iX.o.mono ?_;rintro e w1 ⟨hb1,h⟩;have h2:=h.resolve_left fun h=>h.1 HC.o;obtain⟨_,_,A1,c1,A2,c2,he,r1,r2⟩:=h2;rw[←HM.o]at he;rw[←HM.o]at r1;rw[←HM.o,←HOW.o]at r2;subst he;have HB1:=qh hb1;have R1:=qh r1;have R2:=qh r2;have H0:Hq ((w1.alloc (.cells #[] 30)).ownsRow w1.heap.size 30 2 (.slice (some ⟨w1.heap.size,0,none⟩) 0 0) 0 (ints (hfs W.toNat z n own 0))):=qh (oA w1 [] 0 ql (Nat.zero_le _) rfl);clear h hb1 r1 r2 iX
  go_wp2_with fail
  go_loopw [9,10] (fun ov x wr=>∃(k m':Nat) (L:List Int),k≤m∧x=.int .i64 k∧L=hfs W.toNat z n own k∧L.length=2*m'∧m'≤k∧wr.ownsRow w1.heap.size 30 2 ov m' (ints L)∧Below w1.heap.size w1 wr) (fun _ x _=>m-(intOf x).toNat)
  case atStart=>exact⟨0,0,_,Nat.zero_le _,rfl,rfl,rfl,Nat.le_refl _,H0.o,qb⟩
  case round=>
   clear H0;obtain⟨k,m',L,hkm,rfl,hL,hl,hmk,ho,hb⟩:=hrel;have Zv:=qh hL;have lA:=qh hl;have HOWN:=qh ho;have cS:=qh hb;obtain⟨A7,c7,rfl⟩:=aF HOWN.o;clear hL hl ho hb
   by_cases hlt:k<m
   ·obtain⟨hx1,_,_⟩:=En (z:=z) (n:=n) (k:=k) (by rw[←HM.o];exact hlt)
    obtain⟨ge,oe,rfl,hge,hre⟩:=R2.out qo;obtain⟨gf,of,rfl,hgf,hrf⟩:=R1.out qo;have m0:wr.cell? ⟨gf,of+k*2,none⟩=some (.int .i64 (fF z n k)):=aD cS.o hgf (hrf (k*2) qo);have m1:wr.cell? ⟨gf,of+k*2+1,none⟩=some (.int .i64 (fX z n k)):=by
     have h:=aD cS.o hgf (hrf (k*2+1) qo)
     simp only[←Nat.add_assoc]at h
     rw[h,hx1]
    have m2:wr.cell? ⟨ge,oe+k,none⟩=some (.int .i64 (l3 W.toNat z n own k)):=(aD cS.o hge (hre k qo)).trans (congrArg (fun x=>some (Value.int .i64 x)) (XO _ _ _ _ _ hlt));obtain⟨ff,pE⟩:=qx (fF z n k);obtain⟨fx,hfx⟩:=qx (fX z n k);obtain⟨ef,hef⟩:=qx (l3 W.toNat z n own k);have HQ:=qh (show hfs W.toNat z n own (k+1)=if ef=0 then hfs W.toNat z n own k++[ff,(fx:Int)]else hfs W.toNat z n own k from by rw[pE,hfx,hef];rfl);rw[←pE]at m0;rw[←hfx]at m1;rw[←hef]at m2;have b0:(k:Int)<(m:Int):=qo;have b1:(0:Int)≤(k:Int):=qo;clear hre hrf hge hgf hx1 pE hfx hef
    by_cases h0:ef=0
    ·rw[if_pos h0,←Zv.o]at HQ
     have h0b:(ef==0)=true:=by rw[h0];rfl
     clear h0
     go_wp2_with (at_builtin;go_must (refine bV _ rfl (.tmp 33) (.tmp 38) _ rfl w1.heap.size 30 i0 _ 2 16 Tryz.underlying41 hi iz is ib rfl qo (.slice A7 m' c7) m' _ (by rfl) HOWN.o _ 1 1 (ints [ff,(fx:Int)]) rfl rfl (iP _) qm qo cS.o.size ?_);intro v' w' hown' hb';rw[←aT]at hown';have f9:=qh hown';have HB2:=qh (cS.o.trans hb');clear hown' hb')
     go_wp2_with fail
     go_roundw
     case rel=>exact⟨k+1,m'+1,_,by omega,qg,HQ.o.symm,by have:=lA.o;simp;omega,by omega,f9.o,HB2.o⟩
     case measure=>exact qs
    ·rw[if_neg h0,←Zv.o]at HQ
     have h0b:(ef==0)=false:=by rw[beq_eq_false_iff_ne];exact h0
     clear h0
     go_wp2_with fail
     go_roundw
     case rel=>exact⟨k+1,m',_,by omega,qg,HQ.o.symm,lA.o,by omega,HOWN.o,cS.o⟩
     case measure=>exact qs
   ·obtain rfl:k=m:=qo
    have b0:¬(k:Int)<(k:Int):=qo
    go_wp2_with fail
    go_ret2
    exact NR (L:=L) (HL.o.trans (by rw[Zv.o,←HOW.o,←HM.o])) (by unfold KN;rw[HL.o,←HOW.o,←HM.o,←Zv.o,lA.o];omega) HC.o rfl (eF HOWN.o HB1.o.size) (HB1.o.trans (cS.o.mono HB1.o.size))
 ·obtain⟨cd,hcd⟩:=qx (l6 W z n)
  have HC:=qh hcd.symm;have HN:=qh (show KN W z n=0 from by unfold KN SU;rw[if_neg hc];rfl);have jH:=qh hc;rw[←hcd]at hc;have hc1:(cd==0)=false:=by simpa using hc
  clear hc hcd
  go_enter Tryz.func19,Tryz.ntmps19
  go_wp2_with fail
  refine iX.o.mono ?_;rintro e w1 ⟨hb1,h⟩;have h2:=(h.resolve_right fun h=>jH.o h.1).2;rw[HC.o]at h2;subst h2;have HB1:=qh hb1;clear h hb1 iX
  go_wp2_with fail
  go_ret2
  exact NS HN.o HC.o rfl HB1.o
theorem EI (ha:Rd w A (n*8) (fun j=>.int .i64 (z j)))(hn:n≤1048576):Calls Tryz.prog 13 #[.int .i64 W,.slice A n q] w (CeP w W z n):=by
 obtain⟨cs,hcs,hcv,hmk⟩:=wJ 3 qo;have ahF:∀w:World,(Instr.makeSlice 34 (.int .i64 3) (.int .i64 3)).run Tryz.prog w=.ok (.slice (some ⟨w.heap.size,0,none⟩) 3 3) (w.alloc (.cells cs 2)):=hmk;have iX:=qh (NZ W A n q z w ha hn);clear ha hmk
 by_cases hc:l6 W z n=0
 ·have HC:=qh hc
  have HL:=qh (show TA W z n=CA W.toNat z n (ownB W z n) (kI z n)from if_pos hc);have hfm:=IL (z:=z) (MY hc);clear hc;obtain⟨m,hm⟩:=qx (kI z n);have HM:=qh hm;obtain⟨own,hown⟩:=qx (ownB W z n);have HOW:=qh hown;rw[←hm]at hfm;clear hm hown
  go_enter Tryz.func13,Tryz.ntmps13
  go_wp2_with fail
  refine iX.o.mono ?_;rintro e w1 ⟨hb1,h⟩;have h2:=h.resolve_left fun h=>h.1 HC.o;obtain⟨_,_,A1,c1,A2,c2,he,r1,r2⟩:=h2;rw[←HM.o]at he;rw[←HM.o,←HOW.o]at r2;subst he;have HB1:=qh hb1;have R2:=qh r2;have H0:Hq ((w1.alloc (.cells cs 2)).ownsRow w1.heap.size 2 1 (.slice (some ⟨w1.heap.size,0,none⟩) 3 3) 3 (ints (CA W.toNat z n own 0))):=qh (p8 w1 cs 3 qo hcs hcv);clear h hb1 r1 r2 iX hcs hcv
  go_wp2_with fail
  go_loopw [10] (fun x wr=>∃k:Nat,k≤m∧x=.int .i64 k∧wr.ownsRow w1.heap.size 2 1 (.slice (some ⟨w1.heap.size,0,none⟩) 3 3) 3 (ints (CA W.toNat z n own k))∧Below w1.heap.size w1 wr) (fun x _=>m-(intOf x).toNat)
  case atStart=>exact⟨0,Nat.zero_le _,rfl,H0.o,qb⟩
  case round=>
   clear H0;obtain⟨k,hkm,rfl,ho,hb⟩:=hrel;have HOWN:=qh ho;have cS:=qh hb;clear ho hb
   by_cases hlt:k<m
   ·obtain⟨ge,oe,rfl,hge,hre⟩:=R2.out qo
    have m2:wr.cell? ⟨ge,oe+k,none⟩=some (.int .i64 (l3 W.toNat z n own k)):=(aD cS.o hge (hre k qo)).trans (congrArg (fun x=>some (Value.int .i64 x)) (XO _ _ _ _ _ hlt));have h012:=xg W.toNat z n own k;have l0:=DW W.toNat z n own 0 k;have l1:=DW W.toNat z n own 1 k;have l2:=DW W.toNat z n own 2 k;have HQ:=qh (show CA W.toNat z n own (k+1)=[((l5 W.toNat z n own 0 k+(if l3 W.toNat z n own k=0 then 1 else 0):Nat):Int),((l5 W.toNat z n own 1 k+(if l3 W.toNat z n own k=1 then 1 else 0):Nat):Int),((l5 W.toNat z n own 2 k+(if l3 W.toNat z n own k=2 then 1 else 0):Nat):Int)]from rfl);have n0:wr.cell? ⟨w1.heap.size,0,none⟩=some (.int .i64 (l5 W.toNat z n own 0 k)):=HOWN.o.cellAt 0 qo;have n1:wr.cell? ⟨w1.heap.size,1,none⟩=some (.int .i64 (l5 W.toNat z n own 1 k)):=HOWN.o.cellAt 1 qo;have n2:wr.cell? ⟨w1.heap.size,2,none⟩=some (.int .i64 (l5 W.toNat z n own 2 k)):=HOWN.o.cellAt 2 qo;have hf:=fun o=>HOWN.o.frozenAt o;have HS:=qh (fun(o:Nat) (u:Value)=>(HOWN.o.stored o u).1);have HE:Hq (ints (CA W.toNat z n own k)=[.int .i64 (l5 W.toNat z n own 0 k),.int .i64 (l5 W.toNat z n own 1 k),.int .i64 (l5 W.toNat z n own 2 k)]):=qh rfl;rw[HE.o]at HS;obtain⟨a0,ha0⟩:=qx (l5 W.toNat z n own 0 k);obtain⟨a1,ha1⟩:=qx (l5 W.toNat z n own 1 k);obtain⟨a2,ha2⟩:=qx (l5 W.toNat z n own 2 k);obtain⟨ef,hef⟩:=qx (l3 W.toNat z n own k);rw[←ha0]at n0 l0;rw[←ha1]at n1 l1;rw[←ha2]at n2 l2;rw[←ha0,←ha1,←ha2]at HS;rw[←ha0,←ha1,←ha2,←hef]at HQ;rw[←hef]at m2 h012;have b0:(k:Int)<(m:Int):=qo;have b1:(0:Int)≤(k:Int):=qo;clear hre hge hef ha0 ha1 ha2 HE
    rcases h012 with rfl|rfl|rfl
    ·have bw:IntKind.i64.wrap ((a0:Int)+1)=((a0+1:Nat):Int):=by rw[IntKind.wrap_i64];omega
     go_wp2_with fail
     go_roundw
     case rel=>exact⟨k+1,by omega,qg,by rw[HQ.o];exact HS.o 0 _,cS.o.setCell qj _⟩
     case measure=>exact qs
    ·have bw:IntKind.i64.wrap ((a1:Int)+1)=((a1+1:Nat):Int):=by rw[IntKind.wrap_i64];omega
     go_wp2_with fail
     go_roundw
     case rel=>exact⟨k+1,by omega,qg,by rw[HQ.o];exact HS.o 1 _,cS.o.setCell qj _⟩
     case measure=>exact qs
    ·have bw:IntKind.i64.wrap ((a2:Int)+1)=((a2+1:Nat):Int):=by rw[IntKind.wrap_i64];omega
     go_wp2_with fail
     go_roundw
     case rel=>exact⟨k+1,by omega,qg,by rw[HQ.o];exact HS.o 2 _,cS.o.setCell qj _⟩
     case measure=>exact qs
   ·obtain rfl:k=m:=qo
    have b0:¬(k:Int)<(k:Int):=qo
    go_wp2_with fail
    go_ret2
    exact NR (L:=CA W.toNat z n own k) (HL.o.trans (by rw[←HOW.o,←HM.o])) (by unfold KW;rw[HL.o];rfl) HC.o rfl (eF HOWN.o HB1.o.size) (HB1.o.trans (cS.o.mono HB1.o.size))
 ·obtain⟨cd,hcd⟩:=qx (l6 W z n)
  have HC:=qh hcd.symm;have HN:=qh (show KW W z n=0 from by unfold KW TA;rw[if_neg hc];rfl);have jH:=qh hc;rw[←hcd]at hc;have hc1:(cd==0)=false:=by simpa using hc
  clear hc hcd
  go_enter Tryz.func13,Tryz.ntmps13
  go_wp2_with fail
  refine iX.o.mono ?_;rintro e w1 ⟨hb1,h⟩;have h2:=(h.resolve_right fun h=>jH.o h.1).2;rw[HC.o]at h2;subst h2;have HB1:=qh hb1;clear h hb1 iX
  go_wp2_with fail
  go_ret2
  exact NS HN.o HC.o rfl HB1.o
end
end Go.Proofs.YtdnmhhohcedjbaaGreat
