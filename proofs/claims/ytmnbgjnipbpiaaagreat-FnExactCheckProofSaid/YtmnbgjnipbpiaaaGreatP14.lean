/- Walks and plain lemmas. -/
import Derived.Test.YtmnbgjnipbpiaaaGreatP13
set_option linter.unusedVariables false
set_option linter.unusedSimpArgs false
set_option maxRecDepth 20000
namespace Go.Proofs.YtmnbgjnipbpiaaaGreat
open Go.RowKit
theorem oD:(Tryz.prog.info? 74).map (fun i=>(i.zero,i.size,i.bytes))=some (some (.slice none 0 0),1,24):=by kernel_rfl
theorem aT.mono {B C:Nat}{v:Value}{Ls:List (List Int)}{As:Nat→Option Addr}{cs:Nat→Nat}{w:World}(h:aT C v Ls As cs w)(hb:B≤C):aT B v Ls As cs w:=⟨eK h.own hb,h.rd,h.far⟩
structure oU {n:Nat}(w:World)(A:OA)(L:List (G.PM n))(As:Nat→OA)(cs:Nat→Nat):Prop where
 cell:Rd w A L.length (fun j=>.slice (As j) n (cs j))
 rd:∀j p,L[j]?=some p→aG w (As j) (G.pl p)
section
variable {n:Nat}{w w':World}{A:Option Addr}{L:List (G.PM n)}{As:Nat→Option Addr}{cs:Nat→Nat}{B:Nat}{v:Value}
theorem oU.below (h:oU w A L As cs)(hb:Below w.heap.size w w'):oU w' A L As cs:=⟨h.cell.below hb,fun j p hp=>(h.rd j p hp).below hb⟩
theorem oU.at (h:oU w A L As cs){j:Nat}(hj:j<L.length):∃g o p,A=some ⟨g,o,none⟩∧g<w.heap.size∧L[j]?=some p∧w.cell? ⟨g,o+j,none⟩=some (.slice (As j) n (cs j))∧aG w (As j) (G.pl p):=by
 obtain⟨g,o,e,hg,hr⟩:=h.cell qo;exact⟨g,o,L[j],e,hg,List.getElem?_eq_getElem hj,hr j hj,h.rd j _ (List.getElem?_eq_getElem hj)⟩
theorem gH {j:Nat}{p:G.PM n}(h:L[j]?=some p):(L.map G.pl).getD j []=G.pl p:=by simp[List.getD,h]
theorem pI {j:Nat}(h:j<L.length):((L.map G.pl).getD j []).length=n:=by rw[gH (List.getElem?_eq_getElem h),G.a6]
theorem aT.F3 {c:Nat}(h:aT B (.slice A L.length c) (L.map G.pl) As cs w):oU w A L As cs:=by
 refine⟨fun h0=>?_,fun j p hp=>?_⟩
 ·obtain⟨g,cap,e,hg,_⟩:=h.form (by rw[List.length_map];exact h0)
  injection e with e1 _ e2;subst e1 e2;refine⟨g,0,rfl,hg,fun j hj=>?_⟩;have h':aT B (.slice (some ⟨g,0,none⟩) (L.map G.pl).length c) (L.map G.pl) As cs w:=by rw[List.length_map];exact h
  have h1:=h'.cell (j:=j) (by rw[List.length_map];exact hj);rw[pI hj]at h1;rw[Nat.zero_add];exact h1
 ·have hj:j<L.length:=(List.getElem?_eq_some_iff.1 hp).1
  have:=h.rd j (by rw[List.length_map];exact hj);rwa[gH hp]at this
def Up (C n N:Nat)(As:Nat→OA):Prop:=∀j,j<N→∀b,Fb (As j) n b→C≤b
theorem Up.put {C N:Nat}(h:Up C n N As)(hA:∀b,Fb A n b→C≤b)(i:Nat):Up C n N (fun j=>if j=i then A else As j):=fun j hj b hb=>by
 by_cases e:j=i
 ·simp only[if_pos e]at hb
  exact hA b hb
 ·simp only[if_neg e]at hb
  exact h j hj b hb
theorem Up.snoc {C N M:Nat}(h:Up C n N As)(hA:∀b,Fb A n b→C≤b)(hM:M=N):Up C n (N+1) (fun j=>if j=M then A else As j):=fun j hj b hb=>by
 by_cases e:j=M
 ·simp only[if_pos e]at hb
  exact hA b hb
 ·simp only[if_neg e]at hb
  exact h j qo b hb
theorem Up.mono {C D N:Nat}(h:Up C n N As)(hD:D≤C):Up D n N As:=fun j hj b hb=>Nat.le_trans hD (h j hj b hb)
def KI (w:World)(M:List (G.PM n))(e:Ending)(w':World):Prop:=∃v As cs,e=.returned v∧aT w.heap.size v (M.map G.pl) As cs w'∧Up w.heap.size n M.length As∧Below w.heap.size w w'
end
theorem pL {n:Nat}(L:List (G.PM n))(A:OA)(c:Nat)(As:Nat→OA)(cs:Nat→Nat)(w:World)(h:oU w A L As cs)(hn:n≤1000)(hl:L.length≤1000000):
 Calls Tryz.prog 65 #[.slice A L.length c] w (KI w (L.map G.PM.flip)):=by
 obtain⟨i0,hi,iz,is,ib⟩:=info_parts oD;have HO:=qh (World.ownsRow_made (e:=74) (size:=1) w #[] 0 ql qm rfl);have HB:=qh ((Below.refl w.heap.size w).alloc ql (.cells #[] 74));have HR:=qh h;clear h
 go_enter Tryz.func65,Tryz.ntmps65
 go_wp2_with fail
 go_loopw [3,4] (fun v x wr=>∃(k:Nat) (Bs:Nat→OA) (ds:Nat→Nat),k≤L.length∧x=.int .i64 k∧Hq (aT w.heap.size v (((L.take k).map G.PM.flip).map G.pl) Bs ds wr)∧Hq (Up w.heap.size n k Bs)∧Hq (Below w.heap.size w wr)) (fun _ x _=>L.length-(intOf x).toNat)
 case atStart=>exact⟨0,fun _=>none,fun _=>0,Nat.zero_le _,rfl,qh (aT.nil HO.o _ _),qh (fun j hj=>absurd hj (Nat.not_lt_zero j)),HB⟩
 case round=>
  obtain⟨k,Bs,ds,hk,rfl,HL,HU,HB2⟩:=hrel
  by_cases hlt:k<L.length
  ·obtain⟨g,o,p,rfl,hg,hp,hc0,hrd⟩:=HR.o.at hlt
   have hc:=a7 HB2.o hg hc0;have fM:=qh (show aG wr (As k) (G.pl p)from(aB _ _ _).1 _ _ hrd fun b hb=>HB2.o.block b ((aB _ _ _).2 w b hrd hb));have aL:=qh (show((L.take (k+1)).map G.PM.flip).map G.pl=((L.take k).map G.PM.flip).map G.pl++[G.pl p.flip]by
    rw[List.take_add_one,hp]
    simp)
   have oZ:=qh (show(((L.take k).map G.PM.flip).map G.pl).length=k by simp;omega);obtain⟨Ls,jI⟩:∃Ls,Ls=((L.take k).map G.PM.flip).map G.pl:=⟨_,rfl⟩;rw[←jI]at HL aL oZ;have hlk:=oZ.o;have b1:(0:Int)≤(k:Int):=qo;have b2:(k:Int)<(L.length:Int):=qo;clear jI hc0 hrd
   go_wp2_with fail
   refine(wZ p (As k) (cs k) _ fM.o hn).mono ?_;rintro e w2 h2;obtain⟨A2,c2,rfl,ho2,hr2,hb2⟩:=h2.rd;have HR2:=qh hr2;have a9:=qh ho2;have HL2:=qh (HL.o.below hb2);have HB3:=HB2.st hb2;clear h2 hr2 hb2 ho2;rw[G.a6]
   go_wp2_with (at_builtin;go_must (refine eJ w2 rfl (.tmp 12) (.tmp 18) _ rfl w.heap.size 74 i0 _ 1 24 Tryz.underlying65 hi iz is ib rfl qo u3 Ls.length _ rfl HL2.o.own _ 1 1 _ rfl rfl (by simp[Value.oneCell']) qm qo HB3.o.size ?_);intro v' w' hown' hf' hat';have HOWN':=qh hown';have bL:=qh hf';have dT:=qh hat';clear hown' hf' hat')
   have dK:=qh (HL2.o.snoc HR2.o (c:=c2) (fun b hb he=>by
    have h1:=fA a9.o hb;have h2:=(HL.o.own.lt b he).2;omega) (by rw[G.a6];exact HOWN'.o) bL.o dT.o)
   have PF:=qh (show∀b,Fb A2 n b→w.heap.size≤b from fun b hb=>by
    rw[←G.a6 (p:=p.flip)]at hb;have h1:=fA a9.o hb;have h2:=HB2.o.size;omega)
   have wD:=qh (HB3.o.trans (bL.o.own HL2.o.own HB3.o.size))
   go_wp2_with fail
   go_roundw
   case rel=>exact⟨k+1,_,_,by omega,qg,qh (by rw[aL.o];exact dK.o),qh (HU.o.snoc PF.o oZ.o),wD⟩
   case measure=>exact qs
  ·obtain rfl:L.length=k:=qo
   go_wp2
   go_ret
   refine⟨_,Bs,ds,rfl,?_,by rw[List.length_map];exact HU.o,HB2.o⟩;have:=HL.o;rwa[List.take_length]at this
end Go.Proofs.YtmnbgjnipbpiaaaGreat
