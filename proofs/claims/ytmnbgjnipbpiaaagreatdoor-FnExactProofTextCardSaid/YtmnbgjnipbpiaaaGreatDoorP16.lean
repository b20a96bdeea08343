/- Walks and plain lemmas. -/
import Derived.Test.YtmnbgjnipbpiaaaGreatDoorP15
set_option linter.unusedVariables false
set_option linter.unusedSimpArgs false
set_option maxRecDepth 20000
namespace Go.Proofs.YtmnbgjnipbpiaaaGreatDoor
open Go.RowKit
theorem cE.mono {B C:Nat}{v:Value}{Ls:List (List Int)}{As:Nat→Option Addr}{cs:Nat→Nat}{w:World}(h:cE C v Ls As cs w)(hb:B≤C):cE B v Ls As cs w:=⟨gK h.own hb,h.rd,h.far⟩
structure oW {n:Nat}(w:World)(A:OA)(L:List (G.PM n))(As:Nat→OA)(cs:Nat→Nat):Prop where
 cell:Rd w A L.length (fun j=>.slice (As j) n (cs j))
 rd:∀j p,L[j]?=some p→aW w (As j) (G.pl p)
section
variable {n:Nat}{w w':World}{A:Option Addr}{L:List (G.PM n)}{As:Nat→Option Addr}{cs:Nat→Nat}{B:Nat}{v:Value}
theorem oW.below (h:oW w A L As cs)(hb:Below w.heap.size w w'):oW w' A L As cs:=⟨h.cell.below hb,fun j p hp=>(h.rd j p hp).below hb⟩
theorem oW.at (h:oW w A L As cs){j:Nat}(hj:j<L.length):∃g o p,A=some ⟨g,o,none⟩∧g<w.heap.size∧L[j]?=some p∧w.cell? ⟨g,o+j,none⟩=some (.slice (As j) n (cs j))∧aW w (As j) (G.pl p):=by
 obtain⟨g,o,e,hg,hr⟩:=h.cell qo;exact⟨g,o,L[j],e,hg,List.getElem?_eq_getElem hj,hr j hj,h.rd j _ (List.getElem?_eq_getElem hj)⟩
def Up (C n N:Nat)(As:Nat→OA):Prop:=∀j,j<N→∀b,Fb (As j) n b→C≤b
theorem Up.put {C N:Nat}(h:Up C n N As)(hA:∀b,Fb A n b→C≤b)(i:Nat):Up C n N (fun j=>if j=i then A else As j):=fun j hj b hb=>by
 by_cases e:j=i
 ·simp only[if_pos e]at hb
  exact hA b hb
 ·simp only[if_neg e]at hb
  exact h j hj b hb
theorem Up.mono {C D N:Nat}(h:Up C n N As)(hD:D≤C):Up D n N As:=fun j hj b hb=>Nat.le_trans hD (h j hj b hb)
end
end Go.Proofs.YtmnbgjnipbpiaaaGreatDoor
