/- Walks and plain lemmas. -/
import Derived.Test.YtdnmhhohcedjbaaGreatQ43
set_option linter.unusedVariables false
set_option linter.unusedSimpArgs false
set_option maxRecDepth 20000
namespace Go.Proofs.YtdnmhhohcedjbaaGreat
open Go.RowKit
noncomputable def hfs (W:Nat)(z:Nat→Int)(n:Nat)(own:List aV):Nat→List Int
 |0=>[]
 |k+1=>if l3 W z n own k=0 then hfs W z n own k++[fF z n k,(fX z n k:Int)]else hfs W z n own k
theorem aa1 (W:Nat)(z:Nat→Int)(n:Nat)(own:List aV)(k:Nat):∃m,(hfs W z n own k).length=2*m∧m≤k:=by
 induction k with
 |zero=>exact⟨0,rfl,Nat.le_refl _⟩
 |succ k ih=>
  obtain⟨m,h1,h2⟩:=ih;unfold hfs
  split
  ·exact⟨m+1,by rw[List.length_append,h1];rfl,by omega⟩
  ·exact⟨m,h1,by omega⟩
theorem NR {w w':World}{t:TypeId}{S m c N:Nat}{A:Option Addr}{L L':List Int}{C:Int}{e:Ending}(hL:L'=L)(hN:N=m)(hC:C=0)(he:e=.returned (.tuple #[.slice A m c,.int .i64 0]))(ho:w'.ownsRow w.heap.size t S (.slice A m c) m (ints L))(hb:Below w.heap.size w w'):q7 w N (N*S) (fun j=>.int .i64 (L'.getD j 0)) C e w':=by
 subst hL hN hC;obtain⟨A',c',e',hp⟩:=New.aaK hb ho;injection e' with e1 e2 e3;subst e1 e3;exact⟨A,c,he,hp⟩
theorem NS {w w':World}{S N:Nat}{L':List Int}{C cd:Int}{e:Ending}(hN:N=0)(hC:C=cd)(he:e=.returned (.tuple #[.slice none 0 0,.int .i64 cd]))(hb:Below w.heap.size w w'):q7 w N (N*S) (fun j=>.int .i64 (L'.getD j 0)) C e w':=by
 subst hN hC;rw[Nat.zero_mul];exact⟨none,0,he,New.none_ hb _⟩
section
variable (W:Int)(A:OA)(n q:Nat)(z:Nat→Int)(w:World)
end
end Go.Proofs.YtdnmhhohcedjbaaGreat
