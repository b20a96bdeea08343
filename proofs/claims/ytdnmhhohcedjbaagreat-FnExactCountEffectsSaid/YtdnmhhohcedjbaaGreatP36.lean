/- Walks and plain lemmas. -/
import Derived.Test.YtdnmhhohcedjbaaGreatP35
set_option linter.unusedVariables false
set_option linter.unusedSimpArgs false
set_option maxRecDepth 20000
namespace Go.Proofs.YtdnmhhohcedjbaaGreat
open Go.RowKit
def Yv (W:Int)(z:Nat→Int)(n:Nat):List Int:=if codeOf W z n=0 then fL z n else []
def xq (W:Int)(z:Nat→Int)(n:Nat):Nat:=(Yv W z n).length/2
abbrev Am (w:World)(W:Int)(z:Nat→Int)(n:Nat):Ending→World→Prop:=q7 w (xq W z n) (xq W z n*2) (fun j=>.int .i64 ((Yv W z n).getD j 0)) (codeOf W z n)
theorem Am.ok {w w':World}{W:Int}{z:Nat→Int}{n m c:Nat}{A:Option Addr}{L:List Int}{e:Ending}(hc:codeOf W z n=0)(hL:L=fL z n)(hl:L.length=2*m)(he:e=.returned (.tuple #[.slice A m c,.int .i64 0]))(ho:w'.ownsRow w.heap.size 30 2 (.slice A m c) m (ints L))(hb:Below w.heap.size w w'):Am w W z n e w':=by
 subst hL;have hf:Yv W z n=fL z n:=if_pos hc;have hn:xq W z n=m:=by unfold xq;rw[hf];omega
 unfold Am;rw[hn,hc,hf];obtain⟨A',c',e',hp⟩:=New.kM hb ho;injection e' with e1 e2 e3;subst e1 e3;exact⟨A,c,he,hp.congr fun j hj=>by simp[ints,List.getD,List.getElem?_eq_getElem (show j<(fL z n).length by omega)]⟩
theorem Am.no {w w':World}{W:Int}{z:Nat→Int}{n:Nat}{e:Ending}{cd:Int}(hc:codeOf W z n=cd)(h0:cd≠0)(he:e=.returned (.tuple #[.slice none 0 0,.int .i64 cd]))(hb:Below w.heap.size w w'):Am w W z n e w':=by
 have hf:Yv W z n=[]:=if_neg (by rw[hc];exact h0);have hn:xq W z n=0:=by unfold xq;rw[hf];rfl
 unfold Am;rw[hn,hc];exact⟨none,0,he,New.none_ hb _⟩
section
variable (W:Int)(A:OA)(n q:Nat)(z:Nat→Int)(w:World)
end
end Go.Proofs.YtdnmhhohcedjbaaGreat
