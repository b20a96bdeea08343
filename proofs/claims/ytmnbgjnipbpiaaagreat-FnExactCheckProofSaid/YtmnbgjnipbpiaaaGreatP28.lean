/- Walks and plain lemmas. -/
import Derived.Test.YtmnbgjnipbpiaaaGreatP27
set_option linter.unusedVariables false
set_option linter.unusedSimpArgs false
set_option maxRecDepth 20000
namespace Go.Proofs.YtmnbgjnipbpiaaaGreat
open Go.RowKit
theorem mQ {z:Nat→Int}{n:Nat}(h:(dY z n).isSome=true):n≤2000∧(cnt z 0 n).isSome=true:=by
 unfold dY at h
 split at h
 ·exact⟨‹_›,h⟩
 ·cases h
def K6 (w:World)(v:Value)(o:List aF):Prop:=CG w v o∧∀b∈o,p9 b
theorem K6.below {w w':World}{v:Value}{o:List aF}(h:K6 w v o)(hb:Below w.heap.size w w'):K6 w' v o:=⟨h.1.below hb,h.2⟩
end Go.Proofs.YtmnbgjnipbpiaaaGreat
