/- Walks and plain lemmas. -/
import Derived.Test.YtmnbgjnipbpiaaaGreatP25
set_option linter.unusedVariables false
set_option linter.unusedSimpArgs false
set_option maxRecDepth 20000
namespace Go.Proofs.YtmnbgjnipbpiaaaGreat
open Go.RowKit
end Go.Proofs.YtmnbgjnipbpiaaaGreat
