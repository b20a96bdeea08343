/-
  No cell of these rows narrows 'for every input' (looked for: loops, veiled, ifaces, maps, wideKeys, modest, calm, conditions, laid).
  DERIVED. THE GIVEN ROWS OF THIS SEAT. 9 by the template 'for every input the law returns true; each argument reads behind the call as it read before'; 0 by the template 'total and deterministic' (their statements: YtjegoffdkmbibaaTotals.lean).
  GIVEN WITH THE SEED: the statements are not yours to turn. If you find one false, say at which input.
  Laid BY PROGRAM, IN A SANDBOX (cutbox-rows.mjs): the forced cells as the released guide's own fill.sh prints them over the translation 47b934b95d55d2b1… (all of the seat's roots in one cut). By AI agents, Wed Nov 11 2026. No macro, syntax, notation, axiom, sorry.
-/
import Derived.Test.YtjegoffdkmbibaaChecked
import GoSem.Claim
import GoSem.ClaimJoined
import GoSem.ClaimMapViews
import Derived.JoinedTies
import Derived.KernelRfl
namespace Go.Proofs.Ytjegoffdkmbibaa
/- THE CELL 'sum', in the pinned program and in every row, IS THE sha256 OF THE DUMP (.gsa) THAT YtjegoffdkmbibaaProg.lean LOADS. Nothing in Lean hashes anything: it is a label: what it is worth is what the hold of that sum in a sandbox is worth. -/
noncomputable def Try.pinned : Pinned := { name := "ytjegoffdkmbibaa", sum := "47b934b95d55d2b1734c175321eb3cff5353b2f6cf0dff5af9f4bc4b311150b0", checked := Try.checked }
namespace Rows
def none {H : Type} : Left H := { results := [], args := [] }

/-- 'laws.FnExactTubeTop': WHATEVER THE INPUT: true; the input reads as it did. -/
def fnExactTubeTopSpec : ChangeSpec := { name := "fnExactTubeTop", fn := fun _ => fun
  | [d] => { results := [.lit (.bool true)], args := [d] }
  | _ => none }
def fnExactTubeTopRow : OpenClaim := { program := "ytjegoffdkmbibaa", sum := "47b934b95d55d2b1734c175321eb3cff5353b2f6cf0dff5af9f4bc4b311150b0", func := "loop.example/g00856/laws.FnExactTubeTop", spec := "fnExactTubeTop", unfollowed := true, recurses := true, apart := false }
def FnExactTubeTopSaid : Prop := fnExactTubeTopRow.holds Try.pinned (OpenSpec.ofChange fnExactTubeTopSpec)

/-- ITS FALSE NEIGHBOUR: 'it returns false'. Refute it at one input. -/
def fnExactTubeTopWrong : ChangeSpec := { name := "fnExactTubeTop", fn := fun _ => fun
  | [d] => { results := [.lit (.bool false)], args := [d] }
  | _ => none }
def FnExactTubeTopWrongFalsely : Prop := fnExactTubeTopRow.holds Try.pinned (OpenSpec.ofChange fnExactTubeTopWrong)

/-- 'laws.FnExactTubeRound': WHATEVER THE INPUT: true; the input reads as it did. -/
def fnExactTubeRoundSpec : ChangeSpec := { name := "fnExactTubeRound", fn := fun _ => fun
  | [d] => { results := [.lit (.bool true)], args := [d] }
  | _ => none }
def fnExactTubeRoundRow : OpenClaim := { program := "ytjegoffdkmbibaa", sum := "47b934b95d55d2b1734c175321eb3cff5353b2f6cf0dff5af9f4bc4b311150b0", func := "loop.example/g00856/laws.FnExactTubeRound", spec := "fnExactTubeRound", unfollowed := true, recurses := true, apart := false }
def FnExactTubeRoundSaid : Prop := fnExactTubeRoundRow.holds Try.pinned (OpenSpec.ofChange fnExactTubeRoundSpec)

/-- ITS FALSE NEIGHBOUR: 'it returns false'. Refute it at one input. -/
def fnExactTubeRoundWrong : ChangeSpec := { name := "fnExactTubeRound", fn := fun _ => fun
  | [d] => { results := [.lit (.bool false)], args := [d] }
  | _ => none }
def FnExactTubeRoundWrongFalsely : Prop := fnExactTubeRoundRow.holds Try.pinned (OpenSpec.ofChange fnExactTubeRoundWrong)

/-- 'laws.FnExactTubeCost': WHATEVER THE INPUT: true; the input reads as it did. -/
def fnExactTubeCostSpec : ChangeSpec := { name := "fnExactTubeCost", fn := fun _ => fun
  | [d] => { results := [.lit (.bool true)], args := [d] }
  | _ => none }
def fnExactTubeCostRow : OpenClaim := { program := "ytjegoffdkmbibaa", sum := "47b934b95d55d2b1734c175321eb3cff5353b2f6cf0dff5af9f4bc4b311150b0", func := "loop.example/g00856/laws.FnExactTubeCost", spec := "fnExactTubeCost", unfollowed := true, recurses := true, apart := false }
def FnExactTubeCostSaid : Prop := fnExactTubeCostRow.holds Try.pinned (OpenSpec.ofChange fnExactTubeCostSpec)

/-- ITS FALSE NEIGHBOUR: 'it returns false'. Refute it at one input. -/
def fnExactTubeCostWrong : ChangeSpec := { name := "fnExactTubeCost", fn := fun _ => fun
  | [d] => { results := [.lit (.bool false)], args := [d] }
  | _ => none }
def FnExactTubeCostWrongFalsely : Prop := fnExactTubeCostRow.holds Try.pinned (OpenSpec.ofChange fnExactTubeCostWrong)

/-- 'laws.FnExactTubeCastOn': WHATEVER THE INPUT: true; the input reads as it did. -/
def fnExactTubeCastOnSpec : ChangeSpec := { name := "fnExactTubeCastOn", fn := fun _ => fun
  | [d] => { results := [.lit (.bool true)], args := [d] }
  | _ => none }
def fnExactTubeCastOnRow : OpenClaim := { program := "ytjegoffdkmbibaa", sum := "47b934b95d55d2b1734c175321eb3cff5353b2f6cf0dff5af9f4bc4b311150b0", func := "loop.example/g00856/laws.FnExactTubeCastOn", spec := "fnExactTubeCastOn", unfollowed := true, recurses := true, apart := false }
def FnExactTubeCastOnSaid : Prop := fnExactTubeCastOnRow.holds Try.pinned (OpenSpec.ofChange fnExactTubeCastOnSpec)

/-- ITS FALSE NEIGHBOUR: 'it returns false'. Refute it at one input. -/
def fnExactTubeCastOnWrong : ChangeSpec := { name := "fnExactTubeCastOn", fn := fun _ => fun
  | [d] => { results := [.lit (.bool false)], args := [d] }
  | _ => none }
def FnExactTubeCastOnWrongFalsely : Prop := fnExactTubeCastOnRow.holds Try.pinned (OpenSpec.ofChange fnExactTubeCastOnWrong)

/-- 'laws.FnExactTubeOps': WHATEVER THE INPUT: true; the input reads as it did. -/
def fnExactTubeOpsSpec : ChangeSpec := { name := "fnExactTubeOps", fn := fun _ => fun
  | [d] => { results := [.lit (.bool true)], args := [d] }
  | _ => none }
def fnExactTubeOpsRow : OpenClaim := { program := "ytjegoffdkmbibaa", sum := "47b934b95d55d2b1734c175321eb3cff5353b2f6cf0dff5af9f4bc4b311150b0", func := "loop.example/g00856/laws.FnExactTubeOps", spec := "fnExactTubeOps", unfollowed := true, recurses := true, apart := false }
def FnExactTubeOpsSaid : Prop := fnExactTubeOpsRow.holds Try.pinned (OpenSpec.ofChange fnExactTubeOpsSpec)

/-- ITS FALSE NEIGHBOUR: 'it returns false'. Refute it at one input. -/
def fnExactTubeOpsWrong : ChangeSpec := { name := "fnExactTubeOps", fn := fun _ => fun
  | [d] => { results := [.lit (.bool false)], args := [d] }
  | _ => none }
def FnExactTubeOpsWrongFalsely : Prop := fnExactTubeOpsRow.holds Try.pinned (OpenSpec.ofChange fnExactTubeOpsWrong)

/-- 'laws.FnExactNewStudio': WHATEVER THE INPUT: true; the input reads as it did. -/
def fnExactNewStudioSpec : ChangeSpec := { name := "fnExactNewStudio", fn := fun _ => fun
  | [] => { results := [.lit (.bool true)], args := [] }
  | _ => none }
def fnExactNewStudioRow : OpenClaim := { program := "ytjegoffdkmbibaa", sum := "47b934b95d55d2b1734c175321eb3cff5353b2f6cf0dff5af9f4bc4b311150b0", func := "loop.example/g00856/laws.FnExactNewStudio", spec := "fnExactNewStudio", apart := false }
def FnExactNewStudioSaid : Prop := fnExactNewStudioRow.holds Try.pinned (OpenSpec.ofChange fnExactNewStudioSpec)

/-- ITS FALSE NEIGHBOUR: 'it returns false'. Refute it at one input. -/
def fnExactNewStudioWrong : ChangeSpec := { name := "fnExactNewStudio", fn := fun _ => fun
  | [] => { results := [.lit (.bool false)], args := [] }
  | _ => none }
def FnExactNewStudioWrongFalsely : Prop := fnExactNewStudioRow.holds Try.pinned (OpenSpec.ofChange fnExactNewStudioWrong)

/-- 'laws.FnExactBraidPicture': WHATEVER THE INPUT: true; the input reads as it did. -/
def fnExactBraidPictureSpec : ChangeSpec := { name := "fnExactBraidPicture", fn := fun _ => fun
  | [d] => { results := [.lit (.bool true)], args := [d] }
  | _ => none }
def fnExactBraidPictureRow : OpenClaim := { program := "ytjegoffdkmbibaa", sum := "47b934b95d55d2b1734c175321eb3cff5353b2f6cf0dff5af9f4bc4b311150b0", func := "loop.example/g00856/laws.FnExactBraidPicture", spec := "fnExactBraidPicture", inPlace := ["internal/bytealg.MakeNoZero"], unfollowed := true, recurses := true, apart := false }
def FnExactBraidPictureSaid : Prop := fnExactBraidPictureRow.holds Try.pinned (OpenSpec.ofChange fnExactBraidPictureSpec)

/-- ITS FALSE NEIGHBOUR: 'it returns false'. Refute it at one input. -/
def fnExactBraidPictureWrong : ChangeSpec := { name := "fnExactBraidPicture", fn := fun _ => fun
  | [d] => { results := [.lit (.bool false)], args := [d] }
  | _ => none }
def FnExactBraidPictureWrongFalsely : Prop := fnExactBraidPictureRow.holds Try.pinned (OpenSpec.ofChange fnExactBraidPictureWrong)

/-- 'laws.FnExactSameStudio': WHATEVER THE INPUT: true; the input reads as it did. -/
def fnExactSameStudioSpec : ChangeSpec := { name := "fnExactSameStudio", fn := fun _ => fun
  | [d1, d2] => { results := [.lit (.bool true)], args := [d1, d2] }
  | _ => none }
def fnExactSameStudioRow : OpenClaim := { program := "ytjegoffdkmbibaa", sum := "47b934b95d55d2b1734c175321eb3cff5353b2f6cf0dff5af9f4bc4b311150b0", func := "loop.example/g00856/laws.FnExactSameStudio", spec := "fnExactSameStudio", unfollowed := true, recurses := true, apart := false }
def FnExactSameStudioSaid : Prop := fnExactSameStudioRow.holds Try.pinned (OpenSpec.ofChange fnExactSameStudioSpec)

/-- ITS FALSE NEIGHBOUR: 'it returns false'. Refute it at one input. -/
def fnExactSameStudioWrong : ChangeSpec := { name := "fnExactSameStudio", fn := fun _ => fun
  | [d1, d2] => { results := [.lit (.bool false)], args := [d1, d2] }
  | _ => none }
def FnExactSameStudioWrongFalsely : Prop := fnExactSameStudioRow.holds Try.pinned (OpenSpec.ofChange fnExactSameStudioWrong)

/-- 'laws.FnExactReadBraidPicture': WHATEVER THE INPUT: true; the input reads as it did. -/
def fnExactReadBraidPictureSpec : ChangeSpec := { name := "fnExactReadBraidPicture", fn := fun _ => fun
  | [d] => { results := [.lit (.bool true)], args := [d] }
  | _ => none }
def fnExactReadBraidPictureRow : OpenClaim := { program := "ytjegoffdkmbibaa", sum := "47b934b95d55d2b1734c175321eb3cff5353b2f6cf0dff5af9f4bc4b311150b0", func := "loop.example/g00856/laws.FnExactReadBraidPicture", spec := "fnExactReadBraidPicture", inPlace := ["internal/bytealg.MakeNoZero"], unfollowed := true, recurses := true, apart := false }
def FnExactReadBraidPictureSaid : Prop := fnExactReadBraidPictureRow.holds Try.pinned (OpenSpec.ofChange fnExactReadBraidPictureSpec)

/-- ITS FALSE NEIGHBOUR: 'it returns false'. Refute it at one input. -/
def fnExactReadBraidPictureWrong : ChangeSpec := { name := "fnExactReadBraidPicture", fn := fun _ => fun
  | [d] => { results := [.lit (.bool false)], args := [d] }
  | _ => none }
def FnExactReadBraidPictureWrongFalsely : Prop := fnExactReadBraidPictureRow.holds Try.pinned (OpenSpec.ofChange fnExactReadBraidPictureWrong)

/- THE SECOND FORM. 'bulk': how many values and letters a reading holds, each counted each time it is reached (what is shared counts as often as it is met; a slice's spare places count too). A statement '..UptoSaid' is the law's where the arguments, and the package variables that the reading takes, are together of bulk at most 1048576: NARROWER than '..Said'. Prove '..Said' where nothing that the law and all that it calls make is longer than what came in: it says more and counts as full. Else prove '..UptoSaid'. A law counts once. -/
mutual
def uptoBulk {H : Type} : DataW H → Nat
  | .lit (.string bytes) => bytes.length + 1
  | .lit _ => 1
  | .nil => 1
  | .ptr d => uptoBulk d + 1
  | .slice elems spare => uptoBulkAll elems + uptoBulkAll spare + 1
  | .agg parts => uptoBulkAll parts + 1
  | .iface _ d => uptoBulk d + 1
  | .map entries => uptoBulkEntries entries + 1
  | .held _ => 1
def uptoBulkAll {H : Type} : List (DataW H) → Nat
  | [] => 0
  | d :: r => uptoBulk d + uptoBulkAll r
def uptoBulkEntries {H : Type} : List (Lit × DataW H) → Nat
  | [] => 0
  | x :: r => uptoBulkEntry x + uptoBulkEntries r
def uptoBulkEntry {H : Type} : Lit × DataW H → Nat
  | (.string bytes, d) => bytes.length + uptoBulk d + 1
  | (_, d) => uptoBulk d + 1
 end
def uptoSmall : (H : Type) → List (DataW H) → Bool := fun _ ds => decide (uptoBulkAll ds ≤ 1048576)
def OpenSpec.upto (s : _root_.Go.ChangeSpec) : _root_.Go.OpenSpec := { _root_.Go.OpenSpec.ofChange s with cond := some uptoSmall }

/-- 'laws.FnExactTubeTop', WHERE WHAT IT READS IS OF BULK AT MOST 1048576: true; the input reads as it did. -/
def fnExactTubeTopUptoRow : OpenClaim := { program := "ytjegoffdkmbibaa", sum := "47b934b95d55d2b1734c175321eb3cff5353b2f6cf0dff5af9f4bc4b311150b0", func := "loop.example/g00856/laws.FnExactTubeTop", spec := "fnExactTubeTop", unfollowed := true, recurses := true, apart := false, narrowed := true }
def FnExactTubeTopUptoSaid : Prop := fnExactTubeTopUptoRow.holds Try.pinned (OpenSpec.upto fnExactTubeTopSpec)

/-- 'laws.FnExactTubeRound', WHERE WHAT IT READS IS OF BULK AT MOST 1048576: true; the input reads as it did. -/
def fnExactTubeRoundUptoRow : OpenClaim := { program := "ytjegoffdkmbibaa", sum := "47b934b95d55d2b1734c175321eb3cff5353b2f6cf0dff5af9f4bc4b311150b0", func := "loop.example/g00856/laws.FnExactTubeRound", spec := "fnExactTubeRound", unfollowed := true, recurses := true, apart := false, narrowed := true }
def FnExactTubeRoundUptoSaid : Prop := fnExactTubeRoundUptoRow.holds Try.pinned (OpenSpec.upto fnExactTubeRoundSpec)

/-- 'laws.FnExactTubeCost', WHERE WHAT IT READS IS OF BULK AT MOST 1048576: true; the input reads as it did. -/
def fnExactTubeCostUptoRow : OpenClaim := { program := "ytjegoffdkmbibaa", sum := "47b934b95d55d2b1734c175321eb3cff5353b2f6cf0dff5af9f4bc4b311150b0", func := "loop.example/g00856/laws.FnExactTubeCost", spec := "fnExactTubeCost", unfollowed := true, recurses := true, apart := false, narrowed := true }
def FnExactTubeCostUptoSaid : Prop := fnExactTubeCostUptoRow.holds Try.pinned (OpenSpec.upto fnExactTubeCostSpec)

/-- 'laws.FnExactTubeCastOn', WHERE WHAT IT READS IS OF BULK AT MOST 1048576: true; the input reads as it did. -/
def fnExactTubeCastOnUptoRow : OpenClaim := { program := "ytjegoffdkmbibaa", sum := "47b934b95d55d2b1734c175321eb3cff5353b2f6cf0dff5af9f4bc4b311150b0", func := "loop.example/g00856/laws.FnExactTubeCastOn", spec := "fnExactTubeCastOn", unfollowed := true, recurses := true, apart := false, narrowed := true }
def FnExactTubeCastOnUptoSaid : Prop := fnExactTubeCastOnUptoRow.holds Try.pinned (OpenSpec.upto fnExactTubeCastOnSpec)

/-- 'laws.FnExactTubeOps', WHERE WHAT IT READS IS OF BULK AT MOST 1048576: true; the input reads as it did. -/
def fnExactTubeOpsUptoRow : OpenClaim := { program := "ytjegoffdkmbibaa", sum := "47b934b95d55d2b1734c175321eb3cff5353b2f6cf0dff5af9f4bc4b311150b0", func := "loop.example/g00856/laws.FnExactTubeOps", spec := "fnExactTubeOps", unfollowed := true, recurses := true, apart := false, narrowed := true }
def FnExactTubeOpsUptoSaid : Prop := fnExactTubeOpsUptoRow.holds Try.pinned (OpenSpec.upto fnExactTubeOpsSpec)

/-- 'laws.FnExactNewStudio', WHERE WHAT IT READS IS OF BULK AT MOST 1048576: true; the input reads as it did. -/
def fnExactNewStudioUptoRow : OpenClaim := { program := "ytjegoffdkmbibaa", sum := "47b934b95d55d2b1734c175321eb3cff5353b2f6cf0dff5af9f4bc4b311150b0", func := "loop.example/g00856/laws.FnExactNewStudio", spec := "fnExactNewStudio", apart := false, narrowed := true }
def FnExactNewStudioUptoSaid : Prop := fnExactNewStudioUptoRow.holds Try.pinned (OpenSpec.upto fnExactNewStudioSpec)

/-- 'laws.FnExactBraidPicture', WHERE WHAT IT READS IS OF BULK AT MOST 1048576: true; the input reads as it did. -/
def fnExactBraidPictureUptoRow : OpenClaim := { program := "ytjegoffdkmbibaa", sum := "47b934b95d55d2b1734c175321eb3cff5353b2f6cf0dff5af9f4bc4b311150b0", func := "loop.example/g00856/laws.FnExactBraidPicture", spec := "fnExactBraidPicture", inPlace := ["internal/bytealg.MakeNoZero"], unfollowed := true, recurses := true, apart := false, narrowed := true }
def FnExactBraidPictureUptoSaid : Prop := fnExactBraidPictureUptoRow.holds Try.pinned (OpenSpec.upto fnExactBraidPictureSpec)

/-- 'laws.FnExactSameStudio', WHERE WHAT IT READS IS OF BULK AT MOST 1048576: true; the input reads as it did. -/
def fnExactSameStudioUptoRow : OpenClaim := { program := "ytjegoffdkmbibaa", sum := "47b934b95d55d2b1734c175321eb3cff5353b2f6cf0dff5af9f4bc4b311150b0", func := "loop.example/g00856/laws.FnExactSameStudio", spec := "fnExactSameStudio", unfollowed := true, recurses := true, apart := false, narrowed := true }
def FnExactSameStudioUptoSaid : Prop := fnExactSameStudioUptoRow.holds Try.pinned (OpenSpec.upto fnExactSameStudioSpec)

/-- 'laws.FnExactReadBraidPicture', WHERE WHAT IT READS IS OF BULK AT MOST 1048576: true; the input reads as it did. -/
def fnExactReadBraidPictureUptoRow : OpenClaim := { program := "ytjegoffdkmbibaa", sum := "47b934b95d55d2b1734c175321eb3cff5353b2f6cf0dff5af9f4bc4b311150b0", func := "loop.example/g00856/laws.FnExactReadBraidPicture", spec := "fnExactReadBraidPicture", inPlace := ["internal/bytealg.MakeNoZero"], unfollowed := true, recurses := true, apart := false, narrowed := true }
def FnExactReadBraidPictureUptoSaid : Prop := fnExactReadBraidPictureUptoRow.holds Try.pinned (OpenSpec.upto fnExactReadBraidPictureSpec)

end Rows
end Go.Proofs.Ytjegoffdkmbibaa
