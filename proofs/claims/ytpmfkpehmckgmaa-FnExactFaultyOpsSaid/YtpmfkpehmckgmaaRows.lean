/-
  No cell of these rows narrows 'for every input' (looked for: loops, veiled, ifaces, maps, wideKeys, modest, calm, conditions, laid).
  DERIVED. THE GIVEN ROWS OF THIS SEAT. 7 by the template 'for every input the law returns true; each argument reads behind the call as it read before'; 0 by the template 'total and deterministic' (their statements: YtpmfkpehmckgmaaTotals.lean).
  GIVEN WITH THE SEED: the statements are not yours to turn. If you find one false, say at which input.
  Laid BY PROGRAM, IN A SANDBOX (cutbox-rows.mjs): the forced cells as the released guide's own fill.sh prints them over the translation 0a3576b6f5284b6a… (all of the seat's roots in one cut). By AI agents, Wed Nov 11 2026. No macro, syntax, notation, axiom, sorry.
-/
import Derived.Test.YtpmfkpehmckgmaaChecked
import GoSem.Claim
import GoSem.ClaimJoined
import GoSem.ClaimMapViews
import Derived.JoinedTies
import Derived.KernelRfl
namespace Go.Proofs.Ytpmfkpehmckgmaa
/- THE CELL 'sum', in the pinned program and in every row, IS THE sha256 OF THE DUMP (.gsa) THAT YtpmfkpehmckgmaaProg.lean LOADS. Nothing in Lean hashes anything: it is a label: what it is worth is what the hold of that sum in a sandbox is worth. -/
noncomputable def Try.pinned : Pinned := { name := "ytpmfkpehmckgmaa", sum := "0a3576b6f5284b6af69681007ef28b05758cfc0db5c86db4aaa70983a406e1e8", checked := Try.checked }
namespace Rows
def none {H : Type} : Left H := { results := [], args := [] }

/-- 'laws.FnExactPeakLoops': WHATEVER THE INPUT: true; the input reads as it did. -/
def fnExactPeakLoopsSpec : ChangeSpec := { name := "fnExactPeakLoops", fn := fun _ => fun
  | [d1, d2] => { results := [.lit (.bool true)], args := [d1, d2] }
  | _ => none }
def fnExactPeakLoopsRow : OpenClaim := { program := "ytpmfkpehmckgmaa", sum := "0a3576b6f5284b6af69681007ef28b05758cfc0db5c86db4aaa70983a406e1e8", func := "loop.example/g00856/laws.FnExactPeakLoops", spec := "fnExactPeakLoops", unfollowed := true, recurses := true, apart := false }
def FnExactPeakLoopsSaid : Prop := fnExactPeakLoopsRow.holds Try.pinned (OpenSpec.ofChange fnExactPeakLoopsSpec)

/-- ITS FALSE NEIGHBOUR: 'it returns false'. Refute it at one input. -/
def fnExactPeakLoopsWrong : ChangeSpec := { name := "fnExactPeakLoops", fn := fun _ => fun
  | [d1, d2] => { results := [.lit (.bool false)], args := [d1, d2] }
  | _ => none }
def FnExactPeakLoopsWrongFalsely : Prop := fnExactPeakLoopsRow.holds Try.pinned (OpenSpec.ofChange fnExactPeakLoopsWrong)

/-- 'laws.FnExactPeakStack': WHATEVER THE INPUT: true; the input reads as it did. -/
def fnExactPeakStackSpec : ChangeSpec := { name := "fnExactPeakStack", fn := fun _ => fun
  | [d1, d2] => { results := [.lit (.bool true)], args := [d1, d2] }
  | _ => none }
def fnExactPeakStackRow : OpenClaim := { program := "ytpmfkpehmckgmaa", sum := "0a3576b6f5284b6af69681007ef28b05758cfc0db5c86db4aaa70983a406e1e8", func := "loop.example/g00856/laws.FnExactPeakStack", spec := "fnExactPeakStack", unfollowed := true, recurses := true, apart := false }
def FnExactPeakStackSaid : Prop := fnExactPeakStackRow.holds Try.pinned (OpenSpec.ofChange fnExactPeakStackSpec)

/-- ITS FALSE NEIGHBOUR: 'it returns false'. Refute it at one input. -/
def fnExactPeakStackWrong : ChangeSpec := { name := "fnExactPeakStack", fn := fun _ => fun
  | [d1, d2] => { results := [.lit (.bool false)], args := [d1, d2] }
  | _ => none }
def FnExactPeakStackWrongFalsely : Prop := fnExactPeakStackRow.holds Try.pinned (OpenSpec.ofChange fnExactPeakStackWrong)

/-- 'laws.FnExactFaultsOf': WHATEVER THE INPUT: true; the input reads as it did. -/
def fnExactFaultsOfSpec : ChangeSpec := { name := "fnExactFaultsOf", fn := fun _ => fun
  | [d1, d2] => { results := [.lit (.bool true)], args := [d1, d2] }
  | _ => none }
def fnExactFaultsOfRow : OpenClaim := { program := "ytpmfkpehmckgmaa", sum := "0a3576b6f5284b6af69681007ef28b05758cfc0db5c86db4aaa70983a406e1e8", func := "loop.example/g00856/laws.FnExactFaultsOf", spec := "fnExactFaultsOf", unfollowed := true, recurses := true, apart := false }
def FnExactFaultsOfSaid : Prop := fnExactFaultsOfRow.holds Try.pinned (OpenSpec.ofChange fnExactFaultsOfSpec)

/-- ITS FALSE NEIGHBOUR: 'it returns false'. Refute it at one input. -/
def fnExactFaultsOfWrong : ChangeSpec := { name := "fnExactFaultsOf", fn := fun _ => fun
  | [d1, d2] => { results := [.lit (.bool false)], args := [d1, d2] }
  | _ => none }
def FnExactFaultsOfWrongFalsely : Prop := fnExactFaultsOfRow.holds Try.pinned (OpenSpec.ofChange fnExactFaultsOfWrong)

/-- 'laws.FnExactMostUsed': WHATEVER THE INPUT: true; the input reads as it did. -/
def fnExactMostUsedSpec : ChangeSpec := { name := "fnExactMostUsed", fn := fun _ => fun
  | [d1, d2] => { results := [.lit (.bool true)], args := [d1, d2] }
  | _ => none }
def fnExactMostUsedRow : OpenClaim := { program := "ytpmfkpehmckgmaa", sum := "0a3576b6f5284b6af69681007ef28b05758cfc0db5c86db4aaa70983a406e1e8", func := "loop.example/g00856/laws.FnExactMostUsed", spec := "fnExactMostUsed", unfollowed := true, recurses := true, apart := false }
def FnExactMostUsedSaid : Prop := fnExactMostUsedRow.holds Try.pinned (OpenSpec.ofChange fnExactMostUsedSpec)

/-- ITS FALSE NEIGHBOUR: 'it returns false'. Refute it at one input. -/
def fnExactMostUsedWrong : ChangeSpec := { name := "fnExactMostUsed", fn := fun _ => fun
  | [d1, d2] => { results := [.lit (.bool false)], args := [d1, d2] }
  | _ => none }
def FnExactMostUsedWrongFalsely : Prop := fnExactMostUsedRow.holds Try.pinned (OpenSpec.ofChange fnExactMostUsedWrong)

/-- 'laws.FnExactNeedleUses': WHATEVER THE INPUT: true; the input reads as it did. -/
def fnExactNeedleUsesSpec : ChangeSpec := { name := "fnExactNeedleUses", fn := fun _ => fun
  | [d1, d2] => { results := [.lit (.bool true)], args := [d1, d2] }
  | _ => none }
def fnExactNeedleUsesRow : OpenClaim := { program := "ytpmfkpehmckgmaa", sum := "0a3576b6f5284b6af69681007ef28b05758cfc0db5c86db4aaa70983a406e1e8", func := "loop.example/g00856/laws.FnExactNeedleUses", spec := "fnExactNeedleUses", unfollowed := true, recurses := true, apart := false }
def FnExactNeedleUsesSaid : Prop := fnExactNeedleUsesRow.holds Try.pinned (OpenSpec.ofChange fnExactNeedleUsesSpec)

/-- ITS FALSE NEIGHBOUR: 'it returns false'. Refute it at one input. -/
def fnExactNeedleUsesWrong : ChangeSpec := { name := "fnExactNeedleUses", fn := fun _ => fun
  | [d1, d2] => { results := [.lit (.bool false)], args := [d1, d2] }
  | _ => none }
def FnExactNeedleUsesWrongFalsely : Prop := fnExactNeedleUsesRow.holds Try.pinned (OpenSpec.ofChange fnExactNeedleUsesWrong)

/-- 'laws.FnExactYarnNeed': WHATEVER THE INPUT: true; the input reads as it did. -/
def fnExactYarnNeedSpec : ChangeSpec := { name := "fnExactYarnNeed", fn := fun _ => fun
  | [d1, d2, d3] => { results := [.lit (.bool true)], args := [d1, d2, d3] }
  | _ => none }
def fnExactYarnNeedRow : OpenClaim := { program := "ytpmfkpehmckgmaa", sum := "0a3576b6f5284b6af69681007ef28b05758cfc0db5c86db4aaa70983a406e1e8", func := "loop.example/g00856/laws.FnExactYarnNeed", spec := "fnExactYarnNeed", unfollowed := true, recurses := true, apart := false }
def FnExactYarnNeedSaid : Prop := fnExactYarnNeedRow.holds Try.pinned (OpenSpec.ofChange fnExactYarnNeedSpec)

/-- ITS FALSE NEIGHBOUR: 'it returns false'. Refute it at one input. -/
def fnExactYarnNeedWrong : ChangeSpec := { name := "fnExactYarnNeed", fn := fun _ => fun
  | [d1, d2, d3] => { results := [.lit (.bool false)], args := [d1, d2, d3] }
  | _ => none }
def FnExactYarnNeedWrongFalsely : Prop := fnExactYarnNeedRow.holds Try.pinned (OpenSpec.ofChange fnExactYarnNeedWrong)

/-- 'laws.FnExactFaultyOps': WHATEVER THE INPUT: true; the input reads as it did. -/
def fnExactFaultyOpsSpec : ChangeSpec := { name := "fnExactFaultyOps", fn := fun _ => fun
  | [d1, d2, d3] => { results := [.lit (.bool true)], args := [d1, d2, d3] }
  | _ => none }
def fnExactFaultyOpsRow : OpenClaim := { program := "ytpmfkpehmckgmaa", sum := "0a3576b6f5284b6af69681007ef28b05758cfc0db5c86db4aaa70983a406e1e8", func := "loop.example/g00856/laws.FnExactFaultyOps", spec := "fnExactFaultyOps", unfollowed := true, recurses := true, apart := false }
def FnExactFaultyOpsSaid : Prop := fnExactFaultyOpsRow.holds Try.pinned (OpenSpec.ofChange fnExactFaultyOpsSpec)

/-- ITS FALSE NEIGHBOUR: 'it returns false'. Refute it at one input. -/
def fnExactFaultyOpsWrong : ChangeSpec := { name := "fnExactFaultyOps", fn := fun _ => fun
  | [d1, d2, d3] => { results := [.lit (.bool false)], args := [d1, d2, d3] }
  | _ => none }
def FnExactFaultyOpsWrongFalsely : Prop := fnExactFaultyOpsRow.holds Try.pinned (OpenSpec.ofChange fnExactFaultyOpsWrong)

/- THE SECOND FORM. 'bulk': how many values and letters a reading holds, each counted each time it is reached (what is shared counts as often as it is met; a slice's spare places count too). A statement '..UptoSaid' is the law's where the arguments, and the package variables that the reading takes, are together of bulk at most 1048576: NARROWER than '..Said'. Prove '..Said' where nothing that the law and all that it calls make is longer than what came in: it says more and counts as full. Else prove '..UptoSaid'. A law counts once. -/
mutual
def uptoBulk {H : Type} : DataW H → Nat
  | .lit (.string bytes) => bytes.length + 1
  | .lit _ => 1
  | .nil => 1
  | .ptr d => uptoBulk d + 1
  | .slice elems spare => uptoBulkAll elems + uptoBulkAll spare + 1
  | .agg parts => uptoBulkAll parts + 1
  | .iface _ d => uptoBulk d + 1
  | .map entries => uptoBulkEntries entries + 1
  | .held _ => 1
def uptoBulkAll {H : Type} : List (DataW H) → Nat
  | [] => 0
  | d :: r => uptoBulk d + uptoBulkAll r
def uptoBulkEntries {H : Type} : List (Lit × DataW H) → Nat
  | [] => 0
  | x :: r => uptoBulkEntry x + uptoBulkEntries r
def uptoBulkEntry {H : Type} : Lit × DataW H → Nat
  | (.string bytes, d) => bytes.length + uptoBulk d + 1
  | (_, d) => uptoBulk d + 1
 end
def uptoSmall : (H : Type) → List (DataW H) → Bool := fun _ ds => decide (uptoBulkAll ds ≤ 1048576)
def OpenSpec.upto (s : _root_.Go.ChangeSpec) : _root_.Go.OpenSpec := { _root_.Go.OpenSpec.ofChange s with cond := some uptoSmall }

/-- 'laws.FnExactPeakLoops', WHERE WHAT IT READS IS OF BULK AT MOST 1048576: true; the input reads as it did. -/
def fnExactPeakLoopsUptoRow : OpenClaim := { program := "ytpmfkpehmckgmaa", sum := "0a3576b6f5284b6af69681007ef28b05758cfc0db5c86db4aaa70983a406e1e8", func := "loop.example/g00856/laws.FnExactPeakLoops", spec := "fnExactPeakLoops", unfollowed := true, recurses := true, apart := false, narrowed := true }
def FnExactPeakLoopsUptoSaid : Prop := fnExactPeakLoopsUptoRow.holds Try.pinned (OpenSpec.upto fnExactPeakLoopsSpec)

/-- 'laws.FnExactPeakStack', WHERE WHAT IT READS IS OF BULK AT MOST 1048576: true; the input reads as it did. -/
def fnExactPeakStackUptoRow : OpenClaim := { program := "ytpmfkpehmckgmaa", sum := "0a3576b6f5284b6af69681007ef28b05758cfc0db5c86db4aaa70983a406e1e8", func := "loop.example/g00856/laws.FnExactPeakStack", spec := "fnExactPeakStack", unfollowed := true, recurses := true, apart := false, narrowed := true }
def FnExactPeakStackUptoSaid : Prop := fnExactPeakStackUptoRow.holds Try.pinned (OpenSpec.upto fnExactPeakStackSpec)

/-- 'laws.FnExactFaultsOf', WHERE WHAT IT READS IS OF BULK AT MOST 1048576: true; the input reads as it did. -/
def fnExactFaultsOfUptoRow : OpenClaim := { program := "ytpmfkpehmckgmaa", sum := "0a3576b6f5284b6af69681007ef28b05758cfc0db5c86db4aaa70983a406e1e8", func := "loop.example/g00856/laws.FnExactFaultsOf", spec := "fnExactFaultsOf", unfollowed := true, recurses := true, apart := false, narrowed := true }
def FnExactFaultsOfUptoSaid : Prop := fnExactFaultsOfUptoRow.holds Try.pinned (OpenSpec.upto fnExactFaultsOfSpec)

/-- 'laws.FnExactMostUsed', WHERE WHAT IT READS IS OF BULK AT MOST 1048576: true; the input reads as it did. -/
def fnExactMostUsedUptoRow : OpenClaim := { program := "ytpmfkpehmckgmaa", sum := "0a3576b6f5284b6af69681007ef28b05758cfc0db5c86db4aaa70983a406e1e8", func := "loop.example/g00856/laws.FnExactMostUsed", spec := "fnExactMostUsed", unfollowed := true, recurses := true, apart := false, narrowed := true }
def FnExactMostUsedUptoSaid : Prop := fnExactMostUsedUptoRow.holds Try.pinned (OpenSpec.upto fnExactMostUsedSpec)

/-- 'laws.FnExactNeedleUses', WHERE WHAT IT READS IS OF BULK AT MOST 1048576: true; the input reads as it did. -/
def fnExactNeedleUsesUptoRow : OpenClaim := { program := "ytpmfkpehmckgmaa", sum := "0a3576b6f5284b6af69681007ef28b05758cfc0db5c86db4aaa70983a406e1e8", func := "loop.example/g00856/laws.FnExactNeedleUses", spec := "fnExactNeedleUses", unfollowed := true, recurses := true, apart := false, narrowed := true }
def FnExactNeedleUsesUptoSaid : Prop := fnExactNeedleUsesUptoRow.holds Try.pinned (OpenSpec.upto fnExactNeedleUsesSpec)

/-- 'laws.FnExactYarnNeed', WHERE WHAT IT READS IS OF BULK AT MOST 1048576: true; the input reads as it did. -/
def fnExactYarnNeedUptoRow : OpenClaim := { program := "ytpmfkpehmckgmaa", sum := "0a3576b6f5284b6af69681007ef28b05758cfc0db5c86db4aaa70983a406e1e8", func := "loop.example/g00856/laws.FnExactYarnNeed", spec := "fnExactYarnNeed", unfollowed := true, recurses := true, apart := false, narrowed := true }
def FnExactYarnNeedUptoSaid : Prop := fnExactYarnNeedUptoRow.holds Try.pinned (OpenSpec.upto fnExactYarnNeedSpec)

/-- 'laws.FnExactFaultyOps', WHERE WHAT IT READS IS OF BULK AT MOST 1048576: true; the input reads as it did. -/
def fnExactFaultyOpsUptoRow : OpenClaim := { program := "ytpmfkpehmckgmaa", sum := "0a3576b6f5284b6af69681007ef28b05758cfc0db5c86db4aaa70983a406e1e8", func := "loop.example/g00856/laws.FnExactFaultyOps", spec := "fnExactFaultyOps", unfollowed := true, recurses := true, apart := false, narrowed := true }
def FnExactFaultyOpsUptoSaid : Prop := fnExactFaultyOpsUptoRow.holds Try.pinned (OpenSpec.upto fnExactFaultyOpsSpec)

end Rows
end Go.Proofs.Ytpmfkpehmckgmaa
