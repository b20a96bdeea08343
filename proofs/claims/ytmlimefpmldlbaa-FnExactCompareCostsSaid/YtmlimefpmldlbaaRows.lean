/-
  No cell of these rows narrows 'for every input' (looked for: loops, veiled, ifaces, maps, wideKeys, modest, calm, conditions, laid).
  DERIVED. THE GIVEN ROWS OF THIS SEAT. 6 by the template 'for every input the law returns true; each argument reads behind the call as it read before'; 0 by the template 'total and deterministic' (their statements: YtmlimefpmldlbaaTotals.lean).
  GIVEN WITH THE SEED: the statements are not yours to turn. If you find one false, say at which input.
  Laid BY PROGRAM, IN A SANDBOX (cutbox-rows.mjs): the forced cells as the released guide's own fill.sh prints them over the translation a75eea28e5fdd584… (all of the seat's roots in one cut). By AI agents, Wed Nov 11 2026. No macro, syntax, notation, axiom, sorry.
-/
import Derived.Test.YtmlimefpmldlbaaChecked
import GoSem.Claim
import GoSem.ClaimJoined
import GoSem.ClaimMapViews
import Derived.JoinedTies
import Derived.KernelRfl
namespace Go.Proofs.Ytmlimefpmldlbaa
/- THE CELL 'sum', in the pinned program and in every row, IS THE sha256 OF THE DUMP (.gsa) THAT YtmlimefpmldlbaaProg.lean LOADS. Nothing in Lean hashes anything: it is a label: what it is worth is what the hold of that sum in a sandbox is worth. -/
noncomputable def Try.pinned : Pinned := { name := "ytmlimefpmldlbaa", sum := "a75eea28e5fdd584afdbc4bd427fbe2b957c5685869a1d61cfef315f5dfe9843", checked := Try.checked }
namespace Rows
def none {H : Type} : Left H := { results := [], args := [] }

/-- 'laws.FnExactValidTube': WHATEVER THE INPUT: true; the input reads as it did. -/
def fnExactValidTubeSpec : ChangeSpec := { name := "fnExactValidTube", fn := fun _ => fun
  | [d] => { results := [.lit (.bool true)], args := [d] }
  | _ => none }
def fnExactValidTubeRow : OpenClaim := { program := "ytmlimefpmldlbaa", sum := "a75eea28e5fdd584afdbc4bd427fbe2b957c5685869a1d61cfef315f5dfe9843", func := "loop.example/g00856/laws.FnExactValidTube", spec := "fnExactValidTube", apart := false }
def FnExactValidTubeSaid : Prop := fnExactValidTubeRow.holds Try.pinned (OpenSpec.ofChange fnExactValidTubeSpec)

/-- ITS FALSE NEIGHBOUR: 'it returns false'. Refute it at one input. -/
def fnExactValidTubeWrong : ChangeSpec := { name := "fnExactValidTube", fn := fun _ => fun
  | [d] => { results := [.lit (.bool false)], args := [d] }
  | _ => none }
def FnExactValidTubeWrongFalsely : Prop := fnExactValidTubeRow.holds Try.pinned (OpenSpec.ofChange fnExactValidTubeWrong)

/-- 'laws.FnExactStudioWords': WHATEVER THE INPUT: true; the input reads as it did. -/
def fnExactStudioWordsSpec : ChangeSpec := { name := "fnExactStudioWords", fn := fun _ => fun
  | [] => { results := [.lit (.bool true)], args := [] }
  | _ => none }
def fnExactStudioWordsRow : OpenClaim := { program := "ytmlimefpmldlbaa", sum := "a75eea28e5fdd584afdbc4bd427fbe2b957c5685869a1d61cfef315f5dfe9843", func := "loop.example/g00856/laws.FnExactStudioWords", spec := "fnExactStudioWords", apart := false }
def FnExactStudioWordsSaid : Prop := fnExactStudioWordsRow.holds Try.pinned (OpenSpec.ofChange fnExactStudioWordsSpec)

/-- ITS FALSE NEIGHBOUR: 'it returns false'. Refute it at one input. -/
def fnExactStudioWordsWrong : ChangeSpec := { name := "fnExactStudioWords", fn := fun _ => fun
  | [] => { results := [.lit (.bool false)], args := [] }
  | _ => none }
def FnExactStudioWordsWrongFalsely : Prop := fnExactStudioWordsRow.holds Try.pinned (OpenSpec.ofChange fnExactStudioWordsWrong)

/-- 'laws.FnExactMirrorPicture': WHATEVER THE INPUT: true; the input reads as it did. -/
def fnExactMirrorPictureSpec : ChangeSpec := { name := "fnExactMirrorPicture", fn := fun _ => fun
  | [d] => { results := [.lit (.bool true)], args := [d] }
  | _ => none }
def fnExactMirrorPictureRow : OpenClaim := { program := "ytmlimefpmldlbaa", sum := "a75eea28e5fdd584afdbc4bd427fbe2b957c5685869a1d61cfef315f5dfe9843", func := "loop.example/g00856/laws.FnExactMirrorPicture", spec := "fnExactMirrorPicture", apart := false }
def FnExactMirrorPictureSaid : Prop := fnExactMirrorPictureRow.holds Try.pinned (OpenSpec.ofChange fnExactMirrorPictureSpec)

/-- ITS FALSE NEIGHBOUR: 'it returns false'. Refute it at one input. -/
def fnExactMirrorPictureWrong : ChangeSpec := { name := "fnExactMirrorPicture", fn := fun _ => fun
  | [d] => { results := [.lit (.bool false)], args := [d] }
  | _ => none }
def FnExactMirrorPictureWrongFalsely : Prop := fnExactMirrorPictureRow.holds Try.pinned (OpenSpec.ofChange fnExactMirrorPictureWrong)

/-- 'laws.FnExactHandCastOn': WHATEVER THE INPUT: true; the input reads as it did. -/
def fnExactHandCastOnSpec : ChangeSpec := { name := "fnExactHandCastOn", fn := fun _ => fun
  | [d1, d2] => { results := [.lit (.bool true)], args := [d1, d2] }
  | _ => none }
def fnExactHandCastOnRow : OpenClaim := { program := "ytmlimefpmldlbaa", sum := "a75eea28e5fdd584afdbc4bd427fbe2b957c5685869a1d61cfef315f5dfe9843", func := "loop.example/g00856/laws.FnExactHandCastOn", spec := "fnExactHandCastOn", apart := false }
def FnExactHandCastOnSaid : Prop := fnExactHandCastOnRow.holds Try.pinned (OpenSpec.ofChange fnExactHandCastOnSpec)

/-- ITS FALSE NEIGHBOUR: 'it returns false'. Refute it at one input. -/
def fnExactHandCastOnWrong : ChangeSpec := { name := "fnExactHandCastOn", fn := fun _ => fun
  | [d1, d2] => { results := [.lit (.bool false)], args := [d1, d2] }
  | _ => none }
def FnExactHandCastOnWrongFalsely : Prop := fnExactHandCastOnRow.holds Try.pinned (OpenSpec.ofChange fnExactHandCastOnWrong)

/-- 'laws.FnExactTubeLoops': WHATEVER THE INPUT: true; the input reads as it did. -/
def fnExactTubeLoopsSpec : ChangeSpec := { name := "fnExactTubeLoops", fn := fun _ => fun
  | [d] => { results := [.lit (.bool true)], args := [d] }
  | _ => none }
def fnExactTubeLoopsRow : OpenClaim := { program := "ytmlimefpmldlbaa", sum := "a75eea28e5fdd584afdbc4bd427fbe2b957c5685869a1d61cfef315f5dfe9843", func := "loop.example/g00856/laws.FnExactTubeLoops", spec := "fnExactTubeLoops", unfollowed := true, recurses := true, apart := false }
def FnExactTubeLoopsSaid : Prop := fnExactTubeLoopsRow.holds Try.pinned (OpenSpec.ofChange fnExactTubeLoopsSpec)

/-- ITS FALSE NEIGHBOUR: 'it returns false'. Refute it at one input. -/
def fnExactTubeLoopsWrong : ChangeSpec := { name := "fnExactTubeLoops", fn := fun _ => fun
  | [d] => { results := [.lit (.bool false)], args := [d] }
  | _ => none }
def FnExactTubeLoopsWrongFalsely : Prop := fnExactTubeLoopsRow.holds Try.pinned (OpenSpec.ofChange fnExactTubeLoopsWrong)

/-- 'laws.FnExactCompareCosts': WHATEVER THE INPUT: true; the input reads as it did. -/
def fnExactCompareCostsSpec : ChangeSpec := { name := "fnExactCompareCosts", fn := fun _ => fun
  | [d1, d2] => { results := [.lit (.bool true)], args := [d1, d2] }
  | _ => none }
def fnExactCompareCostsRow : OpenClaim := { program := "ytmlimefpmldlbaa", sum := "a75eea28e5fdd584afdbc4bd427fbe2b957c5685869a1d61cfef315f5dfe9843", func := "loop.example/g00856/laws.FnExactCompareCosts", spec := "fnExactCompareCosts", apart := false }
def FnExactCompareCostsSaid : Prop := fnExactCompareCostsRow.holds Try.pinned (OpenSpec.ofChange fnExactCompareCostsSpec)

/-- ITS FALSE NEIGHBOUR: 'it returns false'. Refute it at one input. -/
def fnExactCompareCostsWrong : ChangeSpec := { name := "fnExactCompareCosts", fn := fun _ => fun
  | [d1, d2] => { results := [.lit (.bool false)], args := [d1, d2] }
  | _ => none }
def FnExactCompareCostsWrongFalsely : Prop := fnExactCompareCostsRow.holds Try.pinned (OpenSpec.ofChange fnExactCompareCostsWrong)

/- THE SECOND FORM. 'bulk': how many values and letters a reading holds, each counted each time it is reached (what is shared counts as often as it is met; a slice's spare places count too). A statement '..UptoSaid' is the law's where the arguments, and the package variables that the reading takes, are together of bulk at most 1048576: NARROWER than '..Said'. Prove '..Said' where nothing that the law and all that it calls make is longer than what came in: it says more and counts as full. Else prove '..UptoSaid'. A law counts once. -/
mutual
def uptoBulk {H : Type} : DataW H → Nat
  | .lit (.string bytes) => bytes.length + 1
  | .lit _ => 1
  | .nil => 1
  | .ptr d => uptoBulk d + 1
  | .slice elems spare => uptoBulkAll elems + uptoBulkAll spare + 1
  | .agg parts => uptoBulkAll parts + 1
  | .iface _ d => uptoBulk d + 1
  | .map entries => uptoBulkEntries entries + 1
  | .held _ => 1
def uptoBulkAll {H : Type} : List (DataW H) → Nat
  | [] => 0
  | d :: r => uptoBulk d + uptoBulkAll r
def uptoBulkEntries {H : Type} : List (Lit × DataW H) → Nat
  | [] => 0
  | x :: r => uptoBulkEntry x + uptoBulkEntries r
def uptoBulkEntry {H : Type} : Lit × DataW H → Nat
  | (.string bytes, d) => bytes.length + uptoBulk d + 1
  | (_, d) => uptoBulk d + 1
 end
def uptoSmall : (H : Type) → List (DataW H) → Bool := fun _ ds => decide (uptoBulkAll ds ≤ 1048576)
def OpenSpec.upto (s : _root_.Go.ChangeSpec) : _root_.Go.OpenSpec := { _root_.Go.OpenSpec.ofChange s with cond := some uptoSmall }

/-- 'laws.FnExactValidTube', WHERE WHAT IT READS IS OF BULK AT MOST 1048576: true; the input reads as it did. -/
def fnExactValidTubeUptoRow : OpenClaim := { program := "ytmlimefpmldlbaa", sum := "a75eea28e5fdd584afdbc4bd427fbe2b957c5685869a1d61cfef315f5dfe9843", func := "loop.example/g00856/laws.FnExactValidTube", spec := "fnExactValidTube", apart := false, narrowed := true }
def FnExactValidTubeUptoSaid : Prop := fnExactValidTubeUptoRow.holds Try.pinned (OpenSpec.upto fnExactValidTubeSpec)

/-- 'laws.FnExactStudioWords', WHERE WHAT IT READS IS OF BULK AT MOST 1048576: true; the input reads as it did. -/
def fnExactStudioWordsUptoRow : OpenClaim := { program := "ytmlimefpmldlbaa", sum := "a75eea28e5fdd584afdbc4bd427fbe2b957c5685869a1d61cfef315f5dfe9843", func := "loop.example/g00856/laws.FnExactStudioWords", spec := "fnExactStudioWords", apart := false, narrowed := true }
def FnExactStudioWordsUptoSaid : Prop := fnExactStudioWordsUptoRow.holds Try.pinned (OpenSpec.upto fnExactStudioWordsSpec)

/-- 'laws.FnExactMirrorPicture', WHERE WHAT IT READS IS OF BULK AT MOST 1048576: true; the input reads as it did. -/
def fnExactMirrorPictureUptoRow : OpenClaim := { program := "ytmlimefpmldlbaa", sum := "a75eea28e5fdd584afdbc4bd427fbe2b957c5685869a1d61cfef315f5dfe9843", func := "loop.example/g00856/laws.FnExactMirrorPicture", spec := "fnExactMirrorPicture", apart := false, narrowed := true }
def FnExactMirrorPictureUptoSaid : Prop := fnExactMirrorPictureUptoRow.holds Try.pinned (OpenSpec.upto fnExactMirrorPictureSpec)

/-- 'laws.FnExactHandCastOn', WHERE WHAT IT READS IS OF BULK AT MOST 1048576: true; the input reads as it did. -/
def fnExactHandCastOnUptoRow : OpenClaim := { program := "ytmlimefpmldlbaa", sum := "a75eea28e5fdd584afdbc4bd427fbe2b957c5685869a1d61cfef315f5dfe9843", func := "loop.example/g00856/laws.FnExactHandCastOn", spec := "fnExactHandCastOn", apart := false, narrowed := true }
def FnExactHandCastOnUptoSaid : Prop := fnExactHandCastOnUptoRow.holds Try.pinned (OpenSpec.upto fnExactHandCastOnSpec)

/-- 'laws.FnExactTubeLoops', WHERE WHAT IT READS IS OF BULK AT MOST 1048576: true; the input reads as it did. -/
def fnExactTubeLoopsUptoRow : OpenClaim := { program := "ytmlimefpmldlbaa", sum := "a75eea28e5fdd584afdbc4bd427fbe2b957c5685869a1d61cfef315f5dfe9843", func := "loop.example/g00856/laws.FnExactTubeLoops", spec := "fnExactTubeLoops", unfollowed := true, recurses := true, apart := false, narrowed := true }
def FnExactTubeLoopsUptoSaid : Prop := fnExactTubeLoopsUptoRow.holds Try.pinned (OpenSpec.upto fnExactTubeLoopsSpec)

/-- 'laws.FnExactCompareCosts', WHERE WHAT IT READS IS OF BULK AT MOST 1048576: true; the input reads as it did. -/
def fnExactCompareCostsUptoRow : OpenClaim := { program := "ytmlimefpmldlbaa", sum := "a75eea28e5fdd584afdbc4bd427fbe2b957c5685869a1d61cfef315f5dfe9843", func := "loop.example/g00856/laws.FnExactCompareCosts", spec := "fnExactCompareCosts", apart := false, narrowed := true }
def FnExactCompareCostsUptoSaid : Prop := fnExactCompareCostsUptoRow.holds Try.pinned (OpenSpec.upto fnExactCompareCostsSpec)

end Rows
end Go.Proofs.Ytmlimefpmldlbaa
