/-
  No cell of these rows narrows 'for every input' (looked for: loops, veiled, ifaces, maps, wideKeys, modest, calm, conditions, laid).
  DERIVED. THE GIVEN ROWS OF THIS SEAT. 4 by the template 'for every input the law returns true; each argument reads behind the call as it read before'; 0 by the template 'total and deterministic' (their statements: YtdnmhhohcedjbaaGreatTotals.lean).
  GIVEN WITH THE SEED: the statements are not yours to turn. If you find one false, say at which input.
  Laid BY PROGRAM, IN A SANDBOX (cutbox-rows.mjs): the forced cells as the released guide's own fill.sh prints them over the translation 849bfa5c7c6d928a… (all of the seat's roots in one cut). By AI agents, Wed Nov 11 2026. No macro, syntax, notation, axiom, sorry.
-/
import Derived.Test.YtdnmhhohcedjbaaGreatChecked
import GoSem.Claim
import GoSem.ClaimJoined
import GoSem.ClaimMapViews
import Derived.JoinedTies
import Derived.KernelRfl
namespace Go.Proofs.YtdnmhhohcedjbaaGreat
/- THE CELL 'sum', in the pinned program and in every row, IS THE sha256 OF THE DUMP (.gsa) THAT YtdnmhhohcedjbaaGreatProg.lean LOADS. Nothing in Lean hashes anything: it is a label: what it is worth is what the hold of that sum in a sandbox is worth. -/
noncomputable def Tryz.pinned : Pinned := { name := "ytdnmhhohcedjbaagreat", sum := "849bfa5c7c6d928ae6b9ce708e5d8fbde622f2fbc76d8cff1e31d57f4494af18", checked := Tryz.checked }
namespace Rows
def none {H : Type} : Left H := { results := [], args := [] }

/-- 'laws.FnExactEffectOf': WHATEVER THE INPUT: true; the input reads as it did. -/
def fnExactEffectOfSpec : ChangeSpec := { name := "fnExactEffectOf", fn := fun _ => fun
  | [d1, d2, d3] => { results := [.lit (.bool true)], args := [d1, d2, d3] }
  | _ => none }
def fnExactEffectOfRow : OpenClaim := { program := "ytdnmhhohcedjbaagreat", sum := "849bfa5c7c6d928ae6b9ce708e5d8fbde622f2fbc76d8cff1e31d57f4494af18", func := "loop.example/g00856/laws.FnExactEffectOf", spec := "fnExactEffectOf", unfollowed := true, recurses := true, apart := false }
def FnExactEffectOfSaid : Prop := fnExactEffectOfRow.holds Tryz.pinned (OpenSpec.ofChange fnExactEffectOfSpec)

/-- ITS FALSE NEIGHBOUR: 'it returns false'. Refute it at one input. -/
def fnExactEffectOfWrong : ChangeSpec := { name := "fnExactEffectOf", fn := fun _ => fun
  | [d1, d2, d3] => { results := [.lit (.bool false)], args := [d1, d2, d3] }
  | _ => none }
def FnExactEffectOfWrongFalsely : Prop := fnExactEffectOfRow.holds Tryz.pinned (OpenSpec.ofChange fnExactEffectOfWrong)

/-- 'laws.FnExactCountEffects': WHATEVER THE INPUT: true; the input reads as it did. -/
def fnExactCountEffectsSpec : ChangeSpec := { name := "fnExactCountEffects", fn := fun _ => fun
  | [d1, d2] => { results := [.lit (.bool true)], args := [d1, d2] }
  | _ => none }
def fnExactCountEffectsRow : OpenClaim := { program := "ytdnmhhohcedjbaagreat", sum := "849bfa5c7c6d928ae6b9ce708e5d8fbde622f2fbc76d8cff1e31d57f4494af18", func := "loop.example/g00856/laws.FnExactCountEffects", spec := "fnExactCountEffects", unfollowed := true, recurses := true, apart := false }
def FnExactCountEffectsSaid : Prop := fnExactCountEffectsRow.holds Tryz.pinned (OpenSpec.ofChange fnExactCountEffectsSpec)

/-- ITS FALSE NEIGHBOUR: 'it returns false'. Refute it at one input. -/
def fnExactCountEffectsWrong : ChangeSpec := { name := "fnExactCountEffects", fn := fun _ => fun
  | [d1, d2] => { results := [.lit (.bool false)], args := [d1, d2] }
  | _ => none }
def FnExactCountEffectsWrongFalsely : Prop := fnExactCountEffectsRow.holds Tryz.pinned (OpenSpec.ofChange fnExactCountEffectsWrong)

/-- 'laws.FnExactHarmlessFaults': WHATEVER THE INPUT: true; the input reads as it did. -/
def fnExactHarmlessFaultsSpec : ChangeSpec := { name := "fnExactHarmlessFaults", fn := fun _ => fun
  | [d1, d2] => { results := [.lit (.bool true)], args := [d1, d2] }
  | _ => none }
def fnExactHarmlessFaultsRow : OpenClaim := { program := "ytdnmhhohcedjbaagreat", sum := "849bfa5c7c6d928ae6b9ce708e5d8fbde622f2fbc76d8cff1e31d57f4494af18", func := "loop.example/g00856/laws.FnExactHarmlessFaults", spec := "fnExactHarmlessFaults", unfollowed := true, recurses := true, apart := false }
def FnExactHarmlessFaultsSaid : Prop := fnExactHarmlessFaultsRow.holds Tryz.pinned (OpenSpec.ofChange fnExactHarmlessFaultsSpec)

/-- ITS FALSE NEIGHBOUR: 'it returns false'. Refute it at one input. -/
def fnExactHarmlessFaultsWrong : ChangeSpec := { name := "fnExactHarmlessFaults", fn := fun _ => fun
  | [d1, d2] => { results := [.lit (.bool false)], args := [d1, d2] }
  | _ => none }
def FnExactHarmlessFaultsWrongFalsely : Prop := fnExactHarmlessFaultsRow.holds Tryz.pinned (OpenSpec.ofChange fnExactHarmlessFaultsWrong)

/-- 'laws.FnExactFaultsWith': WHATEVER THE INPUT: true; the input reads as it did. -/
def fnExactFaultsWithSpec : ChangeSpec := { name := "fnExactFaultsWith", fn := fun _ => fun
  | [d1, d2, d3] => { results := [.lit (.bool true)], args := [d1, d2, d3] }
  | _ => none }
def fnExactFaultsWithRow : OpenClaim := { program := "ytdnmhhohcedjbaagreat", sum := "849bfa5c7c6d928ae6b9ce708e5d8fbde622f2fbc76d8cff1e31d57f4494af18", func := "loop.example/g00856/laws.FnExactFaultsWith", spec := "fnExactFaultsWith", unfollowed := true, recurses := true, apart := false }
def FnExactFaultsWithSaid : Prop := fnExactFaultsWithRow.holds Tryz.pinned (OpenSpec.ofChange fnExactFaultsWithSpec)

/-- ITS FALSE NEIGHBOUR: 'it returns false'. Refute it at one input. -/
def fnExactFaultsWithWrong : ChangeSpec := { name := "fnExactFaultsWith", fn := fun _ => fun
  | [d1, d2, d3] => { results := [.lit (.bool false)], args := [d1, d2, d3] }
  | _ => none }
def FnExactFaultsWithWrongFalsely : Prop := fnExactFaultsWithRow.holds Tryz.pinned (OpenSpec.ofChange fnExactFaultsWithWrong)

/- THE SECOND FORM. 'bulk': how many values and letters a reading holds, each counted each time it is reached (what is shared counts as often as it is met; a slice's spare places count too). A statement '..UptoSaid' is the law's where the arguments, and the package variables that the reading takes, are together of bulk at most 1048576: NARROWER than '..Said'. Prove '..Said' where nothing that the law and all that it calls make is longer than what came in: it says more and counts as full. Else prove '..UptoSaid'. A law counts once. -/
mutual
def uptoBulk {H : Type} : DataW H → Nat
  | .lit (.string bytes) => bytes.length + 1
  | .lit _ => 1
  | .nil => 1
  | .ptr d => uptoBulk d + 1
  | .slice elems spare => uptoBulkAll elems + uptoBulkAll spare + 1
  | .agg parts => uptoBulkAll parts + 1
  | .iface _ d => uptoBulk d + 1
  | .map entries => uptoBulkEntries entries + 1
  | .held _ => 1
def uptoBulkAll {H : Type} : List (DataW H) → Nat
  | [] => 0
  | d :: r => uptoBulk d + uptoBulkAll r
def uptoBulkEntries {H : Type} : List (Lit × DataW H) → Nat
  | [] => 0
  | x :: r => uptoBulkEntry x + uptoBulkEntries r
def uptoBulkEntry {H : Type} : Lit × DataW H → Nat
  | (.string bytes, d) => bytes.length + uptoBulk d + 1
  | (_, d) => uptoBulk d + 1
 end
def uptoSmall : (H : Type) → List (DataW H) → Bool := fun _ ds => decide (uptoBulkAll ds ≤ 1048576)
def OpenSpec.upto (s : _root_.Go.ChangeSpec) : _root_.Go.OpenSpec := { _root_.Go.OpenSpec.ofChange s with cond := some uptoSmall }

/-- 'laws.FnExactEffectOf', WHERE WHAT IT READS IS OF BULK AT MOST 1048576: true; the input reads as it did. -/
def fnExactEffectOfUptoRow : OpenClaim := { program := "ytdnmhhohcedjbaagreat", sum := "849bfa5c7c6d928ae6b9ce708e5d8fbde622f2fbc76d8cff1e31d57f4494af18", func := "loop.example/g00856/laws.FnExactEffectOf", spec := "fnExactEffectOf", unfollowed := true, recurses := true, apart := false, narrowed := true }
def FnExactEffectOfUptoSaid : Prop := fnExactEffectOfUptoRow.holds Tryz.pinned (OpenSpec.upto fnExactEffectOfSpec)

/-- 'laws.FnExactCountEffects', WHERE WHAT IT READS IS OF BULK AT MOST 1048576: true; the input reads as it did. -/
def fnExactCountEffectsUptoRow : OpenClaim := { program := "ytdnmhhohcedjbaagreat", sum := "849bfa5c7c6d928ae6b9ce708e5d8fbde622f2fbc76d8cff1e31d57f4494af18", func := "loop.example/g00856/laws.FnExactCountEffects", spec := "fnExactCountEffects", unfollowed := true, recurses := true, apart := false, narrowed := true }
def FnExactCountEffectsUptoSaid : Prop := fnExactCountEffectsUptoRow.holds Tryz.pinned (OpenSpec.upto fnExactCountEffectsSpec)

/-- 'laws.FnExactHarmlessFaults', WHERE WHAT IT READS IS OF BULK AT MOST 1048576: true; the input reads as it did. -/
def fnExactHarmlessFaultsUptoRow : OpenClaim := { program := "ytdnmhhohcedjbaagreat", sum := "849bfa5c7c6d928ae6b9ce708e5d8fbde622f2fbc76d8cff1e31d57f4494af18", func := "loop.example/g00856/laws.FnExactHarmlessFaults", spec := "fnExactHarmlessFaults", unfollowed := true, recurses := true, apart := false, narrowed := true }
def FnExactHarmlessFaultsUptoSaid : Prop := fnExactHarmlessFaultsUptoRow.holds Tryz.pinned (OpenSpec.upto fnExactHarmlessFaultsSpec)

/-- 'laws.FnExactFaultsWith', WHERE WHAT IT READS IS OF BULK AT MOST 1048576: true; the input reads as it did. -/
def fnExactFaultsWithUptoRow : OpenClaim := { program := "ytdnmhhohcedjbaagreat", sum := "849bfa5c7c6d928ae6b9ce708e5d8fbde622f2fbc76d8cff1e31d57f4494af18", func := "loop.example/g00856/laws.FnExactFaultsWith", spec := "fnExactFaultsWith", unfollowed := true, recurses := true, apart := false, narrowed := true }
def FnExactFaultsWithUptoSaid : Prop := fnExactFaultsWithUptoRow.holds Tryz.pinned (OpenSpec.upto fnExactFaultsWithSpec)

end Rows
end Go.Proofs.YtdnmhhohcedjbaaGreat
