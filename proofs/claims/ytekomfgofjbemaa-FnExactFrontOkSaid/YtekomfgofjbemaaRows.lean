/-
  No cell of these rows narrows 'for every input' (looked for: loops, veiled, ifaces, maps, wideKeys, modest, calm, conditions, laid).
  DERIVED. THE GIVEN ROWS OF THIS SEAT. 12 by the template 'for every input the law returns true; each argument reads behind the call as it read before'; 0 by the template 'total and deterministic' (their statements: YtekomfgofjbemaaTotals.lean).
  GIVEN WITH THE SEED: the statements are not yours to turn. If you find one false, say at which input.
  Laid BY PROGRAM, IN A SANDBOX (cutbox-rows.mjs): the forced cells as the released guide's own fill.sh prints them over the translation d856ec23854f7fe7… (all of the seat's roots in one cut). By AI agents, Wed Nov 11 2026. No macro, syntax, notation, axiom, sorry.
-/
import Derived.Test.YtekomfgofjbemaaChecked
import GoSem.Claim
import GoSem.ClaimJoined
import GoSem.ClaimMapViews
import Derived.JoinedTies
import Derived.KernelRfl
namespace Go.Proofs.Ytekomfgofjbemaa
/- THE CELL 'sum', in the pinned program and in every row, IS THE sha256 OF THE DUMP (.gsa) THAT YtekomfgofjbemaaProg.lean LOADS. Nothing in Lean hashes anything: it is a label: what it is worth is what the hold of that sum in a sandbox is worth. -/
noncomputable def Try.pinned : Pinned := { name := "ytekomfgofjbemaa", sum := "d856ec23854f7fe724357206b8861c7d0942d33839d8dd67e2e1566087e8fb0e", checked := Try.checked }
namespace Rows
def none {H : Type} : Left H := { results := [], args := [] }

/-- 'laws.FnExactAutoOk': WHATEVER THE INPUT: true; the input reads as it did. -/
def fnExactAutoOkSpec : ChangeSpec := { name := "fnExactAutoOk", fn := fun _ => fun
  | [d1, d2] => { results := [.lit (.bool true)], args := [d1, d2] }
  | _ => none }
def fnExactAutoOkRow : OpenClaim := { program := "ytekomfgofjbemaa", sum := "d856ec23854f7fe724357206b8861c7d0942d33839d8dd67e2e1566087e8fb0e", func := "loop.example/g00895/laws.FnExactAutoOk", spec := "fnExactAutoOk", unfollowed := true, recurses := true, apart := false }
def FnExactAutoOkSaid : Prop := fnExactAutoOkRow.holds Try.pinned (OpenSpec.ofChange fnExactAutoOkSpec)

/-- ITS FALSE NEIGHBOUR: 'it returns false'. Refute it at one input. -/
def fnExactAutoOkWrong : ChangeSpec := { name := "fnExactAutoOk", fn := fun _ => fun
  | [d1, d2] => { results := [.lit (.bool false)], args := [d1, d2] }
  | _ => none }
def FnExactAutoOkWrongFalsely : Prop := fnExactAutoOkRow.holds Try.pinned (OpenSpec.ofChange fnExactAutoOkWrong)

/-- 'laws.FnExactSureIn': WHATEVER THE INPUT: true; the input reads as it did. -/
def fnExactSureInSpec : ChangeSpec := { name := "fnExactSureIn", fn := fun _ => fun
  | [d1, d2] => { results := [.lit (.bool true)], args := [d1, d2] }
  | _ => none }
def fnExactSureInRow : OpenClaim := { program := "ytekomfgofjbemaa", sum := "d856ec23854f7fe724357206b8861c7d0942d33839d8dd67e2e1566087e8fb0e", func := "loop.example/g00895/laws.FnExactSureIn", spec := "fnExactSureIn", unfollowed := true, recurses := true, apart := false }
def FnExactSureInSaid : Prop := fnExactSureInRow.holds Try.pinned (OpenSpec.ofChange fnExactSureInSpec)

/-- ITS FALSE NEIGHBOUR: 'it returns false'. Refute it at one input. -/
def fnExactSureInWrong : ChangeSpec := { name := "fnExactSureIn", fn := fun _ => fun
  | [d1, d2] => { results := [.lit (.bool false)], args := [d1, d2] }
  | _ => none }
def FnExactSureInWrongFalsely : Prop := fnExactSureInRow.holds Try.pinned (OpenSpec.ofChange fnExactSureInWrong)

/-- 'laws.FnExactCRuleOk': WHATEVER THE INPUT: true; the input reads as it did. -/
def fnExactCRuleOkSpec : ChangeSpec := { name := "fnExactCRuleOk", fn := fun _ => fun
  | [d1, d2] => { results := [.lit (.bool true)], args := [d1, d2] }
  | _ => none }
def fnExactCRuleOkRow : OpenClaim := { program := "ytekomfgofjbemaa", sum := "d856ec23854f7fe724357206b8861c7d0942d33839d8dd67e2e1566087e8fb0e", func := "loop.example/g00895/laws.FnExactCRuleOk", spec := "fnExactCRuleOk", unfollowed := true, recurses := true, apart := false }
def FnExactCRuleOkSaid : Prop := fnExactCRuleOkRow.holds Try.pinned (OpenSpec.ofChange fnExactCRuleOkSpec)

/-- ITS FALSE NEIGHBOUR: 'it returns false'. Refute it at one input. -/
def fnExactCRuleOkWrong : ChangeSpec := { name := "fnExactCRuleOk", fn := fun _ => fun
  | [d1, d2] => { results := [.lit (.bool false)], args := [d1, d2] }
  | _ => none }
def FnExactCRuleOkWrongFalsely : Prop := fnExactCRuleOkRow.holds Try.pinned (OpenSpec.ofChange fnExactCRuleOkWrong)

/-- 'laws.FnExactCSystemOk': WHATEVER THE INPUT: true; the input reads as it did. -/
def fnExactCSystemOkSpec : ChangeSpec := { name := "fnExactCSystemOk", fn := fun _ => fun
  | [d] => { results := [.lit (.bool true)], args := [d] }
  | _ => none }
def fnExactCSystemOkRow : OpenClaim := { program := "ytekomfgofjbemaa", sum := "d856ec23854f7fe724357206b8861c7d0942d33839d8dd67e2e1566087e8fb0e", func := "loop.example/g00895/laws.FnExactCSystemOk", spec := "fnExactCSystemOk", unfollowed := true, recurses := true, apart := false }
def FnExactCSystemOkSaid : Prop := fnExactCSystemOkRow.holds Try.pinned (OpenSpec.ofChange fnExactCSystemOkSpec)

/-- ITS FALSE NEIGHBOUR: 'it returns false'. Refute it at one input. -/
def fnExactCSystemOkWrong : ChangeSpec := { name := "fnExactCSystemOk", fn := fun _ => fun
  | [d] => { results := [.lit (.bool false)], args := [d] }
  | _ => none }
def FnExactCSystemOkWrongFalsely : Prop := fnExactCSystemOkRow.holds Try.pinned (OpenSpec.ofChange fnExactCSystemOkWrong)

/-- 'laws.FnExactFrontOk': WHATEVER THE INPUT: true; the input reads as it did. -/
def fnExactFrontOkSpec : ChangeSpec := { name := "fnExactFrontOk", fn := fun _ => fun
  | [d] => { results := [.lit (.bool true)], args := [d] }
  | _ => none }
def fnExactFrontOkRow : OpenClaim := { program := "ytekomfgofjbemaa", sum := "d856ec23854f7fe724357206b8861c7d0942d33839d8dd67e2e1566087e8fb0e", func := "loop.example/g00895/laws.FnExactFrontOk", spec := "fnExactFrontOk", unfollowed := true, recurses := true, apart := false }
def FnExactFrontOkSaid : Prop := fnExactFrontOkRow.holds Try.pinned (OpenSpec.ofChange fnExactFrontOkSpec)

/-- ITS FALSE NEIGHBOUR: 'it returns false'. Refute it at one input. -/
def fnExactFrontOkWrong : ChangeSpec := { name := "fnExactFrontOk", fn := fun _ => fun
  | [d] => { results := [.lit (.bool false)], args := [d] }
  | _ => none }
def FnExactFrontOkWrongFalsely : Prop := fnExactFrontOkRow.holds Try.pinned (OpenSpec.ofChange fnExactFrontOkWrong)

/-- 'laws.FnExactVariantEq': WHATEVER THE INPUT: true; the input reads as it did. -/
def fnExactVariantEqSpec : ChangeSpec := { name := "fnExactVariantEq", fn := fun _ => fun
  | [d1, d2, d3] => { results := [.lit (.bool true)], args := [d1, d2, d3] }
  | _ => none }
def fnExactVariantEqRow : OpenClaim := { program := "ytekomfgofjbemaa", sum := "d856ec23854f7fe724357206b8861c7d0942d33839d8dd67e2e1566087e8fb0e", func := "loop.example/g00895/laws.FnExactVariantEq", spec := "fnExactVariantEq", unfollowed := true, recurses := true, apart := false }
def FnExactVariantEqSaid : Prop := fnExactVariantEqRow.holds Try.pinned (OpenSpec.ofChange fnExactVariantEqSpec)

/-- ITS FALSE NEIGHBOUR: 'it returns false'. Refute it at one input. -/
def fnExactVariantEqWrong : ChangeSpec := { name := "fnExactVariantEq", fn := fun _ => fun
  | [d1, d2, d3] => { results := [.lit (.bool false)], args := [d1, d2, d3] }
  | _ => none }
def FnExactVariantEqWrongFalsely : Prop := fnExactVariantEqRow.holds Try.pinned (OpenSpec.ofChange fnExactVariantEqWrong)

/-- 'laws.FnExactMoveOk': WHATEVER THE INPUT: true; the input reads as it did. -/
def fnExactMoveOkSpec : ChangeSpec := { name := "fnExactMoveOk", fn := fun _ => fun
  | [d1, d2, d3, d4] => { results := [.lit (.bool true)], args := [d1, d2, d3, d4] }
  | _ => none }
def fnExactMoveOkRow : OpenClaim := { program := "ytekomfgofjbemaa", sum := "d856ec23854f7fe724357206b8861c7d0942d33839d8dd67e2e1566087e8fb0e", func := "loop.example/g00895/laws.FnExactMoveOk", spec := "fnExactMoveOk", unfollowed := true, recurses := true, apart := false }
def FnExactMoveOkSaid : Prop := fnExactMoveOkRow.holds Try.pinned (OpenSpec.ofChange fnExactMoveOkSpec)

/-- ITS FALSE NEIGHBOUR: 'it returns false'. Refute it at one input. -/
def fnExactMoveOkWrong : ChangeSpec := { name := "fnExactMoveOk", fn := fun _ => fun
  | [d1, d2, d3, d4] => { results := [.lit (.bool false)], args := [d1, d2, d3, d4] }
  | _ => none }
def FnExactMoveOkWrongFalsely : Prop := fnExactMoveOkRow.holds Try.pinned (OpenSpec.ofChange fnExactMoveOkWrong)

/-- 'laws.FnExactChainOk': WHATEVER THE INPUT: true; the input reads as it did. -/
def fnExactChainOkSpec : ChangeSpec := { name := "fnExactChainOk", fn := fun _ => fun
  | [d1, d2, d3] => { results := [.lit (.bool true)], args := [d1, d2, d3] }
  | _ => none }
def fnExactChainOkRow : OpenClaim := { program := "ytekomfgofjbemaa", sum := "d856ec23854f7fe724357206b8861c7d0942d33839d8dd67e2e1566087e8fb0e", func := "loop.example/g00895/laws.FnExactChainOk", spec := "fnExactChainOk", unfollowed := true, recurses := true, apart := false }
def FnExactChainOkSaid : Prop := fnExactChainOkRow.holds Try.pinned (OpenSpec.ofChange fnExactChainOkSpec)

/-- ITS FALSE NEIGHBOUR: 'it returns false'. Refute it at one input. -/
def fnExactChainOkWrong : ChangeSpec := { name := "fnExactChainOk", fn := fun _ => fun
  | [d1, d2, d3] => { results := [.lit (.bool false)], args := [d1, d2, d3] }
  | _ => none }
def FnExactChainOkWrongFalsely : Prop := fnExactChainOkRow.holds Try.pinned (OpenSpec.ofChange fnExactChainOkWrong)

/-- 'laws.FnExactAcceptsIn': WHATEVER THE INPUT: true; the input reads as it did. -/
def fnExactAcceptsInSpec : ChangeSpec := { name := "fnExactAcceptsIn", fn := fun _ => fun
  | [d1, d2, d3] => { results := [.lit (.bool true)], args := [d1, d2, d3] }
  | _ => none }
def fnExactAcceptsInRow : OpenClaim := { program := "ytekomfgofjbemaa", sum := "d856ec23854f7fe724357206b8861c7d0942d33839d8dd67e2e1566087e8fb0e", func := "loop.example/g00895/laws.FnExactAcceptsIn", spec := "fnExactAcceptsIn", unfollowed := true, recurses := true, apart := false }
def FnExactAcceptsInSaid : Prop := fnExactAcceptsInRow.holds Try.pinned (OpenSpec.ofChange fnExactAcceptsInSpec)

/-- ITS FALSE NEIGHBOUR: 'it returns false'. Refute it at one input. -/
def fnExactAcceptsInWrong : ChangeSpec := { name := "fnExactAcceptsIn", fn := fun _ => fun
  | [d1, d2, d3] => { results := [.lit (.bool false)], args := [d1, d2, d3] }
  | _ => none }
def FnExactAcceptsInWrongFalsely : Prop := fnExactAcceptsInRow.holds Try.pinned (OpenSpec.ofChange fnExactAcceptsInWrong)

/-- 'laws.FnExactWholeIn': WHATEVER THE INPUT: true; the input reads as it did. -/
def fnExactWholeInSpec : ChangeSpec := { name := "fnExactWholeIn", fn := fun _ => fun
  | [d1, d2] => { results := [.lit (.bool true)], args := [d1, d2] }
  | _ => none }
def fnExactWholeInRow : OpenClaim := { program := "ytekomfgofjbemaa", sum := "d856ec23854f7fe724357206b8861c7d0942d33839d8dd67e2e1566087e8fb0e", func := "loop.example/g00895/laws.FnExactWholeIn", spec := "fnExactWholeIn", unfollowed := true, recurses := true, apart := false }
def FnExactWholeInSaid : Prop := fnExactWholeInRow.holds Try.pinned (OpenSpec.ofChange fnExactWholeInSpec)

/-- ITS FALSE NEIGHBOUR: 'it returns false'. Refute it at one input. -/
def fnExactWholeInWrong : ChangeSpec := { name := "fnExactWholeIn", fn := fun _ => fun
  | [d1, d2] => { results := [.lit (.bool false)], args := [d1, d2] }
  | _ => none }
def FnExactWholeInWrongFalsely : Prop := fnExactWholeInRow.holds Try.pinned (OpenSpec.ofChange fnExactWholeInWrong)

/-- 'laws.FnExactCountTaken': WHATEVER THE INPUT: true; the input reads as it did. -/
def fnExactCountTakenSpec : ChangeSpec := { name := "fnExactCountTaken", fn := fun _ => fun
  | [d1, d2, d3] => { results := [.lit (.bool true)], args := [d1, d2, d3] }
  | _ => none }
def fnExactCountTakenRow : OpenClaim := { program := "ytekomfgofjbemaa", sum := "d856ec23854f7fe724357206b8861c7d0942d33839d8dd67e2e1566087e8fb0e", func := "loop.example/g00895/laws.FnExactCountTaken", spec := "fnExactCountTaken", unfollowed := true, recurses := true, apart := false }
def FnExactCountTakenSaid : Prop := fnExactCountTakenRow.holds Try.pinned (OpenSpec.ofChange fnExactCountTakenSpec)

/-- ITS FALSE NEIGHBOUR: 'it returns false'. Refute it at one input. -/
def fnExactCountTakenWrong : ChangeSpec := { name := "fnExactCountTaken", fn := fun _ => fun
  | [d1, d2, d3] => { results := [.lit (.bool false)], args := [d1, d2, d3] }
  | _ => none }
def FnExactCountTakenWrongFalsely : Prop := fnExactCountTakenRow.holds Try.pinned (OpenSpec.ofChange fnExactCountTakenWrong)

/-- 'laws.FnVariants': WHATEVER THE INPUT: true; the input reads as it did. -/
def fnVariantsSpec : ChangeSpec := { name := "fnVariants", fn := fun _ => fun
  | [d] => { results := [.lit (.bool true)], args := [d] }
  | _ => none }
def fnVariantsRow : OpenClaim := { program := "ytekomfgofjbemaa", sum := "d856ec23854f7fe724357206b8861c7d0942d33839d8dd67e2e1566087e8fb0e", func := "loop.example/g00895/laws.FnVariants", spec := "fnVariants", unfollowed := true, recurses := true, apart := false }
def FnVariantsSaid : Prop := fnVariantsRow.holds Try.pinned (OpenSpec.ofChange fnVariantsSpec)

/-- ITS FALSE NEIGHBOUR: 'it returns false'. Refute it at one input. -/
def fnVariantsWrong : ChangeSpec := { name := "fnVariants", fn := fun _ => fun
  | [d] => { results := [.lit (.bool false)], args := [d] }
  | _ => none }
def FnVariantsWrongFalsely : Prop := fnVariantsRow.holds Try.pinned (OpenSpec.ofChange fnVariantsWrong)

/- THE SECOND FORM. 'bulk': how many values and letters a reading holds, each counted each time it is reached (what is shared counts as often as it is met; a slice's spare places count too). A statement '..UptoSaid' is the law's where the arguments, and the package variables that the reading takes, are together of bulk at most 1048576: NARROWER than '..Said'. Prove '..Said' where nothing that the law and all that it calls make is longer than what came in: it says more and counts as full. Else prove '..UptoSaid'. A law counts once. -/
mutual
def uptoBulk {H : Type} : DataW H → Nat
  | .lit (.string bytes) => bytes.length + 1
  | .lit _ => 1
  | .nil => 1
  | .ptr d => uptoBulk d + 1
  | .slice elems spare => uptoBulkAll elems + uptoBulkAll spare + 1
  | .agg parts => uptoBulkAll parts + 1
  | .iface _ d => uptoBulk d + 1
  | .map entries => uptoBulkEntries entries + 1
  | .held _ => 1
def uptoBulkAll {H : Type} : List (DataW H) → Nat
  | [] => 0
  | d :: r => uptoBulk d + uptoBulkAll r
def uptoBulkEntries {H : Type} : List (Lit × DataW H) → Nat
  | [] => 0
  | x :: r => uptoBulkEntry x + uptoBulkEntries r
def uptoBulkEntry {H : Type} : Lit × DataW H → Nat
  | (.string bytes, d) => bytes.length + uptoBulk d + 1
  | (_, d) => uptoBulk d + 1
 end
def uptoSmall : (H : Type) → List (DataW H) → Bool := fun _ ds => decide (uptoBulkAll ds ≤ 1048576)
def OpenSpec.upto (s : _root_.Go.ChangeSpec) : _root_.Go.OpenSpec := { _root_.Go.OpenSpec.ofChange s with cond := some uptoSmall }

/-- 'laws.FnExactAutoOk', WHERE WHAT IT READS IS OF BULK AT MOST 1048576: true; the input reads as it did. -/
def fnExactAutoOkUptoRow : OpenClaim := { program := "ytekomfgofjbemaa", sum := "d856ec23854f7fe724357206b8861c7d0942d33839d8dd67e2e1566087e8fb0e", func := "loop.example/g00895/laws.FnExactAutoOk", spec := "fnExactAutoOk", unfollowed := true, recurses := true, apart := false, narrowed := true }
def FnExactAutoOkUptoSaid : Prop := fnExactAutoOkUptoRow.holds Try.pinned (OpenSpec.upto fnExactAutoOkSpec)

/-- 'laws.FnExactSureIn', WHERE WHAT IT READS IS OF BULK AT MOST 1048576: true; the input reads as it did. -/
def fnExactSureInUptoRow : OpenClaim := { program := "ytekomfgofjbemaa", sum := "d856ec23854f7fe724357206b8861c7d0942d33839d8dd67e2e1566087e8fb0e", func := "loop.example/g00895/laws.FnExactSureIn", spec := "fnExactSureIn", unfollowed := true, recurses := true, apart := false, narrowed := true }
def FnExactSureInUptoSaid : Prop := fnExactSureInUptoRow.holds Try.pinned (OpenSpec.upto fnExactSureInSpec)

/-- 'laws.FnExactCRuleOk', WHERE WHAT IT READS IS OF BULK AT MOST 1048576: true; the input reads as it did. -/
def fnExactCRuleOkUptoRow : OpenClaim := { program := "ytekomfgofjbemaa", sum := "d856ec23854f7fe724357206b8861c7d0942d33839d8dd67e2e1566087e8fb0e", func := "loop.example/g00895/laws.FnExactCRuleOk", spec := "fnExactCRuleOk", unfollowed := true, recurses := true, apart := false, narrowed := true }
def FnExactCRuleOkUptoSaid : Prop := fnExactCRuleOkUptoRow.holds Try.pinned (OpenSpec.upto fnExactCRuleOkSpec)

/-- 'laws.FnExactCSystemOk', WHERE WHAT IT READS IS OF BULK AT MOST 1048576: true; the input reads as it did. -/
def fnExactCSystemOkUptoRow : OpenClaim := { program := "ytekomfgofjbemaa", sum := "d856ec23854f7fe724357206b8861c7d0942d33839d8dd67e2e1566087e8fb0e", func := "loop.example/g00895/laws.FnExactCSystemOk", spec := "fnExactCSystemOk", unfollowed := true, recurses := true, apart := false, narrowed := true }
def FnExactCSystemOkUptoSaid : Prop := fnExactCSystemOkUptoRow.holds Try.pinned (OpenSpec.upto fnExactCSystemOkSpec)

/-- 'laws.FnExactFrontOk', WHERE WHAT IT READS IS OF BULK AT MOST 1048576: true; the input reads as it did. -/
def fnExactFrontOkUptoRow : OpenClaim := { program := "ytekomfgofjbemaa", sum := "d856ec23854f7fe724357206b8861c7d0942d33839d8dd67e2e1566087e8fb0e", func := "loop.example/g00895/laws.FnExactFrontOk", spec := "fnExactFrontOk", unfollowed := true, recurses := true, apart := false, narrowed := true }
def FnExactFrontOkUptoSaid : Prop := fnExactFrontOkUptoRow.holds Try.pinned (OpenSpec.upto fnExactFrontOkSpec)

/-- 'laws.FnExactVariantEq', WHERE WHAT IT READS IS OF BULK AT MOST 1048576: true; the input reads as it did. -/
def fnExactVariantEqUptoRow : OpenClaim := { program := "ytekomfgofjbemaa", sum := "d856ec23854f7fe724357206b8861c7d0942d33839d8dd67e2e1566087e8fb0e", func := "loop.example/g00895/laws.FnExactVariantEq", spec := "fnExactVariantEq", unfollowed := true, recurses := true, apart := false, narrowed := true }
def FnExactVariantEqUptoSaid : Prop := fnExactVariantEqUptoRow.holds Try.pinned (OpenSpec.upto fnExactVariantEqSpec)

/-- 'laws.FnExactMoveOk', WHERE WHAT IT READS IS OF BULK AT MOST 1048576: true; the input reads as it did. -/
def fnExactMoveOkUptoRow : OpenClaim := { program := "ytekomfgofjbemaa", sum := "d856ec23854f7fe724357206b8861c7d0942d33839d8dd67e2e1566087e8fb0e", func := "loop.example/g00895/laws.FnExactMoveOk", spec := "fnExactMoveOk", unfollowed := true, recurses := true, apart := false, narrowed := true }
def FnExactMoveOkUptoSaid : Prop := fnExactMoveOkUptoRow.holds Try.pinned (OpenSpec.upto fnExactMoveOkSpec)

/-- 'laws.FnExactChainOk', WHERE WHAT IT READS IS OF BULK AT MOST 1048576: true; the input reads as it did. -/
def fnExactChainOkUptoRow : OpenClaim := { program := "ytekomfgofjbemaa", sum := "d856ec23854f7fe724357206b8861c7d0942d33839d8dd67e2e1566087e8fb0e", func := "loop.example/g00895/laws.FnExactChainOk", spec := "fnExactChainOk", unfollowed := true, recurses := true, apart := false, narrowed := true }
def FnExactChainOkUptoSaid : Prop := fnExactChainOkUptoRow.holds Try.pinned (OpenSpec.upto fnExactChainOkSpec)

/-- 'laws.FnExactAcceptsIn', WHERE WHAT IT READS IS OF BULK AT MOST 1048576: true; the input reads as it did. -/
def fnExactAcceptsInUptoRow : OpenClaim := { program := "ytekomfgofjbemaa", sum := "d856ec23854f7fe724357206b8861c7d0942d33839d8dd67e2e1566087e8fb0e", func := "loop.example/g00895/laws.FnExactAcceptsIn", spec := "fnExactAcceptsIn", unfollowed := true, recurses := true, apart := false, narrowed := true }
def FnExactAcceptsInUptoSaid : Prop := fnExactAcceptsInUptoRow.holds Try.pinned (OpenSpec.upto fnExactAcceptsInSpec)

/-- 'laws.FnExactWholeIn', WHERE WHAT IT READS IS OF BULK AT MOST 1048576: true; the input reads as it did. -/
def fnExactWholeInUptoRow : OpenClaim := { program := "ytekomfgofjbemaa", sum := "d856ec23854f7fe724357206b8861c7d0942d33839d8dd67e2e1566087e8fb0e", func := "loop.example/g00895/laws.FnExactWholeIn", spec := "fnExactWholeIn", unfollowed := true, recurses := true, apart := false, narrowed := true }
def FnExactWholeInUptoSaid : Prop := fnExactWholeInUptoRow.holds Try.pinned (OpenSpec.upto fnExactWholeInSpec)

/-- 'laws.FnExactCountTaken', WHERE WHAT IT READS IS OF BULK AT MOST 1048576: true; the input reads as it did. -/
def fnExactCountTakenUptoRow : OpenClaim := { program := "ytekomfgofjbemaa", sum := "d856ec23854f7fe724357206b8861c7d0942d33839d8dd67e2e1566087e8fb0e", func := "loop.example/g00895/laws.FnExactCountTaken", spec := "fnExactCountTaken", unfollowed := true, recurses := true, apart := false, narrowed := true }
def FnExactCountTakenUptoSaid : Prop := fnExactCountTakenUptoRow.holds Try.pinned (OpenSpec.upto fnExactCountTakenSpec)

/-- 'laws.FnVariants', WHERE WHAT IT READS IS OF BULK AT MOST 1048576: true; the input reads as it did. -/
def fnVariantsUptoRow : OpenClaim := { program := "ytekomfgofjbemaa", sum := "d856ec23854f7fe724357206b8861c7d0942d33839d8dd67e2e1566087e8fb0e", func := "loop.example/g00895/laws.FnVariants", spec := "fnVariants", unfollowed := true, recurses := true, apart := false, narrowed := true }
def FnVariantsUptoSaid : Prop := fnVariantsUptoRow.holds Try.pinned (OpenSpec.upto fnVariantsSpec)

end Rows
end Go.Proofs.Ytekomfgofjbemaa
