/-
  No cell of these rows narrows 'for every input' (looked for: loops, veiled, ifaces, maps, wideKeys, modest, calm, conditions, laid).
  DERIVED. THE GIVEN ROWS OF THIS SEAT. 12 by the template 'for every input the law returns true; each argument reads behind the call as it read before'; 0 by the template 'total and deterministic' (their statements: YtlpaodfkmafjjaaTotals.lean).
  GIVEN WITH THE SEED: the statements are not yours to turn. If you find one false, say at which input.
  Laid BY PROGRAM, IN A SANDBOX (cutbox-rows.mjs): the forced cells as the released guide's own fill.sh prints them over the translation 223c4154d6fa12ba… (all of the seat's roots in one cut). By AI agents, Wed Nov 11 2026. No macro, syntax, notation, axiom, sorry.
-/
import Derived.Test.YtlpaodfkmafjjaaChecked
import GoSem.Claim
import GoSem.ClaimJoined
import GoSem.ClaimMapViews
import Derived.JoinedTies
import Derived.KernelRfl
namespace Go.Proofs.Ytlpaodfkmafjjaa
/- THE CELL 'sum', in the pinned program and in every row, IS THE sha256 OF THE DUMP (.gsa) THAT YtlpaodfkmafjjaaProg.lean LOADS. Nothing in Lean hashes anything: it is a label: what it is worth is what the hold of that sum in a sandbox is worth. -/
noncomputable def Try.pinned : Pinned := { name := "ytlpaodfkmafjjaa", sum := "223c4154d6fa12ba9b38cb330c2366e1ed3bc1a14544c32a328f8c126929f6d9", checked := Try.checked }
namespace Rows
def none {H : Type} : Left H := { results := [], args := [] }

/-- 'laws.FnExactVariantEq': WHATEVER THE INPUT: true; the input reads as it did. -/
def fnExactVariantEqSpec : ChangeSpec := { name := "fnExactVariantEq", fn := fun _ => fun
  | [d1, d2, d3] => { results := [.lit (.bool true)], args := [d1, d2, d3] }
  | _ => none }
def fnExactVariantEqRow : OpenClaim := { program := "ytlpaodfkmafjjaa", sum := "223c4154d6fa12ba9b38cb330c2366e1ed3bc1a14544c32a328f8c126929f6d9", func := "loop.example/g00895/laws.FnExactVariantEq", spec := "fnExactVariantEq", unfollowed := true, recurses := true, apart := false }
def FnExactVariantEqSaid : Prop := fnExactVariantEqRow.holds Try.pinned (OpenSpec.ofChange fnExactVariantEqSpec)

/-- ITS FALSE NEIGHBOUR: 'it returns false'. Refute it at one input. -/
def fnExactVariantEqWrong : ChangeSpec := { name := "fnExactVariantEq", fn := fun _ => fun
  | [d1, d2, d3] => { results := [.lit (.bool false)], args := [d1, d2, d3] }
  | _ => none }
def FnExactVariantEqWrongFalsely : Prop := fnExactVariantEqRow.holds Try.pinned (OpenSpec.ofChange fnExactVariantEqWrong)

/-- 'laws.FnExactMoveOk': WHATEVER THE INPUT: true; the input reads as it did. -/
def fnExactMoveOkSpec : ChangeSpec := { name := "fnExactMoveOk", fn := fun _ => fun
  | [d1, d2, d3, d4] => { results := [.lit (.bool true)], args := [d1, d2, d3, d4] }
  | _ => none }
def fnExactMoveOkRow : OpenClaim := { program := "ytlpaodfkmafjjaa", sum := "223c4154d6fa12ba9b38cb330c2366e1ed3bc1a14544c32a328f8c126929f6d9", func := "loop.example/g00895/laws.FnExactMoveOk", spec := "fnExactMoveOk", unfollowed := true, recurses := true, apart := false }
def FnExactMoveOkSaid : Prop := fnExactMoveOkRow.holds Try.pinned (OpenSpec.ofChange fnExactMoveOkSpec)

/-- ITS FALSE NEIGHBOUR: 'it returns false'. Refute it at one input. -/
def fnExactMoveOkWrong : ChangeSpec := { name := "fnExactMoveOk", fn := fun _ => fun
  | [d1, d2, d3, d4] => { results := [.lit (.bool false)], args := [d1, d2, d3, d4] }
  | _ => none }
def FnExactMoveOkWrongFalsely : Prop := fnExactMoveOkRow.holds Try.pinned (OpenSpec.ofChange fnExactMoveOkWrong)

/-- 'laws.FnExactChainOk': WHATEVER THE INPUT: true; the input reads as it did. -/
def fnExactChainOkSpec : ChangeSpec := { name := "fnExactChainOk", fn := fun _ => fun
  | [d1, d2, d3] => { results := [.lit (.bool true)], args := [d1, d2, d3] }
  | _ => none }
def fnExactChainOkRow : OpenClaim := { program := "ytlpaodfkmafjjaa", sum := "223c4154d6fa12ba9b38cb330c2366e1ed3bc1a14544c32a328f8c126929f6d9", func := "loop.example/g00895/laws.FnExactChainOk", spec := "fnExactChainOk", unfollowed := true, recurses := true, apart := false }
def FnExactChainOkSaid : Prop := fnExactChainOkRow.holds Try.pinned (OpenSpec.ofChange fnExactChainOkSpec)

/-- ITS FALSE NEIGHBOUR: 'it returns false'. Refute it at one input. -/
def fnExactChainOkWrong : ChangeSpec := { name := "fnExactChainOk", fn := fun _ => fun
  | [d1, d2, d3] => { results := [.lit (.bool false)], args := [d1, d2, d3] }
  | _ => none }
def FnExactChainOkWrongFalsely : Prop := fnExactChainOkRow.holds Try.pinned (OpenSpec.ofChange fnExactChainOkWrong)

/-- 'laws.FnExactChainEnd': WHATEVER THE INPUT: true; the input reads as it did. -/
def fnExactChainEndSpec : ChangeSpec := { name := "fnExactChainEnd", fn := fun _ => fun
  | [d1, d2, d3] => { results := [.lit (.bool true)], args := [d1, d2, d3] }
  | _ => none }
def fnExactChainEndRow : OpenClaim := { program := "ytlpaodfkmafjjaa", sum := "223c4154d6fa12ba9b38cb330c2366e1ed3bc1a14544c32a328f8c126929f6d9", func := "loop.example/g00895/laws.FnExactChainEnd", spec := "fnExactChainEnd", unfollowed := true, recurses := true, apart := false }
def FnExactChainEndSaid : Prop := fnExactChainEndRow.holds Try.pinned (OpenSpec.ofChange fnExactChainEndSpec)

/-- ITS FALSE NEIGHBOUR: 'it returns false'. Refute it at one input. -/
def fnExactChainEndWrong : ChangeSpec := { name := "fnExactChainEnd", fn := fun _ => fun
  | [d1, d2, d3] => { results := [.lit (.bool false)], args := [d1, d2, d3] }
  | _ => none }
def FnExactChainEndWrongFalsely : Prop := fnExactChainEndRow.holds Try.pinned (OpenSpec.ofChange fnExactChainEndWrong)

/-- 'laws.FnExactEitherAuto': WHATEVER THE INPUT: true; the input reads as it did. -/
def fnExactEitherAutoSpec : ChangeSpec := { name := "fnExactEitherAuto", fn := fun _ => fun
  | [d1, d2, d3] => { results := [.lit (.bool true)], args := [d1, d2, d3] }
  | _ => none }
def fnExactEitherAutoRow : OpenClaim := { program := "ytlpaodfkmafjjaa", sum := "223c4154d6fa12ba9b38cb330c2366e1ed3bc1a14544c32a328f8c126929f6d9", func := "loop.example/g00895/laws.FnExactEitherAuto", spec := "fnExactEitherAuto", unfollowed := true, recurses := true, apart := false }
def FnExactEitherAutoSaid : Prop := fnExactEitherAutoRow.holds Try.pinned (OpenSpec.ofChange fnExactEitherAutoSpec)

/-- ITS FALSE NEIGHBOUR: 'it returns false'. Refute it at one input. -/
def fnExactEitherAutoWrong : ChangeSpec := { name := "fnExactEitherAuto", fn := fun _ => fun
  | [d1, d2, d3] => { results := [.lit (.bool false)], args := [d1, d2, d3] }
  | _ => none }
def FnExactEitherAutoWrongFalsely : Prop := fnExactEitherAutoRow.holds Try.pinned (OpenSpec.ofChange fnExactEitherAutoWrong)

/-- 'laws.FnExactWholeIn': WHATEVER THE INPUT: true; the input reads as it did. -/
def fnExactWholeInSpec : ChangeSpec := { name := "fnExactWholeIn", fn := fun _ => fun
  | [d1, d2] => { results := [.lit (.bool true)], args := [d1, d2] }
  | _ => none }
def fnExactWholeInRow : OpenClaim := { program := "ytlpaodfkmafjjaa", sum := "223c4154d6fa12ba9b38cb330c2366e1ed3bc1a14544c32a328f8c126929f6d9", func := "loop.example/g00895/laws.FnExactWholeIn", spec := "fnExactWholeIn", unfollowed := true, recurses := true, apart := false }
def FnExactWholeInSaid : Prop := fnExactWholeInRow.holds Try.pinned (OpenSpec.ofChange fnExactWholeInSpec)

/-- ITS FALSE NEIGHBOUR: 'it returns false'. Refute it at one input. -/
def fnExactWholeInWrong : ChangeSpec := { name := "fnExactWholeIn", fn := fun _ => fun
  | [d1, d2] => { results := [.lit (.bool false)], args := [d1, d2] }
  | _ => none }
def FnExactWholeInWrongFalsely : Prop := fnExactWholeInRow.holds Try.pinned (OpenSpec.ofChange fnExactWholeInWrong)

/-- 'laws.FnExactCountTaken': WHATEVER THE INPUT: true; the input reads as it did. -/
def fnExactCountTakenSpec : ChangeSpec := { name := "fnExactCountTaken", fn := fun _ => fun
  | [d1, d2, d3] => { results := [.lit (.bool true)], args := [d1, d2, d3] }
  | _ => none }
def fnExactCountTakenRow : OpenClaim := { program := "ytlpaodfkmafjjaa", sum := "223c4154d6fa12ba9b38cb330c2366e1ed3bc1a14544c32a328f8c126929f6d9", func := "loop.example/g00895/laws.FnExactCountTaken", spec := "fnExactCountTaken", unfollowed := true, recurses := true, apart := false }
def FnExactCountTakenSaid : Prop := fnExactCountTakenRow.holds Try.pinned (OpenSpec.ofChange fnExactCountTakenSpec)

/-- ITS FALSE NEIGHBOUR: 'it returns false'. Refute it at one input. -/
def fnExactCountTakenWrong : ChangeSpec := { name := "fnExactCountTaken", fn := fun _ => fun
  | [d1, d2, d3] => { results := [.lit (.bool false)], args := [d1, d2, d3] }
  | _ => none }
def FnExactCountTakenWrongFalsely : Prop := fnExactCountTakenRow.holds Try.pinned (OpenSpec.ofChange fnExactCountTakenWrong)

/-- 'laws.FnExactAcceptsIn': WHATEVER THE INPUT: true; the input reads as it did. -/
def fnExactAcceptsInSpec : ChangeSpec := { name := "fnExactAcceptsIn", fn := fun _ => fun
  | [d1, d2, d3] => { results := [.lit (.bool true)], args := [d1, d2, d3] }
  | _ => none }
def fnExactAcceptsInRow : OpenClaim := { program := "ytlpaodfkmafjjaa", sum := "223c4154d6fa12ba9b38cb330c2366e1ed3bc1a14544c32a328f8c126929f6d9", func := "loop.example/g00895/laws.FnExactAcceptsIn", spec := "fnExactAcceptsIn", unfollowed := true, recurses := true, apart := false }
def FnExactAcceptsInSaid : Prop := fnExactAcceptsInRow.holds Try.pinned (OpenSpec.ofChange fnExactAcceptsInSpec)

/-- ITS FALSE NEIGHBOUR: 'it returns false'. Refute it at one input. -/
def fnExactAcceptsInWrong : ChangeSpec := { name := "fnExactAcceptsIn", fn := fun _ => fun
  | [d1, d2, d3] => { results := [.lit (.bool false)], args := [d1, d2, d3] }
  | _ => none }
def FnExactAcceptsInWrongFalsely : Prop := fnExactAcceptsInRow.holds Try.pinned (OpenSpec.ofChange fnExactAcceptsInWrong)

/-- 'laws.FnExactHeldIn': WHATEVER THE INPUT: true; the input reads as it did. -/
def fnExactHeldInSpec : ChangeSpec := { name := "fnExactHeldIn", fn := fun _ => fun
  | [d1, d2, d3] => { results := [.lit (.bool true)], args := [d1, d2, d3] }
  | _ => none }
def fnExactHeldInRow : OpenClaim := { program := "ytlpaodfkmafjjaa", sum := "223c4154d6fa12ba9b38cb330c2366e1ed3bc1a14544c32a328f8c126929f6d9", func := "loop.example/g00895/laws.FnExactHeldIn", spec := "fnExactHeldIn", unfollowed := true, recurses := true, apart := false }
def FnExactHeldInSaid : Prop := fnExactHeldInRow.holds Try.pinned (OpenSpec.ofChange fnExactHeldInSpec)

/-- ITS FALSE NEIGHBOUR: 'it returns false'. Refute it at one input. -/
def fnExactHeldInWrong : ChangeSpec := { name := "fnExactHeldIn", fn := fun _ => fun
  | [d1, d2, d3] => { results := [.lit (.bool false)], args := [d1, d2, d3] }
  | _ => none }
def FnExactHeldInWrongFalsely : Prop := fnExactHeldInRow.holds Try.pinned (OpenSpec.ofChange fnExactHeldInWrong)

/-- 'laws.FnExactUnravelled': WHATEVER THE INPUT: true; the input reads as it did. -/
def fnExactUnravelledSpec : ChangeSpec := { name := "fnExactUnravelled", fn := fun _ => fun
  | [d] => { results := [.lit (.bool true)], args := [d] }
  | _ => none }
def fnExactUnravelledRow : OpenClaim := { program := "ytlpaodfkmafjjaa", sum := "223c4154d6fa12ba9b38cb330c2366e1ed3bc1a14544c32a328f8c126929f6d9", func := "loop.example/g00895/laws.FnExactUnravelled", spec := "fnExactUnravelled", unfollowed := true, recurses := true, apart := false }
def FnExactUnravelledSaid : Prop := fnExactUnravelledRow.holds Try.pinned (OpenSpec.ofChange fnExactUnravelledSpec)

/-- ITS FALSE NEIGHBOUR: 'it returns false'. Refute it at one input. -/
def fnExactUnravelledWrong : ChangeSpec := { name := "fnExactUnravelled", fn := fun _ => fun
  | [d] => { results := [.lit (.bool false)], args := [d] }
  | _ => none }
def FnExactUnravelledWrongFalsely : Prop := fnExactUnravelledRow.holds Try.pinned (OpenSpec.ofChange fnExactUnravelledWrong)

/-- 'laws.FnExactDefinedIn': WHATEVER THE INPUT: true; the input reads as it did. -/
def fnExactDefinedInSpec : ChangeSpec := { name := "fnExactDefinedIn", fn := fun _ => fun
  | [d] => { results := [.lit (.bool true)], args := [d] }
  | _ => none }
def fnExactDefinedInRow : OpenClaim := { program := "ytlpaodfkmafjjaa", sum := "223c4154d6fa12ba9b38cb330c2366e1ed3bc1a14544c32a328f8c126929f6d9", func := "loop.example/g00895/laws.FnExactDefinedIn", spec := "fnExactDefinedIn", unfollowed := true, recurses := true, apart := false }
def FnExactDefinedInSaid : Prop := fnExactDefinedInRow.holds Try.pinned (OpenSpec.ofChange fnExactDefinedInSpec)

/-- ITS FALSE NEIGHBOUR: 'it returns false'. Refute it at one input. -/
def fnExactDefinedInWrong : ChangeSpec := { name := "fnExactDefinedIn", fn := fun _ => fun
  | [d] => { results := [.lit (.bool false)], args := [d] }
  | _ => none }
def FnExactDefinedInWrongFalsely : Prop := fnExactDefinedInRow.holds Try.pinned (OpenSpec.ofChange fnExactDefinedInWrong)

/-- 'laws.FnExactConstructorsIn': WHATEVER THE INPUT: true; the input reads as it did. -/
def fnExactConstructorsInSpec : ChangeSpec := { name := "fnExactConstructorsIn", fn := fun _ => fun
  | [d] => { results := [.lit (.bool true)], args := [d] }
  | _ => none }
def fnExactConstructorsInRow : OpenClaim := { program := "ytlpaodfkmafjjaa", sum := "223c4154d6fa12ba9b38cb330c2366e1ed3bc1a14544c32a328f8c126929f6d9", func := "loop.example/g00895/laws.FnExactConstructorsIn", spec := "fnExactConstructorsIn", unfollowed := true, recurses := true, apart := false }
def FnExactConstructorsInSaid : Prop := fnExactConstructorsInRow.holds Try.pinned (OpenSpec.ofChange fnExactConstructorsInSpec)

/-- ITS FALSE NEIGHBOUR: 'it returns false'. Refute it at one input. -/
def fnExactConstructorsInWrong : ChangeSpec := { name := "fnExactConstructorsIn", fn := fun _ => fun
  | [d] => { results := [.lit (.bool false)], args := [d] }
  | _ => none }
def FnExactConstructorsInWrongFalsely : Prop := fnExactConstructorsInRow.holds Try.pinned (OpenSpec.ofChange fnExactConstructorsInWrong)

/- THE SECOND FORM. 'bulk': how many values and letters a reading holds, each counted each time it is reached (what is shared counts as often as it is met; a slice's spare places count too). A statement '..UptoSaid' is the law's where the arguments, and the package variables that the reading takes, are together of bulk at most 1048576: NARROWER than '..Said'. Prove '..Said' where nothing that the law and all that it calls make is longer than what came in: it says more and counts as full. Else prove '..UptoSaid'. A law counts once. -/
mutual
def uptoBulk {H : Type} : DataW H → Nat
  | .lit (.string bytes) => bytes.length + 1
  | .lit _ => 1
  | .nil => 1
  | .ptr d => uptoBulk d + 1
  | .slice elems spare => uptoBulkAll elems + uptoBulkAll spare + 1
  | .agg parts => uptoBulkAll parts + 1
  | .iface _ d => uptoBulk d + 1
  | .map entries => uptoBulkEntries entries + 1
  | .held _ => 1
def uptoBulkAll {H : Type} : List (DataW H) → Nat
  | [] => 0
  | d :: r => uptoBulk d + uptoBulkAll r
def uptoBulkEntries {H : Type} : List (Lit × DataW H) → Nat
  | [] => 0
  | x :: r => uptoBulkEntry x + uptoBulkEntries r
def uptoBulkEntry {H : Type} : Lit × DataW H → Nat
  | (.string bytes, d) => bytes.length + uptoBulk d + 1
  | (_, d) => uptoBulk d + 1
 end
def uptoSmall : (H : Type) → List (DataW H) → Bool := fun _ ds => decide (uptoBulkAll ds ≤ 1048576)
def OpenSpec.upto (s : _root_.Go.ChangeSpec) : _root_.Go.OpenSpec := { _root_.Go.OpenSpec.ofChange s with cond := some uptoSmall }

/-- 'laws.FnExactVariantEq', WHERE WHAT IT READS IS OF BULK AT MOST 1048576: true; the input reads as it did. -/
def fnExactVariantEqUptoRow : OpenClaim := { program := "ytlpaodfkmafjjaa", sum := "223c4154d6fa12ba9b38cb330c2366e1ed3bc1a14544c32a328f8c126929f6d9", func := "loop.example/g00895/laws.FnExactVariantEq", spec := "fnExactVariantEq", unfollowed := true, recurses := true, apart := false, narrowed := true }
def FnExactVariantEqUptoSaid : Prop := fnExactVariantEqUptoRow.holds Try.pinned (OpenSpec.upto fnExactVariantEqSpec)

/-- 'laws.FnExactMoveOk', WHERE WHAT IT READS IS OF BULK AT MOST 1048576: true; the input reads as it did. -/
def fnExactMoveOkUptoRow : OpenClaim := { program := "ytlpaodfkmafjjaa", sum := "223c4154d6fa12ba9b38cb330c2366e1ed3bc1a14544c32a328f8c126929f6d9", func := "loop.example/g00895/laws.FnExactMoveOk", spec := "fnExactMoveOk", unfollowed := true, recurses := true, apart := false, narrowed := true }
def FnExactMoveOkUptoSaid : Prop := fnExactMoveOkUptoRow.holds Try.pinned (OpenSpec.upto fnExactMoveOkSpec)

/-- 'laws.FnExactChainOk', WHERE WHAT IT READS IS OF BULK AT MOST 1048576: true; the input reads as it did. -/
def fnExactChainOkUptoRow : OpenClaim := { program := "ytlpaodfkmafjjaa", sum := "223c4154d6fa12ba9b38cb330c2366e1ed3bc1a14544c32a328f8c126929f6d9", func := "loop.example/g00895/laws.FnExactChainOk", spec := "fnExactChainOk", unfollowed := true, recurses := true, apart := false, narrowed := true }
def FnExactChainOkUptoSaid : Prop := fnExactChainOkUptoRow.holds Try.pinned (OpenSpec.upto fnExactChainOkSpec)

/-- 'laws.FnExactChainEnd', WHERE WHAT IT READS IS OF BULK AT MOST 1048576: true; the input reads as it did. -/
def fnExactChainEndUptoRow : OpenClaim := { program := "ytlpaodfkmafjjaa", sum := "223c4154d6fa12ba9b38cb330c2366e1ed3bc1a14544c32a328f8c126929f6d9", func := "loop.example/g00895/laws.FnExactChainEnd", spec := "fnExactChainEnd", unfollowed := true, recurses := true, apart := false, narrowed := true }
def FnExactChainEndUptoSaid : Prop := fnExactChainEndUptoRow.holds Try.pinned (OpenSpec.upto fnExactChainEndSpec)

/-- 'laws.FnExactEitherAuto', WHERE WHAT IT READS IS OF BULK AT MOST 1048576: true; the input reads as it did. -/
def fnExactEitherAutoUptoRow : OpenClaim := { program := "ytlpaodfkmafjjaa", sum := "223c4154d6fa12ba9b38cb330c2366e1ed3bc1a14544c32a328f8c126929f6d9", func := "loop.example/g00895/laws.FnExactEitherAuto", spec := "fnExactEitherAuto", unfollowed := true, recurses := true, apart := false, narrowed := true }
def FnExactEitherAutoUptoSaid : Prop := fnExactEitherAutoUptoRow.holds Try.pinned (OpenSpec.upto fnExactEitherAutoSpec)

/-- 'laws.FnExactWholeIn', WHERE WHAT IT READS IS OF BULK AT MOST 1048576: true; the input reads as it did. -/
def fnExactWholeInUptoRow : OpenClaim := { program := "ytlpaodfkmafjjaa", sum := "223c4154d6fa12ba9b38cb330c2366e1ed3bc1a14544c32a328f8c126929f6d9", func := "loop.example/g00895/laws.FnExactWholeIn", spec := "fnExactWholeIn", unfollowed := true, recurses := true, apart := false, narrowed := true }
def FnExactWholeInUptoSaid : Prop := fnExactWholeInUptoRow.holds Try.pinned (OpenSpec.upto fnExactWholeInSpec)

/-- 'laws.FnExactCountTaken', WHERE WHAT IT READS IS OF BULK AT MOST 1048576: true; the input reads as it did. -/
def fnExactCountTakenUptoRow : OpenClaim := { program := "ytlpaodfkmafjjaa", sum := "223c4154d6fa12ba9b38cb330c2366e1ed3bc1a14544c32a328f8c126929f6d9", func := "loop.example/g00895/laws.FnExactCountTaken", spec := "fnExactCountTaken", unfollowed := true, recurses := true, apart := false, narrowed := true }
def FnExactCountTakenUptoSaid : Prop := fnExactCountTakenUptoRow.holds Try.pinned (OpenSpec.upto fnExactCountTakenSpec)

/-- 'laws.FnExactAcceptsIn', WHERE WHAT IT READS IS OF BULK AT MOST 1048576: true; the input reads as it did. -/
def fnExactAcceptsInUptoRow : OpenClaim := { program := "ytlpaodfkmafjjaa", sum := "223c4154d6fa12ba9b38cb330c2366e1ed3bc1a14544c32a328f8c126929f6d9", func := "loop.example/g00895/laws.FnExactAcceptsIn", spec := "fnExactAcceptsIn", unfollowed := true, recurses := true, apart := false, narrowed := true }
def FnExactAcceptsInUptoSaid : Prop := fnExactAcceptsInUptoRow.holds Try.pinned (OpenSpec.upto fnExactAcceptsInSpec)

/-- 'laws.FnExactHeldIn', WHERE WHAT IT READS IS OF BULK AT MOST 1048576: true; the input reads as it did. -/
def fnExactHeldInUptoRow : OpenClaim := { program := "ytlpaodfkmafjjaa", sum := "223c4154d6fa12ba9b38cb330c2366e1ed3bc1a14544c32a328f8c126929f6d9", func := "loop.example/g00895/laws.FnExactHeldIn", spec := "fnExactHeldIn", unfollowed := true, recurses := true, apart := false, narrowed := true }
def FnExactHeldInUptoSaid : Prop := fnExactHeldInUptoRow.holds Try.pinned (OpenSpec.upto fnExactHeldInSpec)

/-- 'laws.FnExactUnravelled', WHERE WHAT IT READS IS OF BULK AT MOST 1048576: true; the input reads as it did. -/
def fnExactUnravelledUptoRow : OpenClaim := { program := "ytlpaodfkmafjjaa", sum := "223c4154d6fa12ba9b38cb330c2366e1ed3bc1a14544c32a328f8c126929f6d9", func := "loop.example/g00895/laws.FnExactUnravelled", spec := "fnExactUnravelled", unfollowed := true, recurses := true, apart := false, narrowed := true }
def FnExactUnravelledUptoSaid : Prop := fnExactUnravelledUptoRow.holds Try.pinned (OpenSpec.upto fnExactUnravelledSpec)

/-- 'laws.FnExactDefinedIn', WHERE WHAT IT READS IS OF BULK AT MOST 1048576: true; the input reads as it did. -/
def fnExactDefinedInUptoRow : OpenClaim := { program := "ytlpaodfkmafjjaa", sum := "223c4154d6fa12ba9b38cb330c2366e1ed3bc1a14544c32a328f8c126929f6d9", func := "loop.example/g00895/laws.FnExactDefinedIn", spec := "fnExactDefinedIn", unfollowed := true, recurses := true, apart := false, narrowed := true }
def FnExactDefinedInUptoSaid : Prop := fnExactDefinedInUptoRow.holds Try.pinned (OpenSpec.upto fnExactDefinedInSpec)

/-- 'laws.FnExactConstructorsIn', WHERE WHAT IT READS IS OF BULK AT MOST 1048576: true; the input reads as it did. -/
def fnExactConstructorsInUptoRow : OpenClaim := { program := "ytlpaodfkmafjjaa", sum := "223c4154d6fa12ba9b38cb330c2366e1ed3bc1a14544c32a328f8c126929f6d9", func := "loop.example/g00895/laws.FnExactConstructorsIn", spec := "fnExactConstructorsIn", unfollowed := true, recurses := true, apart := false, narrowed := true }
def FnExactConstructorsInUptoSaid : Prop := fnExactConstructorsInUptoRow.holds Try.pinned (OpenSpec.upto fnExactConstructorsInSpec)

end Rows
end Go.Proofs.Ytlpaodfkmafjjaa
