/-
  No cell of these rows narrows 'for every input' (looked for: loops, veiled, ifaces, maps, wideKeys, modest, calm, conditions, laid).
  DERIVED. THE GIVEN ROWS OF THIS SEAT. 12 by the template 'for every input the law returns true; each argument reads behind the call as it read before'; 0 by the template 'total and deterministic' (their statements: YtenjmepbaajkjaaTotals.lean).
  GIVEN WITH THE SEED: the statements are not yours to turn. If you find one false, say at which input.
  Laid BY PROGRAM, IN A SANDBOX (cutbox-rows.mjs): the forced cells as the released guide's own fill.sh prints them over the translation 890afaa28e76909d… (all of the seat's roots in one cut). By AI agents, Wed Nov 11 2026. No macro, syntax, notation, axiom, sorry.
-/
import Derived.Test.YtenjmepbaajkjaaChecked
import GoSem.Claim
import GoSem.ClaimJoined
import GoSem.ClaimMapViews
import Derived.JoinedTies
import Derived.KernelRfl
namespace Go.Proofs.Ytenjmepbaajkjaa
/- THE CELL 'sum', in the pinned program and in every row, IS THE sha256 OF THE DUMP (.gsa) THAT YtenjmepbaajkjaaProg.lean LOADS. Nothing in Lean hashes anything: it is a label: what it is worth is what the hold of that sum in a sandbox is worth. -/
noncomputable def Try.pinned : Pinned := { name := "ytenjmepbaajkjaa", sum := "890afaa28e76909d1fd39cc57319def8cbab58ed90f42b4fe15216a1c5814b6e", checked := Try.checked }
namespace Rows
def none {H : Type} : Left H := { results := [], args := [] }

/-- 'laws.FnExactChainOk': WHATEVER THE INPUT: true; the input reads as it did. -/
def fnExactChainOkSpec : ChangeSpec := { name := "fnExactChainOk", fn := fun _ => fun
  | [d1, d2, d3] => { results := [.lit (.bool true)], args := [d1, d2, d3] }
  | _ => none }
def fnExactChainOkRow : OpenClaim := { program := "ytenjmepbaajkjaa", sum := "890afaa28e76909d1fd39cc57319def8cbab58ed90f42b4fe15216a1c5814b6e", func := "loop.example/g00895/laws.FnExactChainOk", spec := "fnExactChainOk", unfollowed := true, recurses := true, apart := false }
def FnExactChainOkSaid : Prop := fnExactChainOkRow.holds Try.pinned (OpenSpec.ofChange fnExactChainOkSpec)

/-- ITS FALSE NEIGHBOUR: 'it returns false'. Refute it at one input. -/
def fnExactChainOkWrong : ChangeSpec := { name := "fnExactChainOk", fn := fun _ => fun
  | [d1, d2, d3] => { results := [.lit (.bool false)], args := [d1, d2, d3] }
  | _ => none }
def FnExactChainOkWrongFalsely : Prop := fnExactChainOkRow.holds Try.pinned (OpenSpec.ofChange fnExactChainOkWrong)

/-- 'laws.FnExactHeldIn': WHATEVER THE INPUT: true; the input reads as it did. -/
def fnExactHeldInSpec : ChangeSpec := { name := "fnExactHeldIn", fn := fun _ => fun
  | [d1, d2, d3] => { results := [.lit (.bool true)], args := [d1, d2, d3] }
  | _ => none }
def fnExactHeldInRow : OpenClaim := { program := "ytenjmepbaajkjaa", sum := "890afaa28e76909d1fd39cc57319def8cbab58ed90f42b4fe15216a1c5814b6e", func := "loop.example/g00895/laws.FnExactHeldIn", spec := "fnExactHeldIn", unfollowed := true, recurses := true, apart := false }
def FnExactHeldInSaid : Prop := fnExactHeldInRow.holds Try.pinned (OpenSpec.ofChange fnExactHeldInSpec)

/-- ITS FALSE NEIGHBOUR: 'it returns false'. Refute it at one input. -/
def fnExactHeldInWrong : ChangeSpec := { name := "fnExactHeldIn", fn := fun _ => fun
  | [d1, d2, d3] => { results := [.lit (.bool false)], args := [d1, d2, d3] }
  | _ => none }
def FnExactHeldInWrongFalsely : Prop := fnExactHeldInRow.holds Try.pinned (OpenSpec.ofChange fnExactHeldInWrong)

/-- 'laws.FnExactEitherAuto': WHATEVER THE INPUT: true; the input reads as it did. -/
def fnExactEitherAutoSpec : ChangeSpec := { name := "fnExactEitherAuto", fn := fun _ => fun
  | [d1, d2, d3] => { results := [.lit (.bool true)], args := [d1, d2, d3] }
  | _ => none }
def fnExactEitherAutoRow : OpenClaim := { program := "ytenjmepbaajkjaa", sum := "890afaa28e76909d1fd39cc57319def8cbab58ed90f42b4fe15216a1c5814b6e", func := "loop.example/g00895/laws.FnExactEitherAuto", spec := "fnExactEitherAuto", unfollowed := true, recurses := true, apart := false }
def FnExactEitherAutoSaid : Prop := fnExactEitherAutoRow.holds Try.pinned (OpenSpec.ofChange fnExactEitherAutoSpec)

/-- ITS FALSE NEIGHBOUR: 'it returns false'. Refute it at one input. -/
def fnExactEitherAutoWrong : ChangeSpec := { name := "fnExactEitherAuto", fn := fun _ => fun
  | [d1, d2, d3] => { results := [.lit (.bool false)], args := [d1, d2, d3] }
  | _ => none }
def FnExactEitherAutoWrongFalsely : Prop := fnExactEitherAutoRow.holds Try.pinned (OpenSpec.ofChange fnExactEitherAutoWrong)

/-- 'laws.FnExactChainEnd': WHATEVER THE INPUT: true; the input reads as it did. -/
def fnExactChainEndSpec : ChangeSpec := { name := "fnExactChainEnd", fn := fun _ => fun
  | [d1, d2, d3] => { results := [.lit (.bool true)], args := [d1, d2, d3] }
  | _ => none }
def fnExactChainEndRow : OpenClaim := { program := "ytenjmepbaajkjaa", sum := "890afaa28e76909d1fd39cc57319def8cbab58ed90f42b4fe15216a1c5814b6e", func := "loop.example/g00895/laws.FnExactChainEnd", spec := "fnExactChainEnd", unfollowed := true, recurses := true, apart := false }
def FnExactChainEndSaid : Prop := fnExactChainEndRow.holds Try.pinned (OpenSpec.ofChange fnExactChainEndSpec)

/-- ITS FALSE NEIGHBOUR: 'it returns false'. Refute it at one input. -/
def fnExactChainEndWrong : ChangeSpec := { name := "fnExactChainEnd", fn := fun _ => fun
  | [d1, d2, d3] => { results := [.lit (.bool false)], args := [d1, d2, d3] }
  | _ => none }
def FnExactChainEndWrongFalsely : Prop := fnExactChainEndRow.holds Try.pinned (OpenSpec.ofChange fnExactChainEndWrong)

/-- 'laws.FnExactPairStepsOf': WHATEVER THE INPUT: true; the input reads as it did. -/
def fnExactPairStepsOfSpec : ChangeSpec := { name := "fnExactPairStepsOf", fn := fun _ => fun
  | [d] => { results := [.lit (.bool true)], args := [d] }
  | _ => none }
def fnExactPairStepsOfRow : OpenClaim := { program := "ytenjmepbaajkjaa", sum := "890afaa28e76909d1fd39cc57319def8cbab58ed90f42b4fe15216a1c5814b6e", func := "loop.example/g00895/laws.FnExactPairStepsOf", spec := "fnExactPairStepsOf", apart := false }
def FnExactPairStepsOfSaid : Prop := fnExactPairStepsOfRow.holds Try.pinned (OpenSpec.ofChange fnExactPairStepsOfSpec)

/-- ITS FALSE NEIGHBOUR: 'it returns false'. Refute it at one input. -/
def fnExactPairStepsOfWrong : ChangeSpec := { name := "fnExactPairStepsOf", fn := fun _ => fun
  | [d] => { results := [.lit (.bool false)], args := [d] }
  | _ => none }
def FnExactPairStepsOfWrongFalsely : Prop := fnExactPairStepsOfRow.holds Try.pinned (OpenSpec.ofChange fnExactPairStepsOfWrong)

/-- 'laws.FnExactGeneralised': WHATEVER THE INPUT: true; the input reads as it did. -/
def fnExactGeneralisedSpec : ChangeSpec := { name := "fnExactGeneralised", fn := fun _ => fun
  | [d1, d2, d3] => { results := [.lit (.bool true)], args := [d1, d2, d3] }
  | _ => none }
def fnExactGeneralisedRow : OpenClaim := { program := "ytenjmepbaajkjaa", sum := "890afaa28e76909d1fd39cc57319def8cbab58ed90f42b4fe15216a1c5814b6e", func := "loop.example/g00895/laws.FnExactGeneralised", spec := "fnExactGeneralised", recurses := true, apart := false }
def FnExactGeneralisedSaid : Prop := fnExactGeneralisedRow.holds Try.pinned (OpenSpec.ofChange fnExactGeneralisedSpec)

/-- ITS FALSE NEIGHBOUR: 'it returns false'. Refute it at one input. -/
def fnExactGeneralisedWrong : ChangeSpec := { name := "fnExactGeneralised", fn := fun _ => fun
  | [d1, d2, d3] => { results := [.lit (.bool false)], args := [d1, d2, d3] }
  | _ => none }
def FnExactGeneralisedWrongFalsely : Prop := fnExactGeneralisedRow.holds Try.pinned (OpenSpec.ofChange fnExactGeneralisedWrong)

/-- 'laws.FnExactGeneralisedAll': WHATEVER THE INPUT: true; the input reads as it did. -/
def fnExactGeneralisedAllSpec : ChangeSpec := { name := "fnExactGeneralisedAll", fn := fun _ => fun
  | [d1, d2] => { results := [.lit (.bool true)], args := [d1, d2] }
  | _ => none }
def fnExactGeneralisedAllRow : OpenClaim := { program := "ytenjmepbaajkjaa", sum := "890afaa28e76909d1fd39cc57319def8cbab58ed90f42b4fe15216a1c5814b6e", func := "loop.example/g00895/laws.FnExactGeneralisedAll", spec := "fnExactGeneralisedAll", recurses := true, apart := false }
def FnExactGeneralisedAllSaid : Prop := fnExactGeneralisedAllRow.holds Try.pinned (OpenSpec.ofChange fnExactGeneralisedAllSpec)

/-- ITS FALSE NEIGHBOUR: 'it returns false'. Refute it at one input. -/
def fnExactGeneralisedAllWrong : ChangeSpec := { name := "fnExactGeneralisedAll", fn := fun _ => fun
  | [d1, d2] => { results := [.lit (.bool false)], args := [d1, d2] }
  | _ => none }
def FnExactGeneralisedAllWrongFalsely : Prop := fnExactGeneralisedAllRow.holds Try.pinned (OpenSpec.ofChange fnExactGeneralisedAllWrong)

/-- 'laws.FnExactOrientedEq': WHATEVER THE INPUT: true; the input reads as it did. -/
def fnExactOrientedEqSpec : ChangeSpec := { name := "fnExactOrientedEq", fn := fun _ => fun
  | [d1, d2, d3] => { results := [.lit (.bool true)], args := [d1, d2, d3] }
  | _ => none }
def fnExactOrientedEqRow : OpenClaim := { program := "ytenjmepbaajkjaa", sum := "890afaa28e76909d1fd39cc57319def8cbab58ed90f42b4fe15216a1c5814b6e", func := "loop.example/g00895/laws.FnExactOrientedEq", spec := "fnExactOrientedEq", unfollowed := true, recurses := true, apart := false }
def FnExactOrientedEqSaid : Prop := fnExactOrientedEqRow.holds Try.pinned (OpenSpec.ofChange fnExactOrientedEqSpec)

/-- ITS FALSE NEIGHBOUR: 'it returns false'. Refute it at one input. -/
def fnExactOrientedEqWrong : ChangeSpec := { name := "fnExactOrientedEq", fn := fun _ => fun
  | [d1, d2, d3] => { results := [.lit (.bool false)], args := [d1, d2, d3] }
  | _ => none }
def FnExactOrientedEqWrongFalsely : Prop := fnExactOrientedEqRow.holds Try.pinned (OpenSpec.ofChange fnExactOrientedEqWrong)

/-- 'laws.FnExactWorkOk': WHATEVER THE INPUT: true; the input reads as it did. -/
def fnExactWorkOkSpec : ChangeSpec := { name := "fnExactWorkOk", fn := fun _ => fun
  | [d] => { results := [.lit (.bool true)], args := [d] }
  | _ => none }
def fnExactWorkOkRow : OpenClaim := { program := "ytenjmepbaajkjaa", sum := "890afaa28e76909d1fd39cc57319def8cbab58ed90f42b4fe15216a1c5814b6e", func := "loop.example/g00895/laws.FnExactWorkOk", spec := "fnExactWorkOk", unfollowed := true, recurses := true, apart := false }
def FnExactWorkOkSaid : Prop := fnExactWorkOkRow.holds Try.pinned (OpenSpec.ofChange fnExactWorkOkSpec)

/-- ITS FALSE NEIGHBOUR: 'it returns false'. Refute it at one input. -/
def fnExactWorkOkWrong : ChangeSpec := { name := "fnExactWorkOk", fn := fun _ => fun
  | [d] => { results := [.lit (.bool false)], args := [d] }
  | _ => none }
def FnExactWorkOkWrongFalsely : Prop := fnExactWorkOkRow.holds Try.pinned (OpenSpec.ofChange fnExactWorkOkWrong)

/-- 'laws.FnExactAcceptsIn': WHATEVER THE INPUT: true; the input reads as it did. -/
def fnExactAcceptsInSpec : ChangeSpec := { name := "fnExactAcceptsIn", fn := fun _ => fun
  | [d1, d2, d3] => { results := [.lit (.bool true)], args := [d1, d2, d3] }
  | _ => none }
def fnExactAcceptsInRow : OpenClaim := { program := "ytenjmepbaajkjaa", sum := "890afaa28e76909d1fd39cc57319def8cbab58ed90f42b4fe15216a1c5814b6e", func := "loop.example/g00895/laws.FnExactAcceptsIn", spec := "fnExactAcceptsIn", unfollowed := true, recurses := true, apart := false }
def FnExactAcceptsInSaid : Prop := fnExactAcceptsInRow.holds Try.pinned (OpenSpec.ofChange fnExactAcceptsInSpec)

/-- ITS FALSE NEIGHBOUR: 'it returns false'. Refute it at one input. -/
def fnExactAcceptsInWrong : ChangeSpec := { name := "fnExactAcceptsIn", fn := fun _ => fun
  | [d1, d2, d3] => { results := [.lit (.bool false)], args := [d1, d2, d3] }
  | _ => none }
def FnExactAcceptsInWrongFalsely : Prop := fnExactAcceptsInRow.holds Try.pinned (OpenSpec.ofChange fnExactAcceptsInWrong)

/-- 'laws.FnExactCountTaken': WHATEVER THE INPUT: true; the input reads as it did. -/
def fnExactCountTakenSpec : ChangeSpec := { name := "fnExactCountTaken", fn := fun _ => fun
  | [d1, d2, d3] => { results := [.lit (.bool true)], args := [d1, d2, d3] }
  | _ => none }
def fnExactCountTakenRow : OpenClaim := { program := "ytenjmepbaajkjaa", sum := "890afaa28e76909d1fd39cc57319def8cbab58ed90f42b4fe15216a1c5814b6e", func := "loop.example/g00895/laws.FnExactCountTaken", spec := "fnExactCountTaken", unfollowed := true, recurses := true, apart := false }
def FnExactCountTakenSaid : Prop := fnExactCountTakenRow.holds Try.pinned (OpenSpec.ofChange fnExactCountTakenSpec)

/-- ITS FALSE NEIGHBOUR: 'it returns false'. Refute it at one input. -/
def fnExactCountTakenWrong : ChangeSpec := { name := "fnExactCountTaken", fn := fun _ => fun
  | [d1, d2, d3] => { results := [.lit (.bool false)], args := [d1, d2, d3] }
  | _ => none }
def FnExactCountTakenWrongFalsely : Prop := fnExactCountTakenRow.holds Try.pinned (OpenSpec.ofChange fnExactCountTakenWrong)

/-- 'laws.FnDefined': WHATEVER THE INPUT: true; the input reads as it did. -/
def fnDefinedSpec : ChangeSpec := { name := "fnDefined", fn := fun _ => fun
  | [d] => { results := [.lit (.bool true)], args := [d] }
  | _ => none }
def fnDefinedRow : OpenClaim := { program := "ytenjmepbaajkjaa", sum := "890afaa28e76909d1fd39cc57319def8cbab58ed90f42b4fe15216a1c5814b6e", func := "loop.example/g00895/laws.FnDefined", spec := "fnDefined", unfollowed := true, recurses := true, apart := false }
def FnDefinedSaid : Prop := fnDefinedRow.holds Try.pinned (OpenSpec.ofChange fnDefinedSpec)

/-- ITS FALSE NEIGHBOUR: 'it returns false'. Refute it at one input. -/
def fnDefinedWrong : ChangeSpec := { name := "fnDefined", fn := fun _ => fun
  | [d] => { results := [.lit (.bool false)], args := [d] }
  | _ => none }
def FnDefinedWrongFalsely : Prop := fnDefinedRow.holds Try.pinned (OpenSpec.ofChange fnDefinedWrong)

/- THE SECOND FORM. 'bulk': how many values and letters a reading holds, each counted each time it is reached (what is shared counts as often as it is met; a slice's spare places count too). A statement '..UptoSaid' is the law's where the arguments, and the package variables that the reading takes, are together of bulk at most 1048576: NARROWER than '..Said'. Prove '..Said' where nothing that the law and all that it calls make is longer than what came in: it says more and counts as full. Else prove '..UptoSaid'. A law counts once. -/
mutual
def uptoBulk {H : Type} : DataW H → Nat
  | .lit (.string bytes) => bytes.length + 1
  | .lit _ => 1
  | .nil => 1
  | .ptr d => uptoBulk d + 1
  | .slice elems spare => uptoBulkAll elems + uptoBulkAll spare + 1
  | .agg parts => uptoBulkAll parts + 1
  | .iface _ d => uptoBulk d + 1
  | .map entries => uptoBulkEntries entries + 1
  | .held _ => 1
def uptoBulkAll {H : Type} : List (DataW H) → Nat
  | [] => 0
  | d :: r => uptoBulk d + uptoBulkAll r
def uptoBulkEntries {H : Type} : List (Lit × DataW H) → Nat
  | [] => 0
  | x :: r => uptoBulkEntry x + uptoBulkEntries r
def uptoBulkEntry {H : Type} : Lit × DataW H → Nat
  | (.string bytes, d) => bytes.length + uptoBulk d + 1
  | (_, d) => uptoBulk d + 1
 end
def uptoSmall : (H : Type) → List (DataW H) → Bool := fun _ ds => decide (uptoBulkAll ds ≤ 1048576)
def OpenSpec.upto (s : _root_.Go.ChangeSpec) : _root_.Go.OpenSpec := { _root_.Go.OpenSpec.ofChange s with cond := some uptoSmall }

/-- 'laws.FnExactChainOk', WHERE WHAT IT READS IS OF BULK AT MOST 1048576: true; the input reads as it did. -/
def fnExactChainOkUptoRow : OpenClaim := { program := "ytenjmepbaajkjaa", sum := "890afaa28e76909d1fd39cc57319def8cbab58ed90f42b4fe15216a1c5814b6e", func := "loop.example/g00895/laws.FnExactChainOk", spec := "fnExactChainOk", unfollowed := true, recurses := true, apart := false, narrowed := true }
def FnExactChainOkUptoSaid : Prop := fnExactChainOkUptoRow.holds Try.pinned (OpenSpec.upto fnExactChainOkSpec)

/-- 'laws.FnExactHeldIn', WHERE WHAT IT READS IS OF BULK AT MOST 1048576: true; the input reads as it did. -/
def fnExactHeldInUptoRow : OpenClaim := { program := "ytenjmepbaajkjaa", sum := "890afaa28e76909d1fd39cc57319def8cbab58ed90f42b4fe15216a1c5814b6e", func := "loop.example/g00895/laws.FnExactHeldIn", spec := "fnExactHeldIn", unfollowed := true, recurses := true, apart := false, narrowed := true }
def FnExactHeldInUptoSaid : Prop := fnExactHeldInUptoRow.holds Try.pinned (OpenSpec.upto fnExactHeldInSpec)

/-- 'laws.FnExactEitherAuto', WHERE WHAT IT READS IS OF BULK AT MOST 1048576: true; the input reads as it did. -/
def fnExactEitherAutoUptoRow : OpenClaim := { program := "ytenjmepbaajkjaa", sum := "890afaa28e76909d1fd39cc57319def8cbab58ed90f42b4fe15216a1c5814b6e", func := "loop.example/g00895/laws.FnExactEitherAuto", spec := "fnExactEitherAuto", unfollowed := true, recurses := true, apart := false, narrowed := true }
def FnExactEitherAutoUptoSaid : Prop := fnExactEitherAutoUptoRow.holds Try.pinned (OpenSpec.upto fnExactEitherAutoSpec)

/-- 'laws.FnExactChainEnd', WHERE WHAT IT READS IS OF BULK AT MOST 1048576: true; the input reads as it did. -/
def fnExactChainEndUptoRow : OpenClaim := { program := "ytenjmepbaajkjaa", sum := "890afaa28e76909d1fd39cc57319def8cbab58ed90f42b4fe15216a1c5814b6e", func := "loop.example/g00895/laws.FnExactChainEnd", spec := "fnExactChainEnd", unfollowed := true, recurses := true, apart := false, narrowed := true }
def FnExactChainEndUptoSaid : Prop := fnExactChainEndUptoRow.holds Try.pinned (OpenSpec.upto fnExactChainEndSpec)

/-- 'laws.FnExactPairStepsOf', WHERE WHAT IT READS IS OF BULK AT MOST 1048576: true; the input reads as it did. -/
def fnExactPairStepsOfUptoRow : OpenClaim := { program := "ytenjmepbaajkjaa", sum := "890afaa28e76909d1fd39cc57319def8cbab58ed90f42b4fe15216a1c5814b6e", func := "loop.example/g00895/laws.FnExactPairStepsOf", spec := "fnExactPairStepsOf", apart := false, narrowed := true }
def FnExactPairStepsOfUptoSaid : Prop := fnExactPairStepsOfUptoRow.holds Try.pinned (OpenSpec.upto fnExactPairStepsOfSpec)

/-- 'laws.FnExactGeneralised', WHERE WHAT IT READS IS OF BULK AT MOST 1048576: true; the input reads as it did. -/
def fnExactGeneralisedUptoRow : OpenClaim := { program := "ytenjmepbaajkjaa", sum := "890afaa28e76909d1fd39cc57319def8cbab58ed90f42b4fe15216a1c5814b6e", func := "loop.example/g00895/laws.FnExactGeneralised", spec := "fnExactGeneralised", recurses := true, apart := false, narrowed := true }
def FnExactGeneralisedUptoSaid : Prop := fnExactGeneralisedUptoRow.holds Try.pinned (OpenSpec.upto fnExactGeneralisedSpec)

/-- 'laws.FnExactGeneralisedAll', WHERE WHAT IT READS IS OF BULK AT MOST 1048576: true; the input reads as it did. -/
def fnExactGeneralisedAllUptoRow : OpenClaim := { program := "ytenjmepbaajkjaa", sum := "890afaa28e76909d1fd39cc57319def8cbab58ed90f42b4fe15216a1c5814b6e", func := "loop.example/g00895/laws.FnExactGeneralisedAll", spec := "fnExactGeneralisedAll", recurses := true, apart := false, narrowed := true }
def FnExactGeneralisedAllUptoSaid : Prop := fnExactGeneralisedAllUptoRow.holds Try.pinned (OpenSpec.upto fnExactGeneralisedAllSpec)

/-- 'laws.FnExactOrientedEq', WHERE WHAT IT READS IS OF BULK AT MOST 1048576: true; the input reads as it did. -/
def fnExactOrientedEqUptoRow : OpenClaim := { program := "ytenjmepbaajkjaa", sum := "890afaa28e76909d1fd39cc57319def8cbab58ed90f42b4fe15216a1c5814b6e", func := "loop.example/g00895/laws.FnExactOrientedEq", spec := "fnExactOrientedEq", unfollowed := true, recurses := true, apart := false, narrowed := true }
def FnExactOrientedEqUptoSaid : Prop := fnExactOrientedEqUptoRow.holds Try.pinned (OpenSpec.upto fnExactOrientedEqSpec)

/-- 'laws.FnExactWorkOk', WHERE WHAT IT READS IS OF BULK AT MOST 1048576: true; the input reads as it did. -/
def fnExactWorkOkUptoRow : OpenClaim := { program := "ytenjmepbaajkjaa", sum := "890afaa28e76909d1fd39cc57319def8cbab58ed90f42b4fe15216a1c5814b6e", func := "loop.example/g00895/laws.FnExactWorkOk", spec := "fnExactWorkOk", unfollowed := true, recurses := true, apart := false, narrowed := true }
def FnExactWorkOkUptoSaid : Prop := fnExactWorkOkUptoRow.holds Try.pinned (OpenSpec.upto fnExactWorkOkSpec)

/-- 'laws.FnExactAcceptsIn', WHERE WHAT IT READS IS OF BULK AT MOST 1048576: true; the input reads as it did. -/
def fnExactAcceptsInUptoRow : OpenClaim := { program := "ytenjmepbaajkjaa", sum := "890afaa28e76909d1fd39cc57319def8cbab58ed90f42b4fe15216a1c5814b6e", func := "loop.example/g00895/laws.FnExactAcceptsIn", spec := "fnExactAcceptsIn", unfollowed := true, recurses := true, apart := false, narrowed := true }
def FnExactAcceptsInUptoSaid : Prop := fnExactAcceptsInUptoRow.holds Try.pinned (OpenSpec.upto fnExactAcceptsInSpec)

/-- 'laws.FnExactCountTaken', WHERE WHAT IT READS IS OF BULK AT MOST 1048576: true; the input reads as it did. -/
def fnExactCountTakenUptoRow : OpenClaim := { program := "ytenjmepbaajkjaa", sum := "890afaa28e76909d1fd39cc57319def8cbab58ed90f42b4fe15216a1c5814b6e", func := "loop.example/g00895/laws.FnExactCountTaken", spec := "fnExactCountTaken", unfollowed := true, recurses := true, apart := false, narrowed := true }
def FnExactCountTakenUptoSaid : Prop := fnExactCountTakenUptoRow.holds Try.pinned (OpenSpec.upto fnExactCountTakenSpec)

/-- 'laws.FnDefined', WHERE WHAT IT READS IS OF BULK AT MOST 1048576: true; the input reads as it did. -/
def fnDefinedUptoRow : OpenClaim := { program := "ytenjmepbaajkjaa", sum := "890afaa28e76909d1fd39cc57319def8cbab58ed90f42b4fe15216a1c5814b6e", func := "loop.example/g00895/laws.FnDefined", spec := "fnDefined", unfollowed := true, recurses := true, apart := false, narrowed := true }
def FnDefinedUptoSaid : Prop := fnDefinedUptoRow.holds Try.pinned (OpenSpec.upto fnDefinedSpec)

end Rows
end Go.Proofs.Ytenjmepbaajkjaa
