/-
  No cell of these rows narrows 'for every input' (looked for: loops, veiled, ifaces, maps, wideKeys, modest, calm, conditions, laid).
  DERIVED. THE GIVEN ROWS OF THIS SEAT. 12 by the template 'for every input the law returns true; each argument reads behind the call as it read before'; 0 by the template 'total and deterministic' (their statements: YtceejlnnlkmeiaaTotals.lean).
  GIVEN WITH THE SEED: the statements are not yours to turn. If you find one false, say at which input.
  Laid BY PROGRAM, IN A SANDBOX (cutbox-rows.mjs): the forced cells as the released guide's own fill.sh prints them over the translation b600bf2b8e1a5ef8… (all of the seat's roots in one cut). By AI agents, Wed Nov 11 2026. No macro, syntax, notation, axiom, sorry.
-/
import Derived.Test.YtceejlnnlkmeiaaChecked
import GoSem.Claim
import GoSem.ClaimJoined
import GoSem.ClaimMapViews
import Derived.JoinedTies
import Derived.KernelRfl
namespace Go.Proofs.Ytceejlnnlkmeiaa
/- THE CELL 'sum', in the pinned program and in every row, IS THE sha256 OF THE DUMP (.gsa) THAT YtceejlnnlkmeiaaProg.lean LOADS. Nothing in Lean hashes anything: it is a label: what it is worth is what the hold of that sum in a sandbox is worth. -/
noncomputable def Try.pinned : Pinned := { name := "ytceejlnnlkmeiaa", sum := "b600bf2b8e1a5ef84e08529e52c1a0fd05000b0e0de3eaf2c626606825b87b76", checked := Try.checked }
namespace Rows
def none {H : Type} : Left H := { results := [], args := [] }

/-- 'laws.FnExactPairStepsOf': WHATEVER THE INPUT: true; the input reads as it did. -/
def fnExactPairStepsOfSpec : ChangeSpec := { name := "fnExactPairStepsOf", fn := fun _ => fun
  | [d] => { results := [.lit (.bool true)], args := [d] }
  | _ => none }
def fnExactPairStepsOfRow : OpenClaim := { program := "ytceejlnnlkmeiaa", sum := "b600bf2b8e1a5ef84e08529e52c1a0fd05000b0e0de3eaf2c626606825b87b76", func := "loop.example/g00895/laws.FnExactPairStepsOf", spec := "fnExactPairStepsOf", apart := false }
def FnExactPairStepsOfSaid : Prop := fnExactPairStepsOfRow.holds Try.pinned (OpenSpec.ofChange fnExactPairStepsOfSpec)

/-- ITS FALSE NEIGHBOUR: 'it returns false'. Refute it at one input. -/
def fnExactPairStepsOfWrong : ChangeSpec := { name := "fnExactPairStepsOf", fn := fun _ => fun
  | [d] => { results := [.lit (.bool false)], args := [d] }
  | _ => none }
def FnExactPairStepsOfWrongFalsely : Prop := fnExactPairStepsOfRow.holds Try.pinned (OpenSpec.ofChange fnExactPairStepsOfWrong)

/-- 'laws.FnExactEqsOf': WHATEVER THE INPUT: true; the input reads as it did. -/
def fnExactEqsOfSpec : ChangeSpec := { name := "fnExactEqsOf", fn := fun _ => fun
  | [d] => { results := [.lit (.bool true)], args := [d] }
  | _ => none }
def fnExactEqsOfRow : OpenClaim := { program := "ytceejlnnlkmeiaa", sum := "b600bf2b8e1a5ef84e08529e52c1a0fd05000b0e0de3eaf2c626606825b87b76", func := "loop.example/g00895/laws.FnExactEqsOf", spec := "fnExactEqsOf", apart := false }
def FnExactEqsOfSaid : Prop := fnExactEqsOfRow.holds Try.pinned (OpenSpec.ofChange fnExactEqsOfSpec)

/-- ITS FALSE NEIGHBOUR: 'it returns false'. Refute it at one input. -/
def fnExactEqsOfWrong : ChangeSpec := { name := "fnExactEqsOf", fn := fun _ => fun
  | [d] => { results := [.lit (.bool false)], args := [d] }
  | _ => none }
def FnExactEqsOfWrongFalsely : Prop := fnExactEqsOfRow.holds Try.pinned (OpenSpec.ofChange fnExactEqsOfWrong)

/-- 'laws.FnExactDefinedIn': WHATEVER THE INPUT: true; the input reads as it did. -/
def fnExactDefinedInSpec : ChangeSpec := { name := "fnExactDefinedIn", fn := fun _ => fun
  | [d] => { results := [.lit (.bool true)], args := [d] }
  | _ => none }
def fnExactDefinedInRow : OpenClaim := { program := "ytceejlnnlkmeiaa", sum := "b600bf2b8e1a5ef84e08529e52c1a0fd05000b0e0de3eaf2c626606825b87b76", func := "loop.example/g00895/laws.FnExactDefinedIn", spec := "fnExactDefinedIn", unfollowed := true, recurses := true, apart := false }
def FnExactDefinedInSaid : Prop := fnExactDefinedInRow.holds Try.pinned (OpenSpec.ofChange fnExactDefinedInSpec)

/-- ITS FALSE NEIGHBOUR: 'it returns false'. Refute it at one input. -/
def fnExactDefinedInWrong : ChangeSpec := { name := "fnExactDefinedIn", fn := fun _ => fun
  | [d] => { results := [.lit (.bool false)], args := [d] }
  | _ => none }
def FnExactDefinedInWrongFalsely : Prop := fnExactDefinedInRow.holds Try.pinned (OpenSpec.ofChange fnExactDefinedInWrong)

/-- 'laws.FnExactConstructorsIn': WHATEVER THE INPUT: true; the input reads as it did. -/
def fnExactConstructorsInSpec : ChangeSpec := { name := "fnExactConstructorsIn", fn := fun _ => fun
  | [d] => { results := [.lit (.bool true)], args := [d] }
  | _ => none }
def fnExactConstructorsInRow : OpenClaim := { program := "ytceejlnnlkmeiaa", sum := "b600bf2b8e1a5ef84e08529e52c1a0fd05000b0e0de3eaf2c626606825b87b76", func := "loop.example/g00895/laws.FnExactConstructorsIn", spec := "fnExactConstructorsIn", unfollowed := true, recurses := true, apart := false }
def FnExactConstructorsInSaid : Prop := fnExactConstructorsInRow.holds Try.pinned (OpenSpec.ofChange fnExactConstructorsInSpec)

/-- ITS FALSE NEIGHBOUR: 'it returns false'. Refute it at one input. -/
def fnExactConstructorsInWrong : ChangeSpec := { name := "fnExactConstructorsIn", fn := fun _ => fun
  | [d] => { results := [.lit (.bool false)], args := [d] }
  | _ => none }
def FnExactConstructorsInWrongFalsely : Prop := fnExactConstructorsInRow.holds Try.pinned (OpenSpec.ofChange fnExactConstructorsInWrong)

/-- 'laws.FnExactEitherAuto': WHATEVER THE INPUT: true; the input reads as it did. -/
def fnExactEitherAutoSpec : ChangeSpec := { name := "fnExactEitherAuto", fn := fun _ => fun
  | [d1, d2, d3] => { results := [.lit (.bool true)], args := [d1, d2, d3] }
  | _ => none }
def fnExactEitherAutoRow : OpenClaim := { program := "ytceejlnnlkmeiaa", sum := "b600bf2b8e1a5ef84e08529e52c1a0fd05000b0e0de3eaf2c626606825b87b76", func := "loop.example/g00895/laws.FnExactEitherAuto", spec := "fnExactEitherAuto", unfollowed := true, recurses := true, apart := false }
def FnExactEitherAutoSaid : Prop := fnExactEitherAutoRow.holds Try.pinned (OpenSpec.ofChange fnExactEitherAutoSpec)

/-- ITS FALSE NEIGHBOUR: 'it returns false'. Refute it at one input. -/
def fnExactEitherAutoWrong : ChangeSpec := { name := "fnExactEitherAuto", fn := fun _ => fun
  | [d1, d2, d3] => { results := [.lit (.bool false)], args := [d1, d2, d3] }
  | _ => none }
def FnExactEitherAutoWrongFalsely : Prop := fnExactEitherAutoRow.holds Try.pinned (OpenSpec.ofChange fnExactEitherAutoWrong)

/-- 'laws.FnExactPlainSystem': WHATEVER THE INPUT: true; the input reads as it did. -/
def fnExactPlainSystemSpec : ChangeSpec := { name := "fnExactPlainSystem", fn := fun _ => fun
  | [d] => { results := [.lit (.bool true)], args := [d] }
  | _ => none }
def fnExactPlainSystemRow : OpenClaim := { program := "ytceejlnnlkmeiaa", sum := "b600bf2b8e1a5ef84e08529e52c1a0fd05000b0e0de3eaf2c626606825b87b76", func := "loop.example/g00895/laws.FnExactPlainSystem", spec := "fnExactPlainSystem", unfollowed := true, recurses := true, apart := false }
def FnExactPlainSystemSaid : Prop := fnExactPlainSystemRow.holds Try.pinned (OpenSpec.ofChange fnExactPlainSystemSpec)

/-- ITS FALSE NEIGHBOUR: 'it returns false'. Refute it at one input. -/
def fnExactPlainSystemWrong : ChangeSpec := { name := "fnExactPlainSystem", fn := fun _ => fun
  | [d] => { results := [.lit (.bool false)], args := [d] }
  | _ => none }
def FnExactPlainSystemWrongFalsely : Prop := fnExactPlainSystemRow.holds Try.pinned (OpenSpec.ofChange fnExactPlainSystemWrong)

/-- 'laws.FnExactStartWork': WHATEVER THE INPUT: true; the input reads as it did. -/
def fnExactStartWorkSpec : ChangeSpec := { name := "fnExactStartWork", fn := fun _ => fun
  | [d1, d2, d3] => { results := [.lit (.bool true)], args := [d1, d2, d3] }
  | _ => none }
def fnExactStartWorkRow : OpenClaim := { program := "ytceejlnnlkmeiaa", sum := "b600bf2b8e1a5ef84e08529e52c1a0fd05000b0e0de3eaf2c626606825b87b76", func := "loop.example/g00895/laws.FnExactStartWork", spec := "fnExactStartWork", unfollowed := true, recurses := true, apart := false }
def FnExactStartWorkSaid : Prop := fnExactStartWorkRow.holds Try.pinned (OpenSpec.ofChange fnExactStartWorkSpec)

/-- ITS FALSE NEIGHBOUR: 'it returns false'. Refute it at one input. -/
def fnExactStartWorkWrong : ChangeSpec := { name := "fnExactStartWork", fn := fun _ => fun
  | [d1, d2, d3] => { results := [.lit (.bool false)], args := [d1, d2, d3] }
  | _ => none }
def FnExactStartWorkWrongFalsely : Prop := fnExactStartWorkRow.holds Try.pinned (OpenSpec.ofChange fnExactStartWorkWrong)

/-- 'laws.FnExactHeldIn': WHATEVER THE INPUT: true; the input reads as it did. -/
def fnExactHeldInSpec : ChangeSpec := { name := "fnExactHeldIn", fn := fun _ => fun
  | [d1, d2, d3] => { results := [.lit (.bool true)], args := [d1, d2, d3] }
  | _ => none }
def fnExactHeldInRow : OpenClaim := { program := "ytceejlnnlkmeiaa", sum := "b600bf2b8e1a5ef84e08529e52c1a0fd05000b0e0de3eaf2c626606825b87b76", func := "loop.example/g00895/laws.FnExactHeldIn", spec := "fnExactHeldIn", unfollowed := true, recurses := true, apart := false }
def FnExactHeldInSaid : Prop := fnExactHeldInRow.holds Try.pinned (OpenSpec.ofChange fnExactHeldInSpec)

/-- ITS FALSE NEIGHBOUR: 'it returns false'. Refute it at one input. -/
def fnExactHeldInWrong : ChangeSpec := { name := "fnExactHeldIn", fn := fun _ => fun
  | [d1, d2, d3] => { results := [.lit (.bool false)], args := [d1, d2, d3] }
  | _ => none }
def FnExactHeldInWrongFalsely : Prop := fnExactHeldInRow.holds Try.pinned (OpenSpec.ofChange fnExactHeldInWrong)

/-- 'laws.FnExactRulesOf': WHATEVER THE INPUT: true; the input reads as it did. -/
def fnExactRulesOfSpec : ChangeSpec := { name := "fnExactRulesOf", fn := fun _ => fun
  | [d] => { results := [.lit (.bool true)], args := [d] }
  | _ => none }
def fnExactRulesOfRow : OpenClaim := { program := "ytceejlnnlkmeiaa", sum := "b600bf2b8e1a5ef84e08529e52c1a0fd05000b0e0de3eaf2c626606825b87b76", func := "loop.example/g00895/laws.FnExactRulesOf", spec := "fnExactRulesOf", unfollowed := true, recurses := true, apart := false }
def FnExactRulesOfSaid : Prop := fnExactRulesOfRow.holds Try.pinned (OpenSpec.ofChange fnExactRulesOfSpec)

/-- ITS FALSE NEIGHBOUR: 'it returns false'. Refute it at one input. -/
def fnExactRulesOfWrong : ChangeSpec := { name := "fnExactRulesOf", fn := fun _ => fun
  | [d] => { results := [.lit (.bool false)], args := [d] }
  | _ => none }
def FnExactRulesOfWrongFalsely : Prop := fnExactRulesOfRow.holds Try.pinned (OpenSpec.ofChange fnExactRulesOfWrong)

/-- 'laws.FnDefined': WHATEVER THE INPUT: true; the input reads as it did. -/
def fnDefinedSpec : ChangeSpec := { name := "fnDefined", fn := fun _ => fun
  | [d] => { results := [.lit (.bool true)], args := [d] }
  | _ => none }
def fnDefinedRow : OpenClaim := { program := "ytceejlnnlkmeiaa", sum := "b600bf2b8e1a5ef84e08529e52c1a0fd05000b0e0de3eaf2c626606825b87b76", func := "loop.example/g00895/laws.FnDefined", spec := "fnDefined", unfollowed := true, recurses := true, apart := false }
def FnDefinedSaid : Prop := fnDefinedRow.holds Try.pinned (OpenSpec.ofChange fnDefinedSpec)

/-- ITS FALSE NEIGHBOUR: 'it returns false'. Refute it at one input. -/
def fnDefinedWrong : ChangeSpec := { name := "fnDefined", fn := fun _ => fun
  | [d] => { results := [.lit (.bool false)], args := [d] }
  | _ => none }
def FnDefinedWrongFalsely : Prop := fnDefinedRow.holds Try.pinned (OpenSpec.ofChange fnDefinedWrong)

/-- 'laws.FnExactGeneralised': WHATEVER THE INPUT: true; the input reads as it did. -/
def fnExactGeneralisedSpec : ChangeSpec := { name := "fnExactGeneralised", fn := fun _ => fun
  | [d1, d2, d3] => { results := [.lit (.bool true)], args := [d1, d2, d3] }
  | _ => none }
def fnExactGeneralisedRow : OpenClaim := { program := "ytceejlnnlkmeiaa", sum := "b600bf2b8e1a5ef84e08529e52c1a0fd05000b0e0de3eaf2c626606825b87b76", func := "loop.example/g00895/laws.FnExactGeneralised", spec := "fnExactGeneralised", recurses := true, apart := false }
def FnExactGeneralisedSaid : Prop := fnExactGeneralisedRow.holds Try.pinned (OpenSpec.ofChange fnExactGeneralisedSpec)

/-- ITS FALSE NEIGHBOUR: 'it returns false'. Refute it at one input. -/
def fnExactGeneralisedWrong : ChangeSpec := { name := "fnExactGeneralised", fn := fun _ => fun
  | [d1, d2, d3] => { results := [.lit (.bool false)], args := [d1, d2, d3] }
  | _ => none }
def FnExactGeneralisedWrongFalsely : Prop := fnExactGeneralisedRow.holds Try.pinned (OpenSpec.ofChange fnExactGeneralisedWrong)

/-- 'laws.FnExactGeneralisedAll': WHATEVER THE INPUT: true; the input reads as it did. -/
def fnExactGeneralisedAllSpec : ChangeSpec := { name := "fnExactGeneralisedAll", fn := fun _ => fun
  | [d1, d2] => { results := [.lit (.bool true)], args := [d1, d2] }
  | _ => none }
def fnExactGeneralisedAllRow : OpenClaim := { program := "ytceejlnnlkmeiaa", sum := "b600bf2b8e1a5ef84e08529e52c1a0fd05000b0e0de3eaf2c626606825b87b76", func := "loop.example/g00895/laws.FnExactGeneralisedAll", spec := "fnExactGeneralisedAll", recurses := true, apart := false }
def FnExactGeneralisedAllSaid : Prop := fnExactGeneralisedAllRow.holds Try.pinned (OpenSpec.ofChange fnExactGeneralisedAllSpec)

/-- ITS FALSE NEIGHBOUR: 'it returns false'. Refute it at one input. -/
def fnExactGeneralisedAllWrong : ChangeSpec := { name := "fnExactGeneralisedAll", fn := fun _ => fun
  | [d1, d2] => { results := [.lit (.bool false)], args := [d1, d2] }
  | _ => none }
def FnExactGeneralisedAllWrongFalsely : Prop := fnExactGeneralisedAllRow.holds Try.pinned (OpenSpec.ofChange fnExactGeneralisedAllWrong)

/- THE SECOND FORM. 'bulk': how many values and letters a reading holds, each counted each time it is reached (what is shared counts as often as it is met; a slice's spare places count too). A statement '..UptoSaid' is the law's where the arguments, and the package variables that the reading takes, are together of bulk at most 1048576: NARROWER than '..Said'. Prove '..Said' where nothing that the law and all that it calls make is longer than what came in: it says more and counts as full. Else prove '..UptoSaid'. A law counts once. -/
mutual
def uptoBulk {H : Type} : DataW H → Nat
  | .lit (.string bytes) => bytes.length + 1
  | .lit _ => 1
  | .nil => 1
  | .ptr d => uptoBulk d + 1
  | .slice elems spare => uptoBulkAll elems + uptoBulkAll spare + 1
  | .agg parts => uptoBulkAll parts + 1
  | .iface _ d => uptoBulk d + 1
  | .map entries => uptoBulkEntries entries + 1
  | .held _ => 1
def uptoBulkAll {H : Type} : List (DataW H) → Nat
  | [] => 0
  | d :: r => uptoBulk d + uptoBulkAll r
def uptoBulkEntries {H : Type} : List (Lit × DataW H) → Nat
  | [] => 0
  | x :: r => uptoBulkEntry x + uptoBulkEntries r
def uptoBulkEntry {H : Type} : Lit × DataW H → Nat
  | (.string bytes, d) => bytes.length + uptoBulk d + 1
  | (_, d) => uptoBulk d + 1
 end
def uptoSmall : (H : Type) → List (DataW H) → Bool := fun _ ds => decide (uptoBulkAll ds ≤ 1048576)
def OpenSpec.upto (s : _root_.Go.ChangeSpec) : _root_.Go.OpenSpec := { _root_.Go.OpenSpec.ofChange s with cond := some uptoSmall }

/-- 'laws.FnExactPairStepsOf', WHERE WHAT IT READS IS OF BULK AT MOST 1048576: true; the input reads as it did. -/
def fnExactPairStepsOfUptoRow : OpenClaim := { program := "ytceejlnnlkmeiaa", sum := "b600bf2b8e1a5ef84e08529e52c1a0fd05000b0e0de3eaf2c626606825b87b76", func := "loop.example/g00895/laws.FnExactPairStepsOf", spec := "fnExactPairStepsOf", apart := false, narrowed := true }
def FnExactPairStepsOfUptoSaid : Prop := fnExactPairStepsOfUptoRow.holds Try.pinned (OpenSpec.upto fnExactPairStepsOfSpec)

/-- 'laws.FnExactEqsOf', WHERE WHAT IT READS IS OF BULK AT MOST 1048576: true; the input reads as it did. -/
def fnExactEqsOfUptoRow : OpenClaim := { program := "ytceejlnnlkmeiaa", sum := "b600bf2b8e1a5ef84e08529e52c1a0fd05000b0e0de3eaf2c626606825b87b76", func := "loop.example/g00895/laws.FnExactEqsOf", spec := "fnExactEqsOf", apart := false, narrowed := true }
def FnExactEqsOfUptoSaid : Prop := fnExactEqsOfUptoRow.holds Try.pinned (OpenSpec.upto fnExactEqsOfSpec)

/-- 'laws.FnExactDefinedIn', WHERE WHAT IT READS IS OF BULK AT MOST 1048576: true; the input reads as it did. -/
def fnExactDefinedInUptoRow : OpenClaim := { program := "ytceejlnnlkmeiaa", sum := "b600bf2b8e1a5ef84e08529e52c1a0fd05000b0e0de3eaf2c626606825b87b76", func := "loop.example/g00895/laws.FnExactDefinedIn", spec := "fnExactDefinedIn", unfollowed := true, recurses := true, apart := false, narrowed := true }
def FnExactDefinedInUptoSaid : Prop := fnExactDefinedInUptoRow.holds Try.pinned (OpenSpec.upto fnExactDefinedInSpec)

/-- 'laws.FnExactConstructorsIn', WHERE WHAT IT READS IS OF BULK AT MOST 1048576: true; the input reads as it did. -/
def fnExactConstructorsInUptoRow : OpenClaim := { program := "ytceejlnnlkmeiaa", sum := "b600bf2b8e1a5ef84e08529e52c1a0fd05000b0e0de3eaf2c626606825b87b76", func := "loop.example/g00895/laws.FnExactConstructorsIn", spec := "fnExactConstructorsIn", unfollowed := true, recurses := true, apart := false, narrowed := true }
def FnExactConstructorsInUptoSaid : Prop := fnExactConstructorsInUptoRow.holds Try.pinned (OpenSpec.upto fnExactConstructorsInSpec)

/-- 'laws.FnExactEitherAuto', WHERE WHAT IT READS IS OF BULK AT MOST 1048576: true; the input reads as it did. -/
def fnExactEitherAutoUptoRow : OpenClaim := { program := "ytceejlnnlkmeiaa", sum := "b600bf2b8e1a5ef84e08529e52c1a0fd05000b0e0de3eaf2c626606825b87b76", func := "loop.example/g00895/laws.FnExactEitherAuto", spec := "fnExactEitherAuto", unfollowed := true, recurses := true, apart := false, narrowed := true }
def FnExactEitherAutoUptoSaid : Prop := fnExactEitherAutoUptoRow.holds Try.pinned (OpenSpec.upto fnExactEitherAutoSpec)

/-- 'laws.FnExactPlainSystem', WHERE WHAT IT READS IS OF BULK AT MOST 1048576: true; the input reads as it did. -/
def fnExactPlainSystemUptoRow : OpenClaim := { program := "ytceejlnnlkmeiaa", sum := "b600bf2b8e1a5ef84e08529e52c1a0fd05000b0e0de3eaf2c626606825b87b76", func := "loop.example/g00895/laws.FnExactPlainSystem", spec := "fnExactPlainSystem", unfollowed := true, recurses := true, apart := false, narrowed := true }
def FnExactPlainSystemUptoSaid : Prop := fnExactPlainSystemUptoRow.holds Try.pinned (OpenSpec.upto fnExactPlainSystemSpec)

/-- 'laws.FnExactStartWork', WHERE WHAT IT READS IS OF BULK AT MOST 1048576: true; the input reads as it did. -/
def fnExactStartWorkUptoRow : OpenClaim := { program := "ytceejlnnlkmeiaa", sum := "b600bf2b8e1a5ef84e08529e52c1a0fd05000b0e0de3eaf2c626606825b87b76", func := "loop.example/g00895/laws.FnExactStartWork", spec := "fnExactStartWork", unfollowed := true, recurses := true, apart := false, narrowed := true }
def FnExactStartWorkUptoSaid : Prop := fnExactStartWorkUptoRow.holds Try.pinned (OpenSpec.upto fnExactStartWorkSpec)

/-- 'laws.FnExactHeldIn', WHERE WHAT IT READS IS OF BULK AT MOST 1048576: true; the input reads as it did. -/
def fnExactHeldInUptoRow : OpenClaim := { program := "ytceejlnnlkmeiaa", sum := "b600bf2b8e1a5ef84e08529e52c1a0fd05000b0e0de3eaf2c626606825b87b76", func := "loop.example/g00895/laws.FnExactHeldIn", spec := "fnExactHeldIn", unfollowed := true, recurses := true, apart := false, narrowed := true }
def FnExactHeldInUptoSaid : Prop := fnExactHeldInUptoRow.holds Try.pinned (OpenSpec.upto fnExactHeldInSpec)

/-- 'laws.FnExactRulesOf', WHERE WHAT IT READS IS OF BULK AT MOST 1048576: true; the input reads as it did. -/
def fnExactRulesOfUptoRow : OpenClaim := { program := "ytceejlnnlkmeiaa", sum := "b600bf2b8e1a5ef84e08529e52c1a0fd05000b0e0de3eaf2c626606825b87b76", func := "loop.example/g00895/laws.FnExactRulesOf", spec := "fnExactRulesOf", unfollowed := true, recurses := true, apart := false, narrowed := true }
def FnExactRulesOfUptoSaid : Prop := fnExactRulesOfUptoRow.holds Try.pinned (OpenSpec.upto fnExactRulesOfSpec)

/-- 'laws.FnDefined', WHERE WHAT IT READS IS OF BULK AT MOST 1048576: true; the input reads as it did. -/
def fnDefinedUptoRow : OpenClaim := { program := "ytceejlnnlkmeiaa", sum := "b600bf2b8e1a5ef84e08529e52c1a0fd05000b0e0de3eaf2c626606825b87b76", func := "loop.example/g00895/laws.FnDefined", spec := "fnDefined", unfollowed := true, recurses := true, apart := false, narrowed := true }
def FnDefinedUptoSaid : Prop := fnDefinedUptoRow.holds Try.pinned (OpenSpec.upto fnDefinedSpec)

/-- 'laws.FnExactGeneralised', WHERE WHAT IT READS IS OF BULK AT MOST 1048576: true; the input reads as it did. -/
def fnExactGeneralisedUptoRow : OpenClaim := { program := "ytceejlnnlkmeiaa", sum := "b600bf2b8e1a5ef84e08529e52c1a0fd05000b0e0de3eaf2c626606825b87b76", func := "loop.example/g00895/laws.FnExactGeneralised", spec := "fnExactGeneralised", recurses := true, apart := false, narrowed := true }
def FnExactGeneralisedUptoSaid : Prop := fnExactGeneralisedUptoRow.holds Try.pinned (OpenSpec.upto fnExactGeneralisedSpec)

/-- 'laws.FnExactGeneralisedAll', WHERE WHAT IT READS IS OF BULK AT MOST 1048576: true; the input reads as it did. -/
def fnExactGeneralisedAllUptoRow : OpenClaim := { program := "ytceejlnnlkmeiaa", sum := "b600bf2b8e1a5ef84e08529e52c1a0fd05000b0e0de3eaf2c626606825b87b76", func := "loop.example/g00895/laws.FnExactGeneralisedAll", spec := "fnExactGeneralisedAll", recurses := true, apart := false, narrowed := true }
def FnExactGeneralisedAllUptoSaid : Prop := fnExactGeneralisedAllUptoRow.holds Try.pinned (OpenSpec.upto fnExactGeneralisedAllSpec)

end Rows
end Go.Proofs.Ytceejlnnlkmeiaa
