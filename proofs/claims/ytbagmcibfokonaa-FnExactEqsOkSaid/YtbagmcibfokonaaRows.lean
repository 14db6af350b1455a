/-
  No cell of these rows narrows 'for every input' (looked for: loops, veiled, ifaces, maps, wideKeys, modest, calm, conditions, laid).
  DERIVED. THE GIVEN ROWS OF THIS SEAT. 7 by the template 'for every input the law returns true; each argument reads behind the call as it read before'; 0 by the template 'total and deterministic' (their statements: YtbagmcibfokonaaTotals.lean).
  GIVEN WITH THE SEED: the statements are not yours to turn. If you find one false, say at which input.
  Laid BY PROGRAM, IN A SANDBOX (cutbox-rows.mjs): the forced cells as the released guide's own fill.sh prints them over the translation 01e98d7fbc35cf84… (all of the seat's roots in one cut). By AI agents, Wed Nov 11 2026. No macro, syntax, notation, axiom, sorry.
-/
import Derived.Test.YtbagmcibfokonaaChecked
import GoSem.Claim
import GoSem.ClaimJoined
import GoSem.ClaimMapViews
import Derived.JoinedTies
import Derived.KernelRfl
namespace Go.Proofs.Ytbagmcibfokonaa
/- THE CELL 'sum', in the pinned program and in every row, IS THE sha256 OF THE DUMP (.gsa) THAT YtbagmcibfokonaaProg.lean LOADS. Nothing in Lean hashes anything: it is a label: what it is worth is what the hold of that sum in a sandbox is worth. -/
noncomputable def Try.pinned : Pinned := { name := "ytbagmcibfokonaa", sum := "01e98d7fbc35cf84bfabbbd68a740b5d1f932f63e7a0dcce7c629e2a01fb1afb", checked := Try.checked }
namespace Rows
def none {H : Type} : Left H := { results := [], args := [] }

/-- 'laws.FnExactAcOk': WHATEVER THE INPUT: true; the input reads as it did. -/
def fnExactAcOkSpec : ChangeSpec := { name := "fnExactAcOk", fn := fun _ => fun
  | [d1, d2] => { results := [.lit (.bool true)], args := [d1, d2] }
  | _ => none }
def fnExactAcOkRow : OpenClaim := { program := "ytbagmcibfokonaa", sum := "01e98d7fbc35cf84bfabbbd68a740b5d1f932f63e7a0dcce7c629e2a01fb1afb", func := "loop.example/g00895/laws.FnExactAcOk", spec := "fnExactAcOk", apart := false }
def FnExactAcOkSaid : Prop := fnExactAcOkRow.holds Try.pinned (OpenSpec.ofChange fnExactAcOkSpec)

/-- ITS FALSE NEIGHBOUR: 'it returns false'. Refute it at one input. -/
def fnExactAcOkWrong : ChangeSpec := { name := "fnExactAcOk", fn := fun _ => fun
  | [d1, d2] => { results := [.lit (.bool false)], args := [d1, d2] }
  | _ => none }
def FnExactAcOkWrongFalsely : Prop := fnExactAcOkRow.holds Try.pinned (OpenSpec.ofChange fnExactAcOkWrong)

/-- 'laws.FnExactNodeOk': WHATEVER THE INPUT: true; the input reads as it did. -/
def fnExactNodeOkSpec : ChangeSpec := { name := "fnExactNodeOk", fn := fun _ => fun
  | [d1, d2] => { results := [.lit (.bool true)], args := [d1, d2] }
  | _ => none }
def fnExactNodeOkRow : OpenClaim := { program := "ytbagmcibfokonaa", sum := "01e98d7fbc35cf84bfabbbd68a740b5d1f932f63e7a0dcce7c629e2a01fb1afb", func := "loop.example/g00895/laws.FnExactNodeOk", spec := "fnExactNodeOk", unfollowed := true, recurses := true, apart := false }
def FnExactNodeOkSaid : Prop := fnExactNodeOkRow.holds Try.pinned (OpenSpec.ofChange fnExactNodeOkSpec)

/-- ITS FALSE NEIGHBOUR: 'it returns false'. Refute it at one input. -/
def fnExactNodeOkWrong : ChangeSpec := { name := "fnExactNodeOk", fn := fun _ => fun
  | [d1, d2] => { results := [.lit (.bool false)], args := [d1, d2] }
  | _ => none }
def FnExactNodeOkWrongFalsely : Prop := fnExactNodeOkRow.holds Try.pinned (OpenSpec.ofChange fnExactNodeOkWrong)

/-- 'laws.FnExactEqOk': WHATEVER THE INPUT: true; the input reads as it did. -/
def fnExactEqOkSpec : ChangeSpec := { name := "fnExactEqOk", fn := fun _ => fun
  | [d1, d2] => { results := [.lit (.bool true)], args := [d1, d2] }
  | _ => none }
def fnExactEqOkRow : OpenClaim := { program := "ytbagmcibfokonaa", sum := "01e98d7fbc35cf84bfabbbd68a740b5d1f932f63e7a0dcce7c629e2a01fb1afb", func := "loop.example/g00895/laws.FnExactEqOk", spec := "fnExactEqOk", apart := false }
def FnExactEqOkSaid : Prop := fnExactEqOkRow.holds Try.pinned (OpenSpec.ofChange fnExactEqOkSpec)

/-- ITS FALSE NEIGHBOUR: 'it returns false'. Refute it at one input. -/
def fnExactEqOkWrong : ChangeSpec := { name := "fnExactEqOk", fn := fun _ => fun
  | [d1, d2] => { results := [.lit (.bool false)], args := [d1, d2] }
  | _ => none }
def FnExactEqOkWrongFalsely : Prop := fnExactEqOkRow.holds Try.pinned (OpenSpec.ofChange fnExactEqOkWrong)

/-- 'laws.FnExactProofOk': WHATEVER THE INPUT: true; the input reads as it did. -/
def fnExactProofOkSpec : ChangeSpec := { name := "fnExactProofOk", fn := fun _ => fun
  | [d] => { results := [.lit (.bool true)], args := [d] }
  | _ => none }
def fnExactProofOkRow : OpenClaim := { program := "ytbagmcibfokonaa", sum := "01e98d7fbc35cf84bfabbbd68a740b5d1f932f63e7a0dcce7c629e2a01fb1afb", func := "loop.example/g00895/laws.FnExactProofOk", spec := "fnExactProofOk", unfollowed := true, recurses := true, apart := false }
def FnExactProofOkSaid : Prop := fnExactProofOkRow.holds Try.pinned (OpenSpec.ofChange fnExactProofOkSpec)

/-- ITS FALSE NEIGHBOUR: 'it returns false'. Refute it at one input. -/
def fnExactProofOkWrong : ChangeSpec := { name := "fnExactProofOk", fn := fun _ => fun
  | [d] => { results := [.lit (.bool false)], args := [d] }
  | _ => none }
def FnExactProofOkWrongFalsely : Prop := fnExactProofOkRow.holds Try.pinned (OpenSpec.ofChange fnExactProofOkWrong)

/-- 'laws.FnExactSameProof': WHATEVER THE INPUT: true; the input reads as it did. -/
def fnExactSameProofSpec : ChangeSpec := { name := "fnExactSameProof", fn := fun _ => fun
  | [d1, d2] => { results := [.lit (.bool true)], args := [d1, d2] }
  | _ => none }
def fnExactSameProofRow : OpenClaim := { program := "ytbagmcibfokonaa", sum := "01e98d7fbc35cf84bfabbbd68a740b5d1f932f63e7a0dcce7c629e2a01fb1afb", func := "loop.example/g00895/laws.FnExactSameProof", spec := "fnExactSameProof", unfollowed := true, recurses := true, apart := false }
def FnExactSameProofSaid : Prop := fnExactSameProofRow.holds Try.pinned (OpenSpec.ofChange fnExactSameProofSpec)

/-- ITS FALSE NEIGHBOUR: 'it returns false'. Refute it at one input. -/
def fnExactSameProofWrong : ChangeSpec := { name := "fnExactSameProof", fn := fun _ => fun
  | [d1, d2] => { results := [.lit (.bool false)], args := [d1, d2] }
  | _ => none }
def FnExactSameProofWrongFalsely : Prop := fnExactSameProofRow.holds Try.pinned (OpenSpec.ofChange fnExactSameProofWrong)

/-- 'laws.FnExactEqsOk': WHATEVER THE INPUT: true; the input reads as it did. -/
def fnExactEqsOkSpec : ChangeSpec := { name := "fnExactEqsOk", fn := fun _ => fun
  | [d1, d2] => { results := [.lit (.bool true)], args := [d1, d2] }
  | _ => none }
def fnExactEqsOkRow : OpenClaim := { program := "ytbagmcibfokonaa", sum := "01e98d7fbc35cf84bfabbbd68a740b5d1f932f63e7a0dcce7c629e2a01fb1afb", func := "loop.example/g00895/laws.FnExactEqsOk", spec := "fnExactEqsOk", unfollowed := true, recurses := true, apart := false }
def FnExactEqsOkSaid : Prop := fnExactEqsOkRow.holds Try.pinned (OpenSpec.ofChange fnExactEqsOkSpec)

/-- ITS FALSE NEIGHBOUR: 'it returns false'. Refute it at one input. -/
def fnExactEqsOkWrong : ChangeSpec := { name := "fnExactEqsOk", fn := fun _ => fun
  | [d1, d2] => { results := [.lit (.bool false)], args := [d1, d2] }
  | _ => none }
def FnExactEqsOkWrongFalsely : Prop := fnExactEqsOkRow.holds Try.pinned (OpenSpec.ofChange fnExactEqsOkWrong)

/-- 'laws.FnExactPairStepsOf': WHATEVER THE INPUT: true; the input reads as it did. -/
def fnExactPairStepsOfSpec : ChangeSpec := { name := "fnExactPairStepsOf", fn := fun _ => fun
  | [d] => { results := [.lit (.bool true)], args := [d] }
  | _ => none }
def fnExactPairStepsOfRow : OpenClaim := { program := "ytbagmcibfokonaa", sum := "01e98d7fbc35cf84bfabbbd68a740b5d1f932f63e7a0dcce7c629e2a01fb1afb", func := "loop.example/g00895/laws.FnExactPairStepsOf", spec := "fnExactPairStepsOf", apart := false }
def FnExactPairStepsOfSaid : Prop := fnExactPairStepsOfRow.holds Try.pinned (OpenSpec.ofChange fnExactPairStepsOfSpec)

/-- ITS FALSE NEIGHBOUR: 'it returns false'. Refute it at one input. -/
def fnExactPairStepsOfWrong : ChangeSpec := { name := "fnExactPairStepsOf", fn := fun _ => fun
  | [d] => { results := [.lit (.bool false)], args := [d] }
  | _ => none }
def FnExactPairStepsOfWrongFalsely : Prop := fnExactPairStepsOfRow.holds Try.pinned (OpenSpec.ofChange fnExactPairStepsOfWrong)

/- THE SECOND FORM. 'bulk': how many values and letters a reading holds, each counted each time it is reached (what is shared counts as often as it is met; a slice's spare places count too). A statement '..UptoSaid' is the law's where the arguments, and the package variables that the reading takes, are together of bulk at most 1048576: NARROWER than '..Said'. Prove '..Said' where nothing that the law and all that it calls make is longer than what came in: it says more and counts as full. Else prove '..UptoSaid'. A law counts once. -/
mutual
def uptoBulk {H : Type} : DataW H → Nat
  | .lit (.string bytes) => bytes.length + 1
  | .lit _ => 1
  | .nil => 1
  | .ptr d => uptoBulk d + 1
  | .slice elems spare => uptoBulkAll elems + uptoBulkAll spare + 1
  | .agg parts => uptoBulkAll parts + 1
  | .iface _ d => uptoBulk d + 1
  | .map entries => uptoBulkEntries entries + 1
  | .held _ => 1
def uptoBulkAll {H : Type} : List (DataW H) → Nat
  | [] => 0
  | d :: r => uptoBulk d + uptoBulkAll r
def uptoBulkEntries {H : Type} : List (Lit × DataW H) → Nat
  | [] => 0
  | x :: r => uptoBulkEntry x + uptoBulkEntries r
def uptoBulkEntry {H : Type} : Lit × DataW H → Nat
  | (.string bytes, d) => bytes.length + uptoBulk d + 1
  | (_, d) => uptoBulk d + 1
 end
def uptoSmall : (H : Type) → List (DataW H) → Bool := fun _ ds => decide (uptoBulkAll ds ≤ 1048576)
def OpenSpec.upto (s : _root_.Go.ChangeSpec) : _root_.Go.OpenSpec := { _root_.Go.OpenSpec.ofChange s with cond := some uptoSmall }

/-- 'laws.FnExactAcOk', WHERE WHAT IT READS IS OF BULK AT MOST 1048576: true; the input reads as it did. -/
def fnExactAcOkUptoRow : OpenClaim := { program := "ytbagmcibfokonaa", sum := "01e98d7fbc35cf84bfabbbd68a740b5d1f932f63e7a0dcce7c629e2a01fb1afb", func := "loop.example/g00895/laws.FnExactAcOk", spec := "fnExactAcOk", apart := false, narrowed := true }
def FnExactAcOkUptoSaid : Prop := fnExactAcOkUptoRow.holds Try.pinned (OpenSpec.upto fnExactAcOkSpec)

/-- 'laws.FnExactNodeOk', WHERE WHAT IT READS IS OF BULK AT MOST 1048576: true; the input reads as it did. -/
def fnExactNodeOkUptoRow : OpenClaim := { program := "ytbagmcibfokonaa", sum := "01e98d7fbc35cf84bfabbbd68a740b5d1f932f63e7a0dcce7c629e2a01fb1afb", func := "loop.example/g00895/laws.FnExactNodeOk", spec := "fnExactNodeOk", unfollowed := true, recurses := true, apart := false, narrowed := true }
def FnExactNodeOkUptoSaid : Prop := fnExactNodeOkUptoRow.holds Try.pinned (OpenSpec.upto fnExactNodeOkSpec)

/-- 'laws.FnExactEqOk', WHERE WHAT IT READS IS OF BULK AT MOST 1048576: true; the input reads as it did. -/
def fnExactEqOkUptoRow : OpenClaim := { program := "ytbagmcibfokonaa", sum := "01e98d7fbc35cf84bfabbbd68a740b5d1f932f63e7a0dcce7c629e2a01fb1afb", func := "loop.example/g00895/laws.FnExactEqOk", spec := "fnExactEqOk", apart := false, narrowed := true }
def FnExactEqOkUptoSaid : Prop := fnExactEqOkUptoRow.holds Try.pinned (OpenSpec.upto fnExactEqOkSpec)

/-- 'laws.FnExactProofOk', WHERE WHAT IT READS IS OF BULK AT MOST 1048576: true; the input reads as it did. -/
def fnExactProofOkUptoRow : OpenClaim := { program := "ytbagmcibfokonaa", sum := "01e98d7fbc35cf84bfabbbd68a740b5d1f932f63e7a0dcce7c629e2a01fb1afb", func := "loop.example/g00895/laws.FnExactProofOk", spec := "fnExactProofOk", unfollowed := true, recurses := true, apart := false, narrowed := true }
def FnExactProofOkUptoSaid : Prop := fnExactProofOkUptoRow.holds Try.pinned (OpenSpec.upto fnExactProofOkSpec)

/-- 'laws.FnExactSameProof', WHERE WHAT IT READS IS OF BULK AT MOST 1048576: true; the input reads as it did. -/
def fnExactSameProofUptoRow : OpenClaim := { program := "ytbagmcibfokonaa", sum := "01e98d7fbc35cf84bfabbbd68a740b5d1f932f63e7a0dcce7c629e2a01fb1afb", func := "loop.example/g00895/laws.FnExactSameProof", spec := "fnExactSameProof", unfollowed := true, recurses := true, apart := false, narrowed := true }
def FnExactSameProofUptoSaid : Prop := fnExactSameProofUptoRow.holds Try.pinned (OpenSpec.upto fnExactSameProofSpec)

/-- 'laws.FnExactEqsOk', WHERE WHAT IT READS IS OF BULK AT MOST 1048576: true; the input reads as it did. -/
def fnExactEqsOkUptoRow : OpenClaim := { program := "ytbagmcibfokonaa", sum := "01e98d7fbc35cf84bfabbbd68a740b5d1f932f63e7a0dcce7c629e2a01fb1afb", func := "loop.example/g00895/laws.FnExactEqsOk", spec := "fnExactEqsOk", unfollowed := true, recurses := true, apart := false, narrowed := true }
def FnExactEqsOkUptoSaid : Prop := fnExactEqsOkUptoRow.holds Try.pinned (OpenSpec.upto fnExactEqsOkSpec)

/-- 'laws.FnExactPairStepsOf', WHERE WHAT IT READS IS OF BULK AT MOST 1048576: true; the input reads as it did. -/
def fnExactPairStepsOfUptoRow : OpenClaim := { program := "ytbagmcibfokonaa", sum := "01e98d7fbc35cf84bfabbbd68a740b5d1f932f63e7a0dcce7c629e2a01fb1afb", func := "loop.example/g00895/laws.FnExactPairStepsOf", spec := "fnExactPairStepsOf", apart := false, narrowed := true }
def FnExactPairStepsOfUptoSaid : Prop := fnExactPairStepsOfUptoRow.holds Try.pinned (OpenSpec.upto fnExactPairStepsOfSpec)

end Rows
end Go.Proofs.Ytbagmcibfokonaa
