/-
  No cell of these rows narrows 'for every input' (looked for: loops, veiled, ifaces, maps, wideKeys, modest, calm, conditions, laid).
  DERIVED. THE GIVEN ROWS OF THIS SEAT. 12 by the template 'for every input the law returns true; each argument reads behind the call as it read before'; 0 by the template 'total and deterministic' (their statements: YtobbdopkdhjghaaTotals.lean).
  GIVEN WITH THE SEED: the statements are not yours to turn. If you find one false, say at which input.
  Laid BY PROGRAM, IN A SANDBOX (cutbox-rows.mjs): the forced cells as the released guide's own fill.sh prints them over the translation b1cb627610681765… (all of the seat's roots in one cut). By AI agents, Wed Nov 11 2026. No macro, syntax, notation, axiom, sorry.
-/
import Derived.Test.YtobbdopkdhjghaaChecked
import GoSem.Claim
import GoSem.ClaimJoined
import GoSem.ClaimMapViews
import Derived.JoinedTies
import Derived.KernelRfl
namespace Go.Proofs.Ytobbdopkdhjghaa
/- THE CELL 'sum', in the pinned program and in every row, IS THE sha256 OF THE DUMP (.gsa) THAT YtobbdopkdhjghaaProg.lean LOADS. Nothing in Lean hashes anything: it is a label: what it is worth is what the hold of that sum in a sandbox is worth. -/
noncomputable def Try.pinned : Pinned := { name := "ytobbdopkdhjghaa", sum := "b1cb6276106817652e91feb14f348c49bf50fa2af6780946cdbd3ea4ee7f0bb8", checked := Try.checked }
namespace Rows
def none {H : Type} : Left H := { results := [], args := [] }

/-- 'laws.FnExactAcArgs': WHATEVER THE INPUT: true; the input reads as it did. -/
def fnExactAcArgsSpec : ChangeSpec := { name := "fnExactAcArgs", fn := fun _ => fun
  | [d1, d2, d3] => { results := [.lit (.bool true)], args := [d1, d2, d3] }
  | _ => none }
def fnExactAcArgsRow : OpenClaim := { program := "ytobbdopkdhjghaa", sum := "b1cb6276106817652e91feb14f348c49bf50fa2af6780946cdbd3ea4ee7f0bb8", func := "loop.example/g00895/laws.FnExactAcArgs", spec := "fnExactAcArgs", unfollowed := true, recurses := true, apart := false }
def FnExactAcArgsSaid : Prop := fnExactAcArgsRow.holds Try.pinned (OpenSpec.ofChange fnExactAcArgsSpec)

/-- ITS FALSE NEIGHBOUR: 'it returns false'. Refute it at one input. -/
def fnExactAcArgsWrong : ChangeSpec := { name := "fnExactAcArgs", fn := fun _ => fun
  | [d1, d2, d3] => { results := [.lit (.bool false)], args := [d1, d2, d3] }
  | _ => none }
def FnExactAcArgsWrongFalsely : Prop := fnExactAcArgsRow.holds Try.pinned (OpenSpec.ofChange fnExactAcArgsWrong)

/-- 'laws.FnExactSortedForm': WHATEVER THE INPUT: true; the input reads as it did. -/
def fnExactSortedFormSpec : ChangeSpec := { name := "fnExactSortedForm", fn := fun _ => fun
  | [d1, d2, d3] => { results := [.lit (.bool true)], args := [d1, d2, d3] }
  | _ => none }
def fnExactSortedFormRow : OpenClaim := { program := "ytobbdopkdhjghaa", sum := "b1cb6276106817652e91feb14f348c49bf50fa2af6780946cdbd3ea4ee7f0bb8", func := "loop.example/g00895/laws.FnExactSortedForm", spec := "fnExactSortedForm", unfollowed := true, recurses := true, apart := false }
def FnExactSortedFormSaid : Prop := fnExactSortedFormRow.holds Try.pinned (OpenSpec.ofChange fnExactSortedFormSpec)

/-- ITS FALSE NEIGHBOUR: 'it returns false'. Refute it at one input. -/
def fnExactSortedFormWrong : ChangeSpec := { name := "fnExactSortedForm", fn := fun _ => fun
  | [d1, d2, d3] => { results := [.lit (.bool false)], args := [d1, d2, d3] }
  | _ => none }
def FnExactSortedFormWrongFalsely : Prop := fnExactSortedFormRow.holds Try.pinned (OpenSpec.ofChange fnExactSortedFormWrong)

/-- 'laws.FnExactAcSame': WHATEVER THE INPUT: true; the input reads as it did. -/
def fnExactAcSameSpec : ChangeSpec := { name := "fnExactAcSame", fn := fun _ => fun
  | [d1, d2, d3, d4] => { results := [.lit (.bool true)], args := [d1, d2, d3, d4] }
  | _ => none }
def fnExactAcSameRow : OpenClaim := { program := "ytobbdopkdhjghaa", sum := "b1cb6276106817652e91feb14f348c49bf50fa2af6780946cdbd3ea4ee7f0bb8", func := "loop.example/g00895/laws.FnExactAcSame", spec := "fnExactAcSame", unfollowed := true, recurses := true, apart := false }
def FnExactAcSameSaid : Prop := fnExactAcSameRow.holds Try.pinned (OpenSpec.ofChange fnExactAcSameSpec)

/-- ITS FALSE NEIGHBOUR: 'it returns false'. Refute it at one input. -/
def fnExactAcSameWrong : ChangeSpec := { name := "fnExactAcSame", fn := fun _ => fun
  | [d1, d2, d3, d4] => { results := [.lit (.bool false)], args := [d1, d2, d3, d4] }
  | _ => none }
def FnExactAcSameWrongFalsely : Prop := fnExactAcSameRow.holds Try.pinned (OpenSpec.ofChange fnExactAcSameWrong)

/-- 'laws.FnExactGroundsOf': WHATEVER THE INPUT: true; the input reads as it did. -/
def fnExactGroundsOfSpec : ChangeSpec := { name := "fnExactGroundsOf", fn := fun _ => fun
  | [d1, d2] => { results := [.lit (.bool true)], args := [d1, d2] }
  | _ => none }
def fnExactGroundsOfRow : OpenClaim := { program := "ytobbdopkdhjghaa", sum := "b1cb6276106817652e91feb14f348c49bf50fa2af6780946cdbd3ea4ee7f0bb8", func := "loop.example/g00895/laws.FnExactGroundsOf", spec := "fnExactGroundsOf", unfollowed := true, recurses := true, apart := false }
def FnExactGroundsOfSaid : Prop := fnExactGroundsOfRow.holds Try.pinned (OpenSpec.ofChange fnExactGroundsOfSpec)

/-- ITS FALSE NEIGHBOUR: 'it returns false'. Refute it at one input. -/
def fnExactGroundsOfWrong : ChangeSpec := { name := "fnExactGroundsOf", fn := fun _ => fun
  | [d1, d2] => { results := [.lit (.bool false)], args := [d1, d2] }
  | _ => none }
def FnExactGroundsOfWrongFalsely : Prop := fnExactGroundsOfRow.holds Try.pinned (OpenSpec.ofChange fnExactGroundsOfWrong)

/-- 'laws.FnExactBasicsOf': WHATEVER THE INPUT: true; the input reads as it did. -/
def fnExactBasicsOfSpec : ChangeSpec := { name := "fnExactBasicsOf", fn := fun _ => fun
  | [d1, d2] => { results := [.lit (.bool true)], args := [d1, d2] }
  | _ => none }
def fnExactBasicsOfRow : OpenClaim := { program := "ytobbdopkdhjghaa", sum := "b1cb6276106817652e91feb14f348c49bf50fa2af6780946cdbd3ea4ee7f0bb8", func := "loop.example/g00895/laws.FnExactBasicsOf", spec := "fnExactBasicsOf", unfollowed := true, recurses := true, apart := false }
def FnExactBasicsOfSaid : Prop := fnExactBasicsOfRow.holds Try.pinned (OpenSpec.ofChange fnExactBasicsOfSpec)

/-- ITS FALSE NEIGHBOUR: 'it returns false'. Refute it at one input. -/
def fnExactBasicsOfWrong : ChangeSpec := { name := "fnExactBasicsOf", fn := fun _ => fun
  | [d1, d2] => { results := [.lit (.bool false)], args := [d1, d2] }
  | _ => none }
def FnExactBasicsOfWrongFalsely : Prop := fnExactBasicsOfRow.holds Try.pinned (OpenSpec.ofChange fnExactBasicsOfWrong)

/-- 'laws.FnExactShapesOf': WHATEVER THE INPUT: true; the input reads as it did. -/
def fnExactShapesOfSpec : ChangeSpec := { name := "fnExactShapesOf", fn := fun _ => fun
  | [d] => { results := [.lit (.bool true)], args := [d] }
  | _ => none }
def fnExactShapesOfRow : OpenClaim := { program := "ytobbdopkdhjghaa", sum := "b1cb6276106817652e91feb14f348c49bf50fa2af6780946cdbd3ea4ee7f0bb8", func := "loop.example/g00895/laws.FnExactShapesOf", spec := "fnExactShapesOf", unfollowed := true, recurses := true, apart := false }
def FnExactShapesOfSaid : Prop := fnExactShapesOfRow.holds Try.pinned (OpenSpec.ofChange fnExactShapesOfSpec)

/-- ITS FALSE NEIGHBOUR: 'it returns false'. Refute it at one input. -/
def fnExactShapesOfWrong : ChangeSpec := { name := "fnExactShapesOf", fn := fun _ => fun
  | [d] => { results := [.lit (.bool false)], args := [d] }
  | _ => none }
def FnExactShapesOfWrongFalsely : Prop := fnExactShapesOfRow.holds Try.pinned (OpenSpec.ofChange fnExactShapesOfWrong)

/-- 'laws.FnExactBothAuto': WHATEVER THE INPUT: true; the input reads as it did. -/
def fnExactBothAutoSpec : ChangeSpec := { name := "fnExactBothAuto", fn := fun _ => fun
  | [d1, d2, d3] => { results := [.lit (.bool true)], args := [d1, d2, d3] }
  | _ => none }
def fnExactBothAutoRow : OpenClaim := { program := "ytobbdopkdhjghaa", sum := "b1cb6276106817652e91feb14f348c49bf50fa2af6780946cdbd3ea4ee7f0bb8", func := "loop.example/g00895/laws.FnExactBothAuto", spec := "fnExactBothAuto", unfollowed := true, recurses := true, apart := false }
def FnExactBothAutoSaid : Prop := fnExactBothAutoRow.holds Try.pinned (OpenSpec.ofChange fnExactBothAutoSpec)

/-- ITS FALSE NEIGHBOUR: 'it returns false'. Refute it at one input. -/
def fnExactBothAutoWrong : ChangeSpec := { name := "fnExactBothAuto", fn := fun _ => fun
  | [d1, d2, d3] => { results := [.lit (.bool false)], args := [d1, d2, d3] }
  | _ => none }
def FnExactBothAutoWrongFalsely : Prop := fnExactBothAutoRow.holds Try.pinned (OpenSpec.ofChange fnExactBothAutoWrong)

/-- 'laws.FnExactSlopeOf': WHATEVER THE INPUT: true; the input reads as it did. -/
def fnExactSlopeOfSpec : ChangeSpec := { name := "fnExactSlopeOf", fn := fun _ => fun
  | [d1, d2] => { results := [.lit (.bool true)], args := [d1, d2] }
  | _ => none }
def fnExactSlopeOfRow : OpenClaim := { program := "ytobbdopkdhjghaa", sum := "b1cb6276106817652e91feb14f348c49bf50fa2af6780946cdbd3ea4ee7f0bb8", func := "loop.example/g00895/laws.FnExactSlopeOf", spec := "fnExactSlopeOf", unfollowed := true, recurses := true, apart := false }
def FnExactSlopeOfSaid : Prop := fnExactSlopeOfRow.holds Try.pinned (OpenSpec.ofChange fnExactSlopeOfSpec)

/-- ITS FALSE NEIGHBOUR: 'it returns false'. Refute it at one input. -/
def fnExactSlopeOfWrong : ChangeSpec := { name := "fnExactSlopeOf", fn := fun _ => fun
  | [d1, d2] => { results := [.lit (.bool false)], args := [d1, d2] }
  | _ => none }
def FnExactSlopeOfWrongFalsely : Prop := fnExactSlopeOfRow.holds Try.pinned (OpenSpec.ofChange fnExactSlopeOfWrong)

/-- 'laws.FnExactBoundBy': WHATEVER THE INPUT: true; the input reads as it did. -/
def fnExactBoundBySpec : ChangeSpec := { name := "fnExactBoundBy", fn := fun _ => fun
  | [d1, d2, d3] => { results := [.lit (.bool true)], args := [d1, d2, d3] }
  | _ => none }
def fnExactBoundByRow : OpenClaim := { program := "ytobbdopkdhjghaa", sum := "b1cb6276106817652e91feb14f348c49bf50fa2af6780946cdbd3ea4ee7f0bb8", func := "loop.example/g00895/laws.FnExactBoundBy", spec := "fnExactBoundBy", unfollowed := true, recurses := true, apart := false }
def FnExactBoundBySaid : Prop := fnExactBoundByRow.holds Try.pinned (OpenSpec.ofChange fnExactBoundBySpec)

/-- ITS FALSE NEIGHBOUR: 'it returns false'. Refute it at one input. -/
def fnExactBoundByWrong : ChangeSpec := { name := "fnExactBoundBy", fn := fun _ => fun
  | [d1, d2, d3] => { results := [.lit (.bool false)], args := [d1, d2, d3] }
  | _ => none }
def FnExactBoundByWrongFalsely : Prop := fnExactBoundByRow.holds Try.pinned (OpenSpec.ofChange fnExactBoundByWrong)

/-- 'laws.FnVariants': WHATEVER THE INPUT: true; the input reads as it did. -/
def fnVariantsSpec : ChangeSpec := { name := "fnVariants", fn := fun _ => fun
  | [d] => { results := [.lit (.bool true)], args := [d] }
  | _ => none }
def fnVariantsRow : OpenClaim := { program := "ytobbdopkdhjghaa", sum := "b1cb6276106817652e91feb14f348c49bf50fa2af6780946cdbd3ea4ee7f0bb8", func := "loop.example/g00895/laws.FnVariants", spec := "fnVariants", unfollowed := true, recurses := true, apart := false }
def FnVariantsSaid : Prop := fnVariantsRow.holds Try.pinned (OpenSpec.ofChange fnVariantsSpec)

/-- ITS FALSE NEIGHBOUR: 'it returns false'. Refute it at one input. -/
def fnVariantsWrong : ChangeSpec := { name := "fnVariants", fn := fun _ => fun
  | [d] => { results := [.lit (.bool false)], args := [d] }
  | _ => none }
def FnVariantsWrongFalsely : Prop := fnVariantsRow.holds Try.pinned (OpenSpec.ofChange fnVariantsWrong)

/-- 'laws.FnSorted': WHATEVER THE INPUT: true; the input reads as it did. -/
def fnSortedSpec : ChangeSpec := { name := "fnSorted", fn := fun _ => fun
  | [d] => { results := [.lit (.bool true)], args := [d] }
  | _ => none }
def fnSortedRow : OpenClaim := { program := "ytobbdopkdhjghaa", sum := "b1cb6276106817652e91feb14f348c49bf50fa2af6780946cdbd3ea4ee7f0bb8", func := "loop.example/g00895/laws.FnSorted", spec := "fnSorted", unfollowed := true, recurses := true, apart := false }
def FnSortedSaid : Prop := fnSortedRow.holds Try.pinned (OpenSpec.ofChange fnSortedSpec)

/-- ITS FALSE NEIGHBOUR: 'it returns false'. Refute it at one input. -/
def fnSortedWrong : ChangeSpec := { name := "fnSorted", fn := fun _ => fun
  | [d] => { results := [.lit (.bool false)], args := [d] }
  | _ => none }
def FnSortedWrongFalsely : Prop := fnSortedRow.holds Try.pinned (OpenSpec.ofChange fnSortedWrong)

/-- 'laws.FnExactTurnedChain': WHATEVER THE INPUT: true; the input reads as it did. -/
def fnExactTurnedChainSpec : ChangeSpec := { name := "fnExactTurnedChain", fn := fun _ => fun
  | [d1, d2, d3] => { results := [.lit (.bool true)], args := [d1, d2, d3] }
  | _ => none }
def fnExactTurnedChainRow : OpenClaim := { program := "ytobbdopkdhjghaa", sum := "b1cb6276106817652e91feb14f348c49bf50fa2af6780946cdbd3ea4ee7f0bb8", func := "loop.example/g00895/laws.FnExactTurnedChain", spec := "fnExactTurnedChain", unfollowed := true, recurses := true, apart := false }
def FnExactTurnedChainSaid : Prop := fnExactTurnedChainRow.holds Try.pinned (OpenSpec.ofChange fnExactTurnedChainSpec)

/-- ITS FALSE NEIGHBOUR: 'it returns false'. Refute it at one input. -/
def fnExactTurnedChainWrong : ChangeSpec := { name := "fnExactTurnedChain", fn := fun _ => fun
  | [d1, d2, d3] => { results := [.lit (.bool false)], args := [d1, d2, d3] }
  | _ => none }
def FnExactTurnedChainWrongFalsely : Prop := fnExactTurnedChainRow.holds Try.pinned (OpenSpec.ofChange fnExactTurnedChainWrong)

/- THE SECOND FORM. 'bulk': how many values and letters a reading holds, each counted each time it is reached (what is shared counts as often as it is met; a slice's spare places count too). A statement '..UptoSaid' is the law's where the arguments, and the package variables that the reading takes, are together of bulk at most 1048576: NARROWER than '..Said'. Prove '..Said' where nothing that the law and all that it calls make is longer than what came in: it says more and counts as full. Else prove '..UptoSaid'. A law counts once. -/
mutual
def uptoBulk {H : Type} : DataW H → Nat
  | .lit (.string bytes) => bytes.length + 1
  | .lit _ => 1
  | .nil => 1
  | .ptr d => uptoBulk d + 1
  | .slice elems spare => uptoBulkAll elems + uptoBulkAll spare + 1
  | .agg parts => uptoBulkAll parts + 1
  | .iface _ d => uptoBulk d + 1
  | .map entries => uptoBulkEntries entries + 1
  | .held _ => 1
def uptoBulkAll {H : Type} : List (DataW H) → Nat
  | [] => 0
  | d :: r => uptoBulk d + uptoBulkAll r
def uptoBulkEntries {H : Type} : List (Lit × DataW H) → Nat
  | [] => 0
  | x :: r => uptoBulkEntry x + uptoBulkEntries r
def uptoBulkEntry {H : Type} : Lit × DataW H → Nat
  | (.string bytes, d) => bytes.length + uptoBulk d + 1
  | (_, d) => uptoBulk d + 1
 end
def uptoSmall : (H : Type) → List (DataW H) → Bool := fun _ ds => decide (uptoBulkAll ds ≤ 1048576)
def OpenSpec.upto (s : _root_.Go.ChangeSpec) : _root_.Go.OpenSpec := { _root_.Go.OpenSpec.ofChange s with cond := some uptoSmall }

/-- 'laws.FnExactAcArgs', WHERE WHAT IT READS IS OF BULK AT MOST 1048576: true; the input reads as it did. -/
def fnExactAcArgsUptoRow : OpenClaim := { program := "ytobbdopkdhjghaa", sum := "b1cb6276106817652e91feb14f348c49bf50fa2af6780946cdbd3ea4ee7f0bb8", func := "loop.example/g00895/laws.FnExactAcArgs", spec := "fnExactAcArgs", unfollowed := true, recurses := true, apart := false, narrowed := true }
def FnExactAcArgsUptoSaid : Prop := fnExactAcArgsUptoRow.holds Try.pinned (OpenSpec.upto fnExactAcArgsSpec)

/-- 'laws.FnExactSortedForm', WHERE WHAT IT READS IS OF BULK AT MOST 1048576: true; the input reads as it did. -/
def fnExactSortedFormUptoRow : OpenClaim := { program := "ytobbdopkdhjghaa", sum := "b1cb6276106817652e91feb14f348c49bf50fa2af6780946cdbd3ea4ee7f0bb8", func := "loop.example/g00895/laws.FnExactSortedForm", spec := "fnExactSortedForm", unfollowed := true, recurses := true, apart := false, narrowed := true }
def FnExactSortedFormUptoSaid : Prop := fnExactSortedFormUptoRow.holds Try.pinned (OpenSpec.upto fnExactSortedFormSpec)

/-- 'laws.FnExactAcSame', WHERE WHAT IT READS IS OF BULK AT MOST 1048576: true; the input reads as it did. -/
def fnExactAcSameUptoRow : OpenClaim := { program := "ytobbdopkdhjghaa", sum := "b1cb6276106817652e91feb14f348c49bf50fa2af6780946cdbd3ea4ee7f0bb8", func := "loop.example/g00895/laws.FnExactAcSame", spec := "fnExactAcSame", unfollowed := true, recurses := true, apart := false, narrowed := true }
def FnExactAcSameUptoSaid : Prop := fnExactAcSameUptoRow.holds Try.pinned (OpenSpec.upto fnExactAcSameSpec)

/-- 'laws.FnExactGroundsOf', WHERE WHAT IT READS IS OF BULK AT MOST 1048576: true; the input reads as it did. -/
def fnExactGroundsOfUptoRow : OpenClaim := { program := "ytobbdopkdhjghaa", sum := "b1cb6276106817652e91feb14f348c49bf50fa2af6780946cdbd3ea4ee7f0bb8", func := "loop.example/g00895/laws.FnExactGroundsOf", spec := "fnExactGroundsOf", unfollowed := true, recurses := true, apart := false, narrowed := true }
def FnExactGroundsOfUptoSaid : Prop := fnExactGroundsOfUptoRow.holds Try.pinned (OpenSpec.upto fnExactGroundsOfSpec)

/-- 'laws.FnExactBasicsOf', WHERE WHAT IT READS IS OF BULK AT MOST 1048576: true; the input reads as it did. -/
def fnExactBasicsOfUptoRow : OpenClaim := { program := "ytobbdopkdhjghaa", sum := "b1cb6276106817652e91feb14f348c49bf50fa2af6780946cdbd3ea4ee7f0bb8", func := "loop.example/g00895/laws.FnExactBasicsOf", spec := "fnExactBasicsOf", unfollowed := true, recurses := true, apart := false, narrowed := true }
def FnExactBasicsOfUptoSaid : Prop := fnExactBasicsOfUptoRow.holds Try.pinned (OpenSpec.upto fnExactBasicsOfSpec)

/-- 'laws.FnExactShapesOf', WHERE WHAT IT READS IS OF BULK AT MOST 1048576: true; the input reads as it did. -/
def fnExactShapesOfUptoRow : OpenClaim := { program := "ytobbdopkdhjghaa", sum := "b1cb6276106817652e91feb14f348c49bf50fa2af6780946cdbd3ea4ee7f0bb8", func := "loop.example/g00895/laws.FnExactShapesOf", spec := "fnExactShapesOf", unfollowed := true, recurses := true, apart := false, narrowed := true }
def FnExactShapesOfUptoSaid : Prop := fnExactShapesOfUptoRow.holds Try.pinned (OpenSpec.upto fnExactShapesOfSpec)

/-- 'laws.FnExactBothAuto', WHERE WHAT IT READS IS OF BULK AT MOST 1048576: true; the input reads as it did. -/
def fnExactBothAutoUptoRow : OpenClaim := { program := "ytobbdopkdhjghaa", sum := "b1cb6276106817652e91feb14f348c49bf50fa2af6780946cdbd3ea4ee7f0bb8", func := "loop.example/g00895/laws.FnExactBothAuto", spec := "fnExactBothAuto", unfollowed := true, recurses := true, apart := false, narrowed := true }
def FnExactBothAutoUptoSaid : Prop := fnExactBothAutoUptoRow.holds Try.pinned (OpenSpec.upto fnExactBothAutoSpec)

/-- 'laws.FnExactSlopeOf', WHERE WHAT IT READS IS OF BULK AT MOST 1048576: true; the input reads as it did. -/
def fnExactSlopeOfUptoRow : OpenClaim := { program := "ytobbdopkdhjghaa", sum := "b1cb6276106817652e91feb14f348c49bf50fa2af6780946cdbd3ea4ee7f0bb8", func := "loop.example/g00895/laws.FnExactSlopeOf", spec := "fnExactSlopeOf", unfollowed := true, recurses := true, apart := false, narrowed := true }
def FnExactSlopeOfUptoSaid : Prop := fnExactSlopeOfUptoRow.holds Try.pinned (OpenSpec.upto fnExactSlopeOfSpec)

/-- 'laws.FnExactBoundBy', WHERE WHAT IT READS IS OF BULK AT MOST 1048576: true; the input reads as it did. -/
def fnExactBoundByUptoRow : OpenClaim := { program := "ytobbdopkdhjghaa", sum := "b1cb6276106817652e91feb14f348c49bf50fa2af6780946cdbd3ea4ee7f0bb8", func := "loop.example/g00895/laws.FnExactBoundBy", spec := "fnExactBoundBy", unfollowed := true, recurses := true, apart := false, narrowed := true }
def FnExactBoundByUptoSaid : Prop := fnExactBoundByUptoRow.holds Try.pinned (OpenSpec.upto fnExactBoundBySpec)

/-- 'laws.FnVariants', WHERE WHAT IT READS IS OF BULK AT MOST 1048576: true; the input reads as it did. -/
def fnVariantsUptoRow : OpenClaim := { program := "ytobbdopkdhjghaa", sum := "b1cb6276106817652e91feb14f348c49bf50fa2af6780946cdbd3ea4ee7f0bb8", func := "loop.example/g00895/laws.FnVariants", spec := "fnVariants", unfollowed := true, recurses := true, apart := false, narrowed := true }
def FnVariantsUptoSaid : Prop := fnVariantsUptoRow.holds Try.pinned (OpenSpec.upto fnVariantsSpec)

/-- 'laws.FnSorted', WHERE WHAT IT READS IS OF BULK AT MOST 1048576: true; the input reads as it did. -/
def fnSortedUptoRow : OpenClaim := { program := "ytobbdopkdhjghaa", sum := "b1cb6276106817652e91feb14f348c49bf50fa2af6780946cdbd3ea4ee7f0bb8", func := "loop.example/g00895/laws.FnSorted", spec := "fnSorted", unfollowed := true, recurses := true, apart := false, narrowed := true }
def FnSortedUptoSaid : Prop := fnSortedUptoRow.holds Try.pinned (OpenSpec.upto fnSortedSpec)

/-- 'laws.FnExactTurnedChain', WHERE WHAT IT READS IS OF BULK AT MOST 1048576: true; the input reads as it did. -/
def fnExactTurnedChainUptoRow : OpenClaim := { program := "ytobbdopkdhjghaa", sum := "b1cb6276106817652e91feb14f348c49bf50fa2af6780946cdbd3ea4ee7f0bb8", func := "loop.example/g00895/laws.FnExactTurnedChain", spec := "fnExactTurnedChain", unfollowed := true, recurses := true, apart := false, narrowed := true }
def FnExactTurnedChainUptoSaid : Prop := fnExactTurnedChainUptoRow.holds Try.pinned (OpenSpec.upto fnExactTurnedChainSpec)

end Rows
end Go.Proofs.Ytobbdopkdhjghaa
