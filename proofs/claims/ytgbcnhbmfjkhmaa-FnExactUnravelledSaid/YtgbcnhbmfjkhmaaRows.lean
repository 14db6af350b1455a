/-
  No cell of these rows narrows 'for every input' (looked for: loops, veiled, ifaces, maps, wideKeys, modest, calm, conditions, laid).
  DERIVED. THE GIVEN ROWS OF THIS SEAT. 12 by the template 'for every input the law returns true; each argument reads behind the call as it read before'; 0 by the template 'total and deterministic' (their statements: YtgbcnhbmfjkhmaaTotals.lean).
  GIVEN WITH THE SEED: the statements are not yours to turn. If you find one false, say at which input.
  Laid BY PROGRAM, IN A SANDBOX (cutbox-rows.mjs): the forced cells as the released guide's own fill.sh prints them over the translation 27ae3f38aecef7b8… (all of the seat's roots in one cut). By AI agents, Wed Nov 11 2026. No macro, syntax, notation, axiom, sorry.
-/
import Derived.Test.YtgbcnhbmfjkhmaaChecked
import GoSem.Claim
import GoSem.ClaimJoined
import GoSem.ClaimMapViews
import Derived.JoinedTies
import Derived.KernelRfl
namespace Go.Proofs.Ytgbcnhbmfjkhmaa
/- THE CELL 'sum', in the pinned program and in every row, IS THE sha256 OF THE DUMP (.gsa) THAT YtgbcnhbmfjkhmaaProg.lean LOADS. Nothing in Lean hashes anything: it is a label: what it is worth is what the hold of that sum in a sandbox is worth. -/
noncomputable def Try.pinned : Pinned := { name := "ytgbcnhbmfjkhmaa", sum := "27ae3f38aecef7b81d76d831a4e4546ba9882c5b2fbc1c734ef2da71542d6154", checked := Try.checked }
namespace Rows
def none {H : Type} : Left H := { results := [], args := [] }

/-- 'laws.FnExactEitherAuto': WHATEVER THE INPUT: true; the input reads as it did. -/
def fnExactEitherAutoSpec : ChangeSpec := { name := "fnExactEitherAuto", fn := fun _ => fun
  | [d1, d2, d3] => { results := [.lit (.bool true)], args := [d1, d2, d3] }
  | _ => none }
def fnExactEitherAutoRow : OpenClaim := { program := "ytgbcnhbmfjkhmaa", sum := "27ae3f38aecef7b81d76d831a4e4546ba9882c5b2fbc1c734ef2da71542d6154", func := "loop.example/g00895/laws.FnExactEitherAuto", spec := "fnExactEitherAuto", unfollowed := true, recurses := true, apart := false }
def FnExactEitherAutoSaid : Prop := fnExactEitherAutoRow.holds Try.pinned (OpenSpec.ofChange fnExactEitherAutoSpec)

/-- ITS FALSE NEIGHBOUR: 'it returns false'. Refute it at one input. -/
def fnExactEitherAutoWrong : ChangeSpec := { name := "fnExactEitherAuto", fn := fun _ => fun
  | [d1, d2, d3] => { results := [.lit (.bool false)], args := [d1, d2, d3] }
  | _ => none }
def FnExactEitherAutoWrongFalsely : Prop := fnExactEitherAutoRow.holds Try.pinned (OpenSpec.ofChange fnExactEitherAutoWrong)

/-- 'laws.FnExactGeneralisedAll': WHATEVER THE INPUT: true; the input reads as it did. -/
def fnExactGeneralisedAllSpec : ChangeSpec := { name := "fnExactGeneralisedAll", fn := fun _ => fun
  | [d1, d2] => { results := [.lit (.bool true)], args := [d1, d2] }
  | _ => none }
def fnExactGeneralisedAllRow : OpenClaim := { program := "ytgbcnhbmfjkhmaa", sum := "27ae3f38aecef7b81d76d831a4e4546ba9882c5b2fbc1c734ef2da71542d6154", func := "loop.example/g00895/laws.FnExactGeneralisedAll", spec := "fnExactGeneralisedAll", recurses := true, apart := false }
def FnExactGeneralisedAllSaid : Prop := fnExactGeneralisedAllRow.holds Try.pinned (OpenSpec.ofChange fnExactGeneralisedAllSpec)

/-- ITS FALSE NEIGHBOUR: 'it returns false'. Refute it at one input. -/
def fnExactGeneralisedAllWrong : ChangeSpec := { name := "fnExactGeneralisedAll", fn := fun _ => fun
  | [d1, d2] => { results := [.lit (.bool false)], args := [d1, d2] }
  | _ => none }
def FnExactGeneralisedAllWrongFalsely : Prop := fnExactGeneralisedAllRow.holds Try.pinned (OpenSpec.ofChange fnExactGeneralisedAllWrong)

/-- 'laws.FnExactJoinedChain': WHATEVER THE INPUT: true; the input reads as it did. -/
def fnExactJoinedChainSpec : ChangeSpec := { name := "fnExactJoinedChain", fn := fun _ => fun
  | [d1, d2, d3, d4] => { results := [.lit (.bool true)], args := [d1, d2, d3, d4] }
  | _ => none }
def fnExactJoinedChainRow : OpenClaim := { program := "ytgbcnhbmfjkhmaa", sum := "27ae3f38aecef7b81d76d831a4e4546ba9882c5b2fbc1c734ef2da71542d6154", func := "loop.example/g00895/laws.FnExactJoinedChain", spec := "fnExactJoinedChain", unfollowed := true, recurses := true, apart := false }
def FnExactJoinedChainSaid : Prop := fnExactJoinedChainRow.holds Try.pinned (OpenSpec.ofChange fnExactJoinedChainSpec)

/-- ITS FALSE NEIGHBOUR: 'it returns false'. Refute it at one input. -/
def fnExactJoinedChainWrong : ChangeSpec := { name := "fnExactJoinedChain", fn := fun _ => fun
  | [d1, d2, d3, d4] => { results := [.lit (.bool false)], args := [d1, d2, d3, d4] }
  | _ => none }
def FnExactJoinedChainWrongFalsely : Prop := fnExactJoinedChainRow.holds Try.pinned (OpenSpec.ofChange fnExactJoinedChainWrong)

/-- 'laws.FnExactTurnedChain': WHATEVER THE INPUT: true; the input reads as it did. -/
def fnExactTurnedChainSpec : ChangeSpec := { name := "fnExactTurnedChain", fn := fun _ => fun
  | [d1, d2, d3] => { results := [.lit (.bool true)], args := [d1, d2, d3] }
  | _ => none }
def fnExactTurnedChainRow : OpenClaim := { program := "ytgbcnhbmfjkhmaa", sum := "27ae3f38aecef7b81d76d831a4e4546ba9882c5b2fbc1c734ef2da71542d6154", func := "loop.example/g00895/laws.FnExactTurnedChain", spec := "fnExactTurnedChain", unfollowed := true, recurses := true, apart := false }
def FnExactTurnedChainSaid : Prop := fnExactTurnedChainRow.holds Try.pinned (OpenSpec.ofChange fnExactTurnedChainSpec)

/-- ITS FALSE NEIGHBOUR: 'it returns false'. Refute it at one input. -/
def fnExactTurnedChainWrong : ChangeSpec := { name := "fnExactTurnedChain", fn := fun _ => fun
  | [d1, d2, d3] => { results := [.lit (.bool false)], args := [d1, d2, d3] }
  | _ => none }
def FnExactTurnedChainWrongFalsely : Prop := fnExactTurnedChainRow.holds Try.pinned (OpenSpec.ofChange fnExactTurnedChainWrong)

/-- 'laws.FnExactOrientedEq': WHATEVER THE INPUT: true; the input reads as it did. -/
def fnExactOrientedEqSpec : ChangeSpec := { name := "fnExactOrientedEq", fn := fun _ => fun
  | [d1, d2, d3] => { results := [.lit (.bool true)], args := [d1, d2, d3] }
  | _ => none }
def fnExactOrientedEqRow : OpenClaim := { program := "ytgbcnhbmfjkhmaa", sum := "27ae3f38aecef7b81d76d831a4e4546ba9882c5b2fbc1c734ef2da71542d6154", func := "loop.example/g00895/laws.FnExactOrientedEq", spec := "fnExactOrientedEq", unfollowed := true, recurses := true, apart := false }
def FnExactOrientedEqSaid : Prop := fnExactOrientedEqRow.holds Try.pinned (OpenSpec.ofChange fnExactOrientedEqSpec)

/-- ITS FALSE NEIGHBOUR: 'it returns false'. Refute it at one input. -/
def fnExactOrientedEqWrong : ChangeSpec := { name := "fnExactOrientedEq", fn := fun _ => fun
  | [d1, d2, d3] => { results := [.lit (.bool false)], args := [d1, d2, d3] }
  | _ => none }
def FnExactOrientedEqWrongFalsely : Prop := fnExactOrientedEqRow.holds Try.pinned (OpenSpec.ofChange fnExactOrientedEqWrong)

/-- 'laws.FnExactUnravelled': WHATEVER THE INPUT: true; the input reads as it did. -/
def fnExactUnravelledSpec : ChangeSpec := { name := "fnExactUnravelled", fn := fun _ => fun
  | [d] => { results := [.lit (.bool true)], args := [d] }
  | _ => none }
def fnExactUnravelledRow : OpenClaim := { program := "ytgbcnhbmfjkhmaa", sum := "27ae3f38aecef7b81d76d831a4e4546ba9882c5b2fbc1c734ef2da71542d6154", func := "loop.example/g00895/laws.FnExactUnravelled", spec := "fnExactUnravelled", unfollowed := true, recurses := true, apart := false }
def FnExactUnravelledSaid : Prop := fnExactUnravelledRow.holds Try.pinned (OpenSpec.ofChange fnExactUnravelledSpec)

/-- ITS FALSE NEIGHBOUR: 'it returns false'. Refute it at one input. -/
def fnExactUnravelledWrong : ChangeSpec := { name := "fnExactUnravelled", fn := fun _ => fun
  | [d] => { results := [.lit (.bool false)], args := [d] }
  | _ => none }
def FnExactUnravelledWrongFalsely : Prop := fnExactUnravelledRow.holds Try.pinned (OpenSpec.ofChange fnExactUnravelledWrong)

/-- 'laws.FnExactSlopeOf': WHATEVER THE INPUT: true; the input reads as it did. -/
def fnExactSlopeOfSpec : ChangeSpec := { name := "fnExactSlopeOf", fn := fun _ => fun
  | [d1, d2] => { results := [.lit (.bool true)], args := [d1, d2] }
  | _ => none }
def fnExactSlopeOfRow : OpenClaim := { program := "ytgbcnhbmfjkhmaa", sum := "27ae3f38aecef7b81d76d831a4e4546ba9882c5b2fbc1c734ef2da71542d6154", func := "loop.example/g00895/laws.FnExactSlopeOf", spec := "fnExactSlopeOf", unfollowed := true, recurses := true, apart := false }
def FnExactSlopeOfSaid : Prop := fnExactSlopeOfRow.holds Try.pinned (OpenSpec.ofChange fnExactSlopeOfSpec)

/-- ITS FALSE NEIGHBOUR: 'it returns false'. Refute it at one input. -/
def fnExactSlopeOfWrong : ChangeSpec := { name := "fnExactSlopeOf", fn := fun _ => fun
  | [d1, d2] => { results := [.lit (.bool false)], args := [d1, d2] }
  | _ => none }
def FnExactSlopeOfWrongFalsely : Prop := fnExactSlopeOfRow.holds Try.pinned (OpenSpec.ofChange fnExactSlopeOfWrong)

/-- 'laws.FnExactBoundBy': WHATEVER THE INPUT: true; the input reads as it did. -/
def fnExactBoundBySpec : ChangeSpec := { name := "fnExactBoundBy", fn := fun _ => fun
  | [d1, d2, d3] => { results := [.lit (.bool true)], args := [d1, d2, d3] }
  | _ => none }
def fnExactBoundByRow : OpenClaim := { program := "ytgbcnhbmfjkhmaa", sum := "27ae3f38aecef7b81d76d831a4e4546ba9882c5b2fbc1c734ef2da71542d6154", func := "loop.example/g00895/laws.FnExactBoundBy", spec := "fnExactBoundBy", unfollowed := true, recurses := true, apart := false }
def FnExactBoundBySaid : Prop := fnExactBoundByRow.holds Try.pinned (OpenSpec.ofChange fnExactBoundBySpec)

/-- ITS FALSE NEIGHBOUR: 'it returns false'. Refute it at one input. -/
def fnExactBoundByWrong : ChangeSpec := { name := "fnExactBoundBy", fn := fun _ => fun
  | [d1, d2, d3] => { results := [.lit (.bool false)], args := [d1, d2, d3] }
  | _ => none }
def FnExactBoundByWrongFalsely : Prop := fnExactBoundByRow.holds Try.pinned (OpenSpec.ofChange fnExactBoundByWrong)

/-- 'laws.FnExactAcceptsIn': WHATEVER THE INPUT: true; the input reads as it did. -/
def fnExactAcceptsInSpec : ChangeSpec := { name := "fnExactAcceptsIn", fn := fun _ => fun
  | [d1, d2, d3] => { results := [.lit (.bool true)], args := [d1, d2, d3] }
  | _ => none }
def fnExactAcceptsInRow : OpenClaim := { program := "ytgbcnhbmfjkhmaa", sum := "27ae3f38aecef7b81d76d831a4e4546ba9882c5b2fbc1c734ef2da71542d6154", func := "loop.example/g00895/laws.FnExactAcceptsIn", spec := "fnExactAcceptsIn", unfollowed := true, recurses := true, apart := false }
def FnExactAcceptsInSaid : Prop := fnExactAcceptsInRow.holds Try.pinned (OpenSpec.ofChange fnExactAcceptsInSpec)

/-- ITS FALSE NEIGHBOUR: 'it returns false'. Refute it at one input. -/
def fnExactAcceptsInWrong : ChangeSpec := { name := "fnExactAcceptsIn", fn := fun _ => fun
  | [d1, d2, d3] => { results := [.lit (.bool false)], args := [d1, d2, d3] }
  | _ => none }
def FnExactAcceptsInWrongFalsely : Prop := fnExactAcceptsInRow.holds Try.pinned (OpenSpec.ofChange fnExactAcceptsInWrong)

/-- 'laws.FnExactCountTaken': WHATEVER THE INPUT: true; the input reads as it did. -/
def fnExactCountTakenSpec : ChangeSpec := { name := "fnExactCountTaken", fn := fun _ => fun
  | [d1, d2, d3] => { results := [.lit (.bool true)], args := [d1, d2, d3] }
  | _ => none }
def fnExactCountTakenRow : OpenClaim := { program := "ytgbcnhbmfjkhmaa", sum := "27ae3f38aecef7b81d76d831a4e4546ba9882c5b2fbc1c734ef2da71542d6154", func := "loop.example/g00895/laws.FnExactCountTaken", spec := "fnExactCountTaken", unfollowed := true, recurses := true, apart := false }
def FnExactCountTakenSaid : Prop := fnExactCountTakenRow.holds Try.pinned (OpenSpec.ofChange fnExactCountTakenSpec)

/-- ITS FALSE NEIGHBOUR: 'it returns false'. Refute it at one input. -/
def fnExactCountTakenWrong : ChangeSpec := { name := "fnExactCountTaken", fn := fun _ => fun
  | [d1, d2, d3] => { results := [.lit (.bool false)], args := [d1, d2, d3] }
  | _ => none }
def FnExactCountTakenWrongFalsely : Prop := fnExactCountTakenRow.holds Try.pinned (OpenSpec.ofChange fnExactCountTakenWrong)

/-- 'laws.FnExactWorkOk': WHATEVER THE INPUT: true; the input reads as it did. -/
def fnExactWorkOkSpec : ChangeSpec := { name := "fnExactWorkOk", fn := fun _ => fun
  | [d] => { results := [.lit (.bool true)], args := [d] }
  | _ => none }
def fnExactWorkOkRow : OpenClaim := { program := "ytgbcnhbmfjkhmaa", sum := "27ae3f38aecef7b81d76d831a4e4546ba9882c5b2fbc1c734ef2da71542d6154", func := "loop.example/g00895/laws.FnExactWorkOk", spec := "fnExactWorkOk", unfollowed := true, recurses := true, apart := false }
def FnExactWorkOkSaid : Prop := fnExactWorkOkRow.holds Try.pinned (OpenSpec.ofChange fnExactWorkOkSpec)

/-- ITS FALSE NEIGHBOUR: 'it returns false'. Refute it at one input. -/
def fnExactWorkOkWrong : ChangeSpec := { name := "fnExactWorkOk", fn := fun _ => fun
  | [d] => { results := [.lit (.bool false)], args := [d] }
  | _ => none }
def FnExactWorkOkWrongFalsely : Prop := fnExactWorkOkRow.holds Try.pinned (OpenSpec.ofChange fnExactWorkOkWrong)

/-- 'laws.FnExactGroundsOf': WHATEVER THE INPUT: true; the input reads as it did. -/
def fnExactGroundsOfSpec : ChangeSpec := { name := "fnExactGroundsOf", fn := fun _ => fun
  | [d1, d2] => { results := [.lit (.bool true)], args := [d1, d2] }
  | _ => none }
def fnExactGroundsOfRow : OpenClaim := { program := "ytgbcnhbmfjkhmaa", sum := "27ae3f38aecef7b81d76d831a4e4546ba9882c5b2fbc1c734ef2da71542d6154", func := "loop.example/g00895/laws.FnExactGroundsOf", spec := "fnExactGroundsOf", unfollowed := true, recurses := true, apart := false }
def FnExactGroundsOfSaid : Prop := fnExactGroundsOfRow.holds Try.pinned (OpenSpec.ofChange fnExactGroundsOfSpec)

/-- ITS FALSE NEIGHBOUR: 'it returns false'. Refute it at one input. -/
def fnExactGroundsOfWrong : ChangeSpec := { name := "fnExactGroundsOf", fn := fun _ => fun
  | [d1, d2] => { results := [.lit (.bool false)], args := [d1, d2] }
  | _ => none }
def FnExactGroundsOfWrongFalsely : Prop := fnExactGroundsOfRow.holds Try.pinned (OpenSpec.ofChange fnExactGroundsOfWrong)

/- THE SECOND FORM. 'bulk': how many values and letters a reading holds, each counted each time it is reached (what is shared counts as often as it is met; a slice's spare places count too). A statement '..UptoSaid' is the law's where the arguments, and the package variables that the reading takes, are together of bulk at most 1048576: NARROWER than '..Said'. Prove '..Said' where nothing that the law and all that it calls make is longer than what came in: it says more and counts as full. Else prove '..UptoSaid'. A law counts once. -/
mutual
def uptoBulk {H : Type} : DataW H → Nat
  | .lit (.string bytes) => bytes.length + 1
  | .lit _ => 1
  | .nil => 1
  | .ptr d => uptoBulk d + 1
  | .slice elems spare => uptoBulkAll elems + uptoBulkAll spare + 1
  | .agg parts => uptoBulkAll parts + 1
  | .iface _ d => uptoBulk d + 1
  | .map entries => uptoBulkEntries entries + 1
  | .held _ => 1
def uptoBulkAll {H : Type} : List (DataW H) → Nat
  | [] => 0
  | d :: r => uptoBulk d + uptoBulkAll r
def uptoBulkEntries {H : Type} : List (Lit × DataW H) → Nat
  | [] => 0
  | x :: r => uptoBulkEntry x + uptoBulkEntries r
def uptoBulkEntry {H : Type} : Lit × DataW H → Nat
  | (.string bytes, d) => bytes.length + uptoBulk d + 1
  | (_, d) => uptoBulk d + 1
 end
def uptoSmall : (H : Type) → List (DataW H) → Bool := fun _ ds => decide (uptoBulkAll ds ≤ 1048576)
def OpenSpec.upto (s : _root_.Go.ChangeSpec) : _root_.Go.OpenSpec := { _root_.Go.OpenSpec.ofChange s with cond := some uptoSmall }

/-- 'laws.FnExactEitherAuto', WHERE WHAT IT READS IS OF BULK AT MOST 1048576: true; the input reads as it did. -/
def fnExactEitherAutoUptoRow : OpenClaim := { program := "ytgbcnhbmfjkhmaa", sum := "27ae3f38aecef7b81d76d831a4e4546ba9882c5b2fbc1c734ef2da71542d6154", func := "loop.example/g00895/laws.FnExactEitherAuto", spec := "fnExactEitherAuto", unfollowed := true, recurses := true, apart := false, narrowed := true }
def FnExactEitherAutoUptoSaid : Prop := fnExactEitherAutoUptoRow.holds Try.pinned (OpenSpec.upto fnExactEitherAutoSpec)

/-- 'laws.FnExactGeneralisedAll', WHERE WHAT IT READS IS OF BULK AT MOST 1048576: true; the input reads as it did. -/
def fnExactGeneralisedAllUptoRow : OpenClaim := { program := "ytgbcnhbmfjkhmaa", sum := "27ae3f38aecef7b81d76d831a4e4546ba9882c5b2fbc1c734ef2da71542d6154", func := "loop.example/g00895/laws.FnExactGeneralisedAll", spec := "fnExactGeneralisedAll", recurses := true, apart := false, narrowed := true }
def FnExactGeneralisedAllUptoSaid : Prop := fnExactGeneralisedAllUptoRow.holds Try.pinned (OpenSpec.upto fnExactGeneralisedAllSpec)

/-- 'laws.FnExactJoinedChain', WHERE WHAT IT READS IS OF BULK AT MOST 1048576: true; the input reads as it did. -/
def fnExactJoinedChainUptoRow : OpenClaim := { program := "ytgbcnhbmfjkhmaa", sum := "27ae3f38aecef7b81d76d831a4e4546ba9882c5b2fbc1c734ef2da71542d6154", func := "loop.example/g00895/laws.FnExactJoinedChain", spec := "fnExactJoinedChain", unfollowed := true, recurses := true, apart := false, narrowed := true }
def FnExactJoinedChainUptoSaid : Prop := fnExactJoinedChainUptoRow.holds Try.pinned (OpenSpec.upto fnExactJoinedChainSpec)

/-- 'laws.FnExactTurnedChain', WHERE WHAT IT READS IS OF BULK AT MOST 1048576: true; the input reads as it did. -/
def fnExactTurnedChainUptoRow : OpenClaim := { program := "ytgbcnhbmfjkhmaa", sum := "27ae3f38aecef7b81d76d831a4e4546ba9882c5b2fbc1c734ef2da71542d6154", func := "loop.example/g00895/laws.FnExactTurnedChain", spec := "fnExactTurnedChain", unfollowed := true, recurses := true, apart := false, narrowed := true }
def FnExactTurnedChainUptoSaid : Prop := fnExactTurnedChainUptoRow.holds Try.pinned (OpenSpec.upto fnExactTurnedChainSpec)

/-- 'laws.FnExactOrientedEq', WHERE WHAT IT READS IS OF BULK AT MOST 1048576: true; the input reads as it did. -/
def fnExactOrientedEqUptoRow : OpenClaim := { program := "ytgbcnhbmfjkhmaa", sum := "27ae3f38aecef7b81d76d831a4e4546ba9882c5b2fbc1c734ef2da71542d6154", func := "loop.example/g00895/laws.FnExactOrientedEq", spec := "fnExactOrientedEq", unfollowed := true, recurses := true, apart := false, narrowed := true }
def FnExactOrientedEqUptoSaid : Prop := fnExactOrientedEqUptoRow.holds Try.pinned (OpenSpec.upto fnExactOrientedEqSpec)

/-- 'laws.FnExactUnravelled', WHERE WHAT IT READS IS OF BULK AT MOST 1048576: true; the input reads as it did. -/
def fnExactUnravelledUptoRow : OpenClaim := { program := "ytgbcnhbmfjkhmaa", sum := "27ae3f38aecef7b81d76d831a4e4546ba9882c5b2fbc1c734ef2da71542d6154", func := "loop.example/g00895/laws.FnExactUnravelled", spec := "fnExactUnravelled", unfollowed := true, recurses := true, apart := false, narrowed := true }
def FnExactUnravelledUptoSaid : Prop := fnExactUnravelledUptoRow.holds Try.pinned (OpenSpec.upto fnExactUnravelledSpec)

/-- 'laws.FnExactSlopeOf', WHERE WHAT IT READS IS OF BULK AT MOST 1048576: true; the input reads as it did. -/
def fnExactSlopeOfUptoRow : OpenClaim := { program := "ytgbcnhbmfjkhmaa", sum := "27ae3f38aecef7b81d76d831a4e4546ba9882c5b2fbc1c734ef2da71542d6154", func := "loop.example/g00895/laws.FnExactSlopeOf", spec := "fnExactSlopeOf", unfollowed := true, recurses := true, apart := false, narrowed := true }
def FnExactSlopeOfUptoSaid : Prop := fnExactSlopeOfUptoRow.holds Try.pinned (OpenSpec.upto fnExactSlopeOfSpec)

/-- 'laws.FnExactBoundBy', WHERE WHAT IT READS IS OF BULK AT MOST 1048576: true; the input reads as it did. -/
def fnExactBoundByUptoRow : OpenClaim := { program := "ytgbcnhbmfjkhmaa", sum := "27ae3f38aecef7b81d76d831a4e4546ba9882c5b2fbc1c734ef2da71542d6154", func := "loop.example/g00895/laws.FnExactBoundBy", spec := "fnExactBoundBy", unfollowed := true, recurses := true, apart := false, narrowed := true }
def FnExactBoundByUptoSaid : Prop := fnExactBoundByUptoRow.holds Try.pinned (OpenSpec.upto fnExactBoundBySpec)

/-- 'laws.FnExactAcceptsIn', WHERE WHAT IT READS IS OF BULK AT MOST 1048576: true; the input reads as it did. -/
def fnExactAcceptsInUptoRow : OpenClaim := { program := "ytgbcnhbmfjkhmaa", sum := "27ae3f38aecef7b81d76d831a4e4546ba9882c5b2fbc1c734ef2da71542d6154", func := "loop.example/g00895/laws.FnExactAcceptsIn", spec := "fnExactAcceptsIn", unfollowed := true, recurses := true, apart := false, narrowed := true }
def FnExactAcceptsInUptoSaid : Prop := fnExactAcceptsInUptoRow.holds Try.pinned (OpenSpec.upto fnExactAcceptsInSpec)

/-- 'laws.FnExactCountTaken', WHERE WHAT IT READS IS OF BULK AT MOST 1048576: true; the input reads as it did. -/
def fnExactCountTakenUptoRow : OpenClaim := { program := "ytgbcnhbmfjkhmaa", sum := "27ae3f38aecef7b81d76d831a4e4546ba9882c5b2fbc1c734ef2da71542d6154", func := "loop.example/g00895/laws.FnExactCountTaken", spec := "fnExactCountTaken", unfollowed := true, recurses := true, apart := false, narrowed := true }
def FnExactCountTakenUptoSaid : Prop := fnExactCountTakenUptoRow.holds Try.pinned (OpenSpec.upto fnExactCountTakenSpec)

/-- 'laws.FnExactWorkOk', WHERE WHAT IT READS IS OF BULK AT MOST 1048576: true; the input reads as it did. -/
def fnExactWorkOkUptoRow : OpenClaim := { program := "ytgbcnhbmfjkhmaa", sum := "27ae3f38aecef7b81d76d831a4e4546ba9882c5b2fbc1c734ef2da71542d6154", func := "loop.example/g00895/laws.FnExactWorkOk", spec := "fnExactWorkOk", unfollowed := true, recurses := true, apart := false, narrowed := true }
def FnExactWorkOkUptoSaid : Prop := fnExactWorkOkUptoRow.holds Try.pinned (OpenSpec.upto fnExactWorkOkSpec)

/-- 'laws.FnExactGroundsOf', WHERE WHAT IT READS IS OF BULK AT MOST 1048576: true; the input reads as it did. -/
def fnExactGroundsOfUptoRow : OpenClaim := { program := "ytgbcnhbmfjkhmaa", sum := "27ae3f38aecef7b81d76d831a4e4546ba9882c5b2fbc1c734ef2da71542d6154", func := "loop.example/g00895/laws.FnExactGroundsOf", spec := "fnExactGroundsOf", unfollowed := true, recurses := true, apart := false, narrowed := true }
def FnExactGroundsOfUptoSaid : Prop := fnExactGroundsOfUptoRow.holds Try.pinned (OpenSpec.upto fnExactGroundsOfSpec)

end Rows
end Go.Proofs.Ytgbcnhbmfjkhmaa
