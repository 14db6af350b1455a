/-
  No cell of these rows narrows 'for every input' (looked for: loops, veiled, ifaces, maps, wideKeys, modest, calm, conditions, laid).
  DERIVED. THE GIVEN ROWS OF THIS SEAT. 3 by the template 'for every input the law returns true; each argument reads behind the call as it read before'; 0 by the template 'total and deterministic' (their statements: YtlcdahaihlflaaaTotals.lean).
  GIVEN WITH THE SEED: the statements are not yours to turn. If you find one false, say at which input.
  Laid BY PROGRAM, IN A SANDBOX (cutbox-rows.mjs): the forced cells as the released guide's own fill.sh prints them over the translation d71e6a8d77361eb0… (all of the seat's roots in one cut). By AI agents, Wed Nov 11 2026. No macro, syntax, notation, axiom, sorry.
-/
import Derived.Test.YtlcdahaihlflaaaChecked
import GoSem.Claim
import GoSem.ClaimJoined
import GoSem.ClaimMapViews
import Derived.JoinedTies
import Derived.KernelRfl
namespace Go.Proofs.Ytlcdahaihlflaaa
/- THE CELL 'sum', in the pinned program and in every row, IS THE sha256 OF THE DUMP (.gsa) THAT YtlcdahaihlflaaaProg.lean LOADS. Nothing in Lean hashes anything: it is a label: what it is worth is what the hold of that sum in a sandbox is worth. -/
noncomputable def Try.pinned : Pinned := { name := "ytlcdahaihlflaaa", sum := "d71e6a8d77361eb007b15bda5b0e831f035cddf185f7ae035c60397498b5e793", checked := Try.checked }
namespace Rows
def none {H : Type} : Left H := { results := [], args := [] }

/-- 'laws.FnExactClashesOf': WHATEVER THE INPUT: true; the input reads as it did. -/
def fnExactClashesOfSpec : ChangeSpec := { name := "fnExactClashesOf", fn := fun _ => fun
  | [d] => { results := [.lit (.bool true)], args := [d] }
  | _ => none }
def fnExactClashesOfRow : OpenClaim := { program := "ytlcdahaihlflaaa", sum := "d71e6a8d77361eb007b15bda5b0e831f035cddf185f7ae035c60397498b5e793", func := "loop.example/g00895/laws.FnExactClashesOf", spec := "fnExactClashesOf", unfollowed := true, recurses := true, apart := false }
def FnExactClashesOfSaid : Prop := fnExactClashesOfRow.holds Try.pinned (OpenSpec.ofChange fnExactClashesOfSpec)

/-- ITS FALSE NEIGHBOUR: 'it returns false'. Refute it at one input. -/
def fnExactClashesOfWrong : ChangeSpec := { name := "fnExactClashesOf", fn := fun _ => fun
  | [d] => { results := [.lit (.bool false)], args := [d] }
  | _ => none }
def FnExactClashesOfWrongFalsely : Prop := fnExactClashesOfRow.holds Try.pinned (OpenSpec.ofChange fnExactClashesOfWrong)

/-- 'laws.FnExactTurnedChain': WHATEVER THE INPUT: true; the input reads as it did. -/
def fnExactTurnedChainSpec : ChangeSpec := { name := "fnExactTurnedChain", fn := fun _ => fun
  | [d1, d2, d3] => { results := [.lit (.bool true)], args := [d1, d2, d3] }
  | _ => none }
def fnExactTurnedChainRow : OpenClaim := { program := "ytlcdahaihlflaaa", sum := "d71e6a8d77361eb007b15bda5b0e831f035cddf185f7ae035c60397498b5e793", func := "loop.example/g00895/laws.FnExactTurnedChain", spec := "fnExactTurnedChain", unfollowed := true, recurses := true, apart := false }
def FnExactTurnedChainSaid : Prop := fnExactTurnedChainRow.holds Try.pinned (OpenSpec.ofChange fnExactTurnedChainSpec)

/-- ITS FALSE NEIGHBOUR: 'it returns false'. Refute it at one input. -/
def fnExactTurnedChainWrong : ChangeSpec := { name := "fnExactTurnedChain", fn := fun _ => fun
  | [d1, d2, d3] => { results := [.lit (.bool false)], args := [d1, d2, d3] }
  | _ => none }
def FnExactTurnedChainWrongFalsely : Prop := fnExactTurnedChainRow.holds Try.pinned (OpenSpec.ofChange fnExactTurnedChainWrong)

/-- 'laws.FnExactPartsIn': WHATEVER THE INPUT: true; the input reads as it did. -/
def fnExactPartsInSpec : ChangeSpec := { name := "fnExactPartsIn", fn := fun _ => fun
  | [d1, d2] => { results := [.lit (.bool true)], args := [d1, d2] }
  | _ => none }
def fnExactPartsInRow : OpenClaim := { program := "ytlcdahaihlflaaa", sum := "d71e6a8d77361eb007b15bda5b0e831f035cddf185f7ae035c60397498b5e793", func := "loop.example/g00895/laws.FnExactPartsIn", spec := "fnExactPartsIn", unfollowed := true, recurses := true, apart := false }
def FnExactPartsInSaid : Prop := fnExactPartsInRow.holds Try.pinned (OpenSpec.ofChange fnExactPartsInSpec)

/-- ITS FALSE NEIGHBOUR: 'it returns false'. Refute it at one input. -/
def fnExactPartsInWrong : ChangeSpec := { name := "fnExactPartsIn", fn := fun _ => fun
  | [d1, d2] => { results := [.lit (.bool false)], args := [d1, d2] }
  | _ => none }
def FnExactPartsInWrongFalsely : Prop := fnExactPartsInRow.holds Try.pinned (OpenSpec.ofChange fnExactPartsInWrong)

/- THE SECOND FORM. 'bulk': how many values and letters a reading holds, each counted each time it is reached (what is shared counts as often as it is met; a slice's spare places count too). A statement '..UptoSaid' is the law's where the arguments, and the package variables that the reading takes, are together of bulk at most 1048576: NARROWER than '..Said'. Prove '..Said' where nothing that the law and all that it calls make is longer than what came in: it says more and counts as full. Else prove '..UptoSaid'. A law counts once. -/
mutual
def uptoBulk {H : Type} : DataW H → Nat
  | .lit (.string bytes) => bytes.length + 1
  | .lit _ => 1
  | .nil => 1
  | .ptr d => uptoBulk d + 1
  | .slice elems spare => uptoBulkAll elems + uptoBulkAll spare + 1
  | .agg parts => uptoBulkAll parts + 1
  | .iface _ d => uptoBulk d + 1
  | .map entries => uptoBulkEntries entries + 1
  | .held _ => 1
def uptoBulkAll {H : Type} : List (DataW H) → Nat
  | [] => 0
  | d :: r => uptoBulk d + uptoBulkAll r
def uptoBulkEntries {H : Type} : List (Lit × DataW H) → Nat
  | [] => 0
  | x :: r => uptoBulkEntry x + uptoBulkEntries r
def uptoBulkEntry {H : Type} : Lit × DataW H → Nat
  | (.string bytes, d) => bytes.length + uptoBulk d + 1
  | (_, d) => uptoBulk d + 1
 end
def uptoSmall : (H : Type) → List (DataW H) → Bool := fun _ ds => decide (uptoBulkAll ds ≤ 1048576)
def OpenSpec.upto (s : _root_.Go.ChangeSpec) : _root_.Go.OpenSpec := { _root_.Go.OpenSpec.ofChange s with cond := some uptoSmall }

/-- 'laws.FnExactClashesOf', WHERE WHAT IT READS IS OF BULK AT MOST 1048576: true; the input reads as it did. -/
def fnExactClashesOfUptoRow : OpenClaim := { program := "ytlcdahaihlflaaa", sum := "d71e6a8d77361eb007b15bda5b0e831f035cddf185f7ae035c60397498b5e793", func := "loop.example/g00895/laws.FnExactClashesOf", spec := "fnExactClashesOf", unfollowed := true, recurses := true, apart := false, narrowed := true }
def FnExactClashesOfUptoSaid : Prop := fnExactClashesOfUptoRow.holds Try.pinned (OpenSpec.upto fnExactClashesOfSpec)

/-- 'laws.FnExactTurnedChain', WHERE WHAT IT READS IS OF BULK AT MOST 1048576: true; the input reads as it did. -/
def fnExactTurnedChainUptoRow : OpenClaim := { program := "ytlcdahaihlflaaa", sum := "d71e6a8d77361eb007b15bda5b0e831f035cddf185f7ae035c60397498b5e793", func := "loop.example/g00895/laws.FnExactTurnedChain", spec := "fnExactTurnedChain", unfollowed := true, recurses := true, apart := false, narrowed := true }
def FnExactTurnedChainUptoSaid : Prop := fnExactTurnedChainUptoRow.holds Try.pinned (OpenSpec.upto fnExactTurnedChainSpec)

/-- 'laws.FnExactPartsIn', WHERE WHAT IT READS IS OF BULK AT MOST 1048576: true; the input reads as it did. -/
def fnExactPartsInUptoRow : OpenClaim := { program := "ytlcdahaihlflaaa", sum := "d71e6a8d77361eb007b15bda5b0e831f035cddf185f7ae035c60397498b5e793", func := "loop.example/g00895/laws.FnExactPartsIn", spec := "fnExactPartsIn", unfollowed := true, recurses := true, apart := false, narrowed := true }
def FnExactPartsInUptoSaid : Prop := fnExactPartsInUptoRow.holds Try.pinned (OpenSpec.upto fnExactPartsInSpec)

end Rows
end Go.Proofs.Ytlcdahaihlflaaa
