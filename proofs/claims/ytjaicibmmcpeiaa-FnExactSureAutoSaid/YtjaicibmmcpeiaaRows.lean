/-
  No cell of these rows narrows 'for every input' (looked for: loops, veiled, ifaces, maps, wideKeys, modest, calm, conditions, laid).
  DERIVED. THE GIVEN ROWS OF THIS SEAT. 4 by the template 'for every input the law returns true; each argument reads behind the call as it read before'; 0 by the template 'total and deterministic' (their statements: YtjaicibmmcpeiaaTotals.lean).
  GIVEN WITH THE SEED: the statements are not yours to turn. If you find one false, say at which input.
  Laid BY PROGRAM, IN A SANDBOX (cutbox-rows.mjs): the forced cells as the released guide's own fill.sh prints them over the translation 63d97c8a80dc89a4… (all of the seat's roots in one cut). By AI agents, Wed Nov 11 2026. No macro, syntax, notation, axiom, sorry.
-/
import Derived.Test.YtjaicibmmcpeiaaChecked
import GoSem.Claim
import GoSem.ClaimJoined
import GoSem.ClaimMapViews
import Derived.JoinedTies
import Derived.KernelRfl
namespace Go.Proofs.Ytjaicibmmcpeiaa
/- THE CELL 'sum', in the pinned program and in every row, IS THE sha256 OF THE DUMP (.gsa) THAT YtjaicibmmcpeiaaProg.lean LOADS. Nothing in Lean hashes anything: it is a label: what it is worth is what the hold of that sum in a sandbox is worth. -/
noncomputable def Try.pinned : Pinned := { name := "ytjaicibmmcpeiaa", sum := "63d97c8a80dc89a49f5bddac9524c27c61d41110f0e0fb8bc4866c1814bd7b76", checked := Try.checked }
namespace Rows
def none {H : Type} : Left H := { results := [], args := [] }

/-- 'laws.FnExactSureAuto': WHATEVER THE INPUT: true; the input reads as it did. -/
def fnExactSureAutoSpec : ChangeSpec := { name := "fnExactSureAuto", fn := fun _ => fun
  | [d1, d2] => { results := [.lit (.bool true)], args := [d1, d2] }
  | _ => none }
def fnExactSureAutoRow : OpenClaim := { program := "ytjaicibmmcpeiaa", sum := "63d97c8a80dc89a49f5bddac9524c27c61d41110f0e0fb8bc4866c1814bd7b76", func := "loop.example/g00895/laws.FnExactSureAuto", spec := "fnExactSureAuto", unfollowed := true, recurses := true, apart := false }
def FnExactSureAutoSaid : Prop := fnExactSureAutoRow.holds Try.pinned (OpenSpec.ofChange fnExactSureAutoSpec)

/-- ITS FALSE NEIGHBOUR: 'it returns false'. Refute it at one input. -/
def fnExactSureAutoWrong : ChangeSpec := { name := "fnExactSureAuto", fn := fun _ => fun
  | [d1, d2] => { results := [.lit (.bool false)], args := [d1, d2] }
  | _ => none }
def FnExactSureAutoWrongFalsely : Prop := fnExactSureAutoRow.holds Try.pinned (OpenSpec.ofChange fnExactSureAutoWrong)

/-- 'laws.FnExactOrientedEq': WHATEVER THE INPUT: true; the input reads as it did. -/
def fnExactOrientedEqSpec : ChangeSpec := { name := "fnExactOrientedEq", fn := fun _ => fun
  | [d1, d2, d3] => { results := [.lit (.bool true)], args := [d1, d2, d3] }
  | _ => none }
def fnExactOrientedEqRow : OpenClaim := { program := "ytjaicibmmcpeiaa", sum := "63d97c8a80dc89a49f5bddac9524c27c61d41110f0e0fb8bc4866c1814bd7b76", func := "loop.example/g00895/laws.FnExactOrientedEq", spec := "fnExactOrientedEq", unfollowed := true, recurses := true, apart := false }
def FnExactOrientedEqSaid : Prop := fnExactOrientedEqRow.holds Try.pinned (OpenSpec.ofChange fnExactOrientedEqSpec)

/-- ITS FALSE NEIGHBOUR: 'it returns false'. Refute it at one input. -/
def fnExactOrientedEqWrong : ChangeSpec := { name := "fnExactOrientedEq", fn := fun _ => fun
  | [d1, d2, d3] => { results := [.lit (.bool false)], args := [d1, d2, d3] }
  | _ => none }
def FnExactOrientedEqWrongFalsely : Prop := fnExactOrientedEqRow.holds Try.pinned (OpenSpec.ofChange fnExactOrientedEqWrong)

/-- 'laws.FnExactWorkOk': WHATEVER THE INPUT: true; the input reads as it did. -/
def fnExactWorkOkSpec : ChangeSpec := { name := "fnExactWorkOk", fn := fun _ => fun
  | [d] => { results := [.lit (.bool true)], args := [d] }
  | _ => none }
def fnExactWorkOkRow : OpenClaim := { program := "ytjaicibmmcpeiaa", sum := "63d97c8a80dc89a49f5bddac9524c27c61d41110f0e0fb8bc4866c1814bd7b76", func := "loop.example/g00895/laws.FnExactWorkOk", spec := "fnExactWorkOk", unfollowed := true, recurses := true, apart := false }
def FnExactWorkOkSaid : Prop := fnExactWorkOkRow.holds Try.pinned (OpenSpec.ofChange fnExactWorkOkSpec)

/-- ITS FALSE NEIGHBOUR: 'it returns false'. Refute it at one input. -/
def fnExactWorkOkWrong : ChangeSpec := { name := "fnExactWorkOk", fn := fun _ => fun
  | [d] => { results := [.lit (.bool false)], args := [d] }
  | _ => none }
def FnExactWorkOkWrongFalsely : Prop := fnExactWorkOkRow.holds Try.pinned (OpenSpec.ofChange fnExactWorkOkWrong)

/-- 'laws.FnExactBothAuto': WHATEVER THE INPUT: true; the input reads as it did. -/
def fnExactBothAutoSpec : ChangeSpec := { name := "fnExactBothAuto", fn := fun _ => fun
  | [d1, d2, d3] => { results := [.lit (.bool true)], args := [d1, d2, d3] }
  | _ => none }
def fnExactBothAutoRow : OpenClaim := { program := "ytjaicibmmcpeiaa", sum := "63d97c8a80dc89a49f5bddac9524c27c61d41110f0e0fb8bc4866c1814bd7b76", func := "loop.example/g00895/laws.FnExactBothAuto", spec := "fnExactBothAuto", unfollowed := true, recurses := true, apart := false }
def FnExactBothAutoSaid : Prop := fnExactBothAutoRow.holds Try.pinned (OpenSpec.ofChange fnExactBothAutoSpec)

/-- ITS FALSE NEIGHBOUR: 'it returns false'. Refute it at one input. -/
def fnExactBothAutoWrong : ChangeSpec := { name := "fnExactBothAuto", fn := fun _ => fun
  | [d1, d2, d3] => { results := [.lit (.bool false)], args := [d1, d2, d3] }
  | _ => none }
def FnExactBothAutoWrongFalsely : Prop := fnExactBothAutoRow.holds Try.pinned (OpenSpec.ofChange fnExactBothAutoWrong)

/- THE SECOND FORM. 'bulk': how many values and letters a reading holds, each counted each time it is reached (what is shared counts as often as it is met; a slice's spare places count too). A statement '..UptoSaid' is the law's where the arguments, and the package variables that the reading takes, are together of bulk at most 1048576: NARROWER than '..Said'. Prove '..Said' where nothing that the law and all that it calls make is longer than what came in: it says more and counts as full. Else prove '..UptoSaid'. A law counts once. -/
mutual
def uptoBulk {H : Type} : DataW H → Nat
  | .lit (.string bytes) => bytes.length + 1
  | .lit _ => 1
  | .nil => 1
  | .ptr d => uptoBulk d + 1
  | .slice elems spare => uptoBulkAll elems + uptoBulkAll spare + 1
  | .agg parts => uptoBulkAll parts + 1
  | .iface _ d => uptoBulk d + 1
  | .map entries => uptoBulkEntries entries + 1
  | .held _ => 1
def uptoBulkAll {H : Type} : List (DataW H) → Nat
  | [] => 0
  | d :: r => uptoBulk d + uptoBulkAll r
def uptoBulkEntries {H : Type} : List (Lit × DataW H) → Nat
  | [] => 0
  | x :: r => uptoBulkEntry x + uptoBulkEntries r
def uptoBulkEntry {H : Type} : Lit × DataW H → Nat
  | (.string bytes, d) => bytes.length + uptoBulk d + 1
  | (_, d) => uptoBulk d + 1
 end
def uptoSmall : (H : Type) → List (DataW H) → Bool := fun _ ds => decide (uptoBulkAll ds ≤ 1048576)
def OpenSpec.upto (s : _root_.Go.ChangeSpec) : _root_.Go.OpenSpec := { _root_.Go.OpenSpec.ofChange s with cond := some uptoSmall }

/-- 'laws.FnExactSureAuto', WHERE WHAT IT READS IS OF BULK AT MOST 1048576: true; the input reads as it did. -/
def fnExactSureAutoUptoRow : OpenClaim := { program := "ytjaicibmmcpeiaa", sum := "63d97c8a80dc89a49f5bddac9524c27c61d41110f0e0fb8bc4866c1814bd7b76", func := "loop.example/g00895/laws.FnExactSureAuto", spec := "fnExactSureAuto", unfollowed := true, recurses := true, apart := false, narrowed := true }
def FnExactSureAutoUptoSaid : Prop := fnExactSureAutoUptoRow.holds Try.pinned (OpenSpec.upto fnExactSureAutoSpec)

/-- 'laws.FnExactOrientedEq', WHERE WHAT IT READS IS OF BULK AT MOST 1048576: true; the input reads as it did. -/
def fnExactOrientedEqUptoRow : OpenClaim := { program := "ytjaicibmmcpeiaa", sum := "63d97c8a80dc89a49f5bddac9524c27c61d41110f0e0fb8bc4866c1814bd7b76", func := "loop.example/g00895/laws.FnExactOrientedEq", spec := "fnExactOrientedEq", unfollowed := true, recurses := true, apart := false, narrowed := true }
def FnExactOrientedEqUptoSaid : Prop := fnExactOrientedEqUptoRow.holds Try.pinned (OpenSpec.upto fnExactOrientedEqSpec)

/-- 'laws.FnExactWorkOk', WHERE WHAT IT READS IS OF BULK AT MOST 1048576: true; the input reads as it did. -/
def fnExactWorkOkUptoRow : OpenClaim := { program := "ytjaicibmmcpeiaa", sum := "63d97c8a80dc89a49f5bddac9524c27c61d41110f0e0fb8bc4866c1814bd7b76", func := "loop.example/g00895/laws.FnExactWorkOk", spec := "fnExactWorkOk", unfollowed := true, recurses := true, apart := false, narrowed := true }
def FnExactWorkOkUptoSaid : Prop := fnExactWorkOkUptoRow.holds Try.pinned (OpenSpec.upto fnExactWorkOkSpec)

/-- 'laws.FnExactBothAuto', WHERE WHAT IT READS IS OF BULK AT MOST 1048576: true; the input reads as it did. -/
def fnExactBothAutoUptoRow : OpenClaim := { program := "ytjaicibmmcpeiaa", sum := "63d97c8a80dc89a49f5bddac9524c27c61d41110f0e0fb8bc4866c1814bd7b76", func := "loop.example/g00895/laws.FnExactBothAuto", spec := "fnExactBothAuto", unfollowed := true, recurses := true, apart := false, narrowed := true }
def FnExactBothAutoUptoSaid : Prop := fnExactBothAutoUptoRow.holds Try.pinned (OpenSpec.upto fnExactBothAutoSpec)

end Rows
end Go.Proofs.Ytjaicibmmcpeiaa
