/-
  No cell of these rows narrows 'for every input' (looked for: loops, veiled, ifaces, maps, wideKeys, modest, calm, conditions, laid).
  DERIVED. THE GIVEN ROWS OF THIS SEAT. 5 by the template 'for every input the law returns true; each argument reads behind the call as it read before'; 0 by the template 'total and deterministic' (their statements: YtpfeecgbiikpaaaGreatTotals.lean).
  GIVEN WITH THE SEED: the statements are not yours to turn. If you find one false, say at which input.
  Laid BY PROGRAM, IN A SANDBOX (cutbox-rows.mjs): the forced cells as the released guide's own fill.sh prints them over the translation 613fec5e14b10a72… (all of the seat's roots in one cut). By AI agents, Wed Nov 11 2026. No macro, syntax, notation, axiom, sorry.
-/
import Derived.Test.YtpfeecgbiikpaaaGreatChecked
import GoSem.Claim
import GoSem.ClaimJoined
import GoSem.ClaimMapViews
import Derived.JoinedTies
import Derived.KernelRfl
namespace Go.Proofs.YtpfeecgbiikpaaaGreat
/- THE CELL 'sum', in the pinned program and in every row, IS THE sha256 OF THE DUMP (.gsa) THAT YtpfeecgbiikpaaaGreatProg.lean LOADS. Nothing in Lean hashes anything: it is a label: what it is worth is what the hold of that sum in a sandbox is worth. -/
noncomputable def Tryz.pinned : Pinned := { name := "ytpfeecgbiikpaaagreat", sum := "613fec5e14b10a727ef5b37a2127cd487069a032d58fb326381f8b9a35bbb90b", checked := Tryz.checked }
namespace Rows
def none {H : Type} : Left H := { results := [], args := [] }

/-- 'laws.FnExactWeighedBy': WHATEVER THE INPUT: true; the input reads as it did. -/
def fnExactWeighedBySpec : ChangeSpec := { name := "fnExactWeighedBy", fn := fun _ => fun
  | [d1, d2, d3] => { results := [.lit (.bool true)], args := [d1, d2, d3] }
  | _ => none }
def fnExactWeighedByRow : OpenClaim := { program := "ytpfeecgbiikpaaagreat", sum := "613fec5e14b10a727ef5b37a2127cd487069a032d58fb326381f8b9a35bbb90b", func := "loop.example/g00895/laws.FnExactWeighedBy", spec := "fnExactWeighedBy", unfollowed := true, recurses := true, apart := false }
def FnExactWeighedBySaid : Prop := fnExactWeighedByRow.holds Tryz.pinned (OpenSpec.ofChange fnExactWeighedBySpec)

/-- ITS FALSE NEIGHBOUR: 'it returns false'. Refute it at one input. -/
def fnExactWeighedByWrong : ChangeSpec := { name := "fnExactWeighedBy", fn := fun _ => fun
  | [d1, d2, d3] => { results := [.lit (.bool false)], args := [d1, d2, d3] }
  | _ => none }
def FnExactWeighedByWrongFalsely : Prop := fnExactWeighedByRow.holds Tryz.pinned (OpenSpec.ofChange fnExactWeighedByWrong)

/-- 'laws.FnExactFirstMarked': WHATEVER THE INPUT: true; the input reads as it did. -/
def fnExactFirstMarkedSpec : ChangeSpec := { name := "fnExactFirstMarked", fn := fun _ => fun
  | [d1, d2] => { results := [.lit (.bool true)], args := [d1, d2] }
  | _ => none }
def fnExactFirstMarkedRow : OpenClaim := { program := "ytpfeecgbiikpaaagreat", sum := "613fec5e14b10a727ef5b37a2127cd487069a032d58fb326381f8b9a35bbb90b", func := "loop.example/g00895/laws.FnExactFirstMarked", spec := "fnExactFirstMarked", unfollowed := true, recurses := true, apart := false }
def FnExactFirstMarkedSaid : Prop := fnExactFirstMarkedRow.holds Tryz.pinned (OpenSpec.ofChange fnExactFirstMarkedSpec)

/-- ITS FALSE NEIGHBOUR: 'it returns false'. Refute it at one input. -/
def fnExactFirstMarkedWrong : ChangeSpec := { name := "fnExactFirstMarked", fn := fun _ => fun
  | [d1, d2] => { results := [.lit (.bool false)], args := [d1, d2] }
  | _ => none }
def FnExactFirstMarkedWrongFalsely : Prop := fnExactFirstMarkedRow.holds Tryz.pinned (OpenSpec.ofChange fnExactFirstMarkedWrong)

/-- 'laws.FnExactTraceOk': WHATEVER THE INPUT: true; the input reads as it did. -/
def fnExactTraceOkSpec : ChangeSpec := { name := "fnExactTraceOk", fn := fun _ => fun
  | [d1, d2] => { results := [.lit (.bool true)], args := [d1, d2] }
  | _ => none }
def fnExactTraceOkRow : OpenClaim := { program := "ytpfeecgbiikpaaagreat", sum := "613fec5e14b10a727ef5b37a2127cd487069a032d58fb326381f8b9a35bbb90b", func := "loop.example/g00895/laws.FnExactTraceOk", spec := "fnExactTraceOk", unfollowed := true, recurses := true, apart := false }
def FnExactTraceOkSaid : Prop := fnExactTraceOkRow.holds Tryz.pinned (OpenSpec.ofChange fnExactTraceOkSpec)

/-- ITS FALSE NEIGHBOUR: 'it returns false'. Refute it at one input. -/
def fnExactTraceOkWrong : ChangeSpec := { name := "fnExactTraceOk", fn := fun _ => fun
  | [d1, d2] => { results := [.lit (.bool false)], args := [d1, d2] }
  | _ => none }
def FnExactTraceOkWrongFalsely : Prop := fnExactTraceOkRow.holds Tryz.pinned (OpenSpec.ofChange fnExactTraceOkWrong)

/-- 'laws.FnExactTraceOf': WHATEVER THE INPUT: true; the input reads as it did. -/
def fnExactTraceOfSpec : ChangeSpec := { name := "fnExactTraceOf", fn := fun _ => fun
  | [d] => { results := [.lit (.bool true)], args := [d] }
  | _ => none }
def fnExactTraceOfRow : OpenClaim := { program := "ytpfeecgbiikpaaagreat", sum := "613fec5e14b10a727ef5b37a2127cd487069a032d58fb326381f8b9a35bbb90b", func := "loop.example/g00895/laws.FnExactTraceOf", spec := "fnExactTraceOf", unfollowed := true, recurses := true, apart := false }
def FnExactTraceOfSaid : Prop := fnExactTraceOfRow.holds Tryz.pinned (OpenSpec.ofChange fnExactTraceOfSpec)

/-- ITS FALSE NEIGHBOUR: 'it returns false'. Refute it at one input. -/
def fnExactTraceOfWrong : ChangeSpec := { name := "fnExactTraceOf", fn := fun _ => fun
  | [d] => { results := [.lit (.bool false)], args := [d] }
  | _ => none }
def FnExactTraceOfWrongFalsely : Prop := fnExactTraceOfRow.holds Tryz.pinned (OpenSpec.ofChange fnExactTraceOfWrong)

/-- 'laws.FnExactEndsByPairs': WHATEVER THE INPUT: true; the input reads as it did. -/
def fnExactEndsByPairsSpec : ChangeSpec := { name := "fnExactEndsByPairs", fn := fun _ => fun
  | [d] => { results := [.lit (.bool true)], args := [d] }
  | _ => none }
def fnExactEndsByPairsRow : OpenClaim := { program := "ytpfeecgbiikpaaagreat", sum := "613fec5e14b10a727ef5b37a2127cd487069a032d58fb326381f8b9a35bbb90b", func := "loop.example/g00895/laws.FnExactEndsByPairs", spec := "fnExactEndsByPairs", unfollowed := true, recurses := true, apart := false }
def FnExactEndsByPairsSaid : Prop := fnExactEndsByPairsRow.holds Tryz.pinned (OpenSpec.ofChange fnExactEndsByPairsSpec)

/-- ITS FALSE NEIGHBOUR: 'it returns false'. Refute it at one input. -/
def fnExactEndsByPairsWrong : ChangeSpec := { name := "fnExactEndsByPairs", fn := fun _ => fun
  | [d] => { results := [.lit (.bool false)], args := [d] }
  | _ => none }
def FnExactEndsByPairsWrongFalsely : Prop := fnExactEndsByPairsRow.holds Tryz.pinned (OpenSpec.ofChange fnExactEndsByPairsWrong)

/- THE SECOND FORM. 'bulk': how many values and letters a reading holds, each counted each time it is reached (what is shared counts as often as it is met; a slice's spare places count too). A statement '..UptoSaid' is the law's where the arguments, and the package variables that the reading takes, are together of bulk at most 1048576: NARROWER than '..Said'. Prove '..Said' where nothing that the law and all that it calls make is longer than what came in: it says more and counts as full. Else prove '..UptoSaid'. A law counts once. -/
mutual
def uptoBulk {H : Type} : DataW H → Nat
  | .lit (.string bytes) => bytes.length + 1
  | .lit _ => 1
  | .nil => 1
  | .ptr d => uptoBulk d + 1
  | .slice elems spare => uptoBulkAll elems + uptoBulkAll spare + 1
  | .agg parts => uptoBulkAll parts + 1
  | .iface _ d => uptoBulk d + 1
  | .map entries => uptoBulkEntries entries + 1
  | .held _ => 1
def uptoBulkAll {H : Type} : List (DataW H) → Nat
  | [] => 0
  | d :: r => uptoBulk d + uptoBulkAll r
def uptoBulkEntries {H : Type} : List (Lit × DataW H) → Nat
  | [] => 0
  | x :: r => uptoBulkEntry x + uptoBulkEntries r
def uptoBulkEntry {H : Type} : Lit × DataW H → Nat
  | (.string bytes, d) => bytes.length + uptoBulk d + 1
  | (_, d) => uptoBulk d + 1
 end
def uptoSmall : (H : Type) → List (DataW H) → Bool := fun _ ds => decide (uptoBulkAll ds ≤ 1048576)
def OpenSpec.upto (s : _root_.Go.ChangeSpec) : _root_.Go.OpenSpec := { _root_.Go.OpenSpec.ofChange s with cond := some uptoSmall }

/-- 'laws.FnExactWeighedBy', WHERE WHAT IT READS IS OF BULK AT MOST 1048576: true; the input reads as it did. -/
def fnExactWeighedByUptoRow : OpenClaim := { program := "ytpfeecgbiikpaaagreat", sum := "613fec5e14b10a727ef5b37a2127cd487069a032d58fb326381f8b9a35bbb90b", func := "loop.example/g00895/laws.FnExactWeighedBy", spec := "fnExactWeighedBy", unfollowed := true, recurses := true, apart := false, narrowed := true }
def FnExactWeighedByUptoSaid : Prop := fnExactWeighedByUptoRow.holds Tryz.pinned (OpenSpec.upto fnExactWeighedBySpec)

/-- 'laws.FnExactFirstMarked', WHERE WHAT IT READS IS OF BULK AT MOST 1048576: true; the input reads as it did. -/
def fnExactFirstMarkedUptoRow : OpenClaim := { program := "ytpfeecgbiikpaaagreat", sum := "613fec5e14b10a727ef5b37a2127cd487069a032d58fb326381f8b9a35bbb90b", func := "loop.example/g00895/laws.FnExactFirstMarked", spec := "fnExactFirstMarked", unfollowed := true, recurses := true, apart := false, narrowed := true }
def FnExactFirstMarkedUptoSaid : Prop := fnExactFirstMarkedUptoRow.holds Tryz.pinned (OpenSpec.upto fnExactFirstMarkedSpec)

/-- 'laws.FnExactTraceOk', WHERE WHAT IT READS IS OF BULK AT MOST 1048576: true; the input reads as it did. -/
def fnExactTraceOkUptoRow : OpenClaim := { program := "ytpfeecgbiikpaaagreat", sum := "613fec5e14b10a727ef5b37a2127cd487069a032d58fb326381f8b9a35bbb90b", func := "loop.example/g00895/laws.FnExactTraceOk", spec := "fnExactTraceOk", unfollowed := true, recurses := true, apart := false, narrowed := true }
def FnExactTraceOkUptoSaid : Prop := fnExactTraceOkUptoRow.holds Tryz.pinned (OpenSpec.upto fnExactTraceOkSpec)

/-- 'laws.FnExactTraceOf', WHERE WHAT IT READS IS OF BULK AT MOST 1048576: true; the input reads as it did. -/
def fnExactTraceOfUptoRow : OpenClaim := { program := "ytpfeecgbiikpaaagreat", sum := "613fec5e14b10a727ef5b37a2127cd487069a032d58fb326381f8b9a35bbb90b", func := "loop.example/g00895/laws.FnExactTraceOf", spec := "fnExactTraceOf", unfollowed := true, recurses := true, apart := false, narrowed := true }
def FnExactTraceOfUptoSaid : Prop := fnExactTraceOfUptoRow.holds Tryz.pinned (OpenSpec.upto fnExactTraceOfSpec)

/-- 'laws.FnExactEndsByPairs', WHERE WHAT IT READS IS OF BULK AT MOST 1048576: true; the input reads as it did. -/
def fnExactEndsByPairsUptoRow : OpenClaim := { program := "ytpfeecgbiikpaaagreat", sum := "613fec5e14b10a727ef5b37a2127cd487069a032d58fb326381f8b9a35bbb90b", func := "loop.example/g00895/laws.FnExactEndsByPairs", spec := "fnExactEndsByPairs", unfollowed := true, recurses := true, apart := false, narrowed := true }
def FnExactEndsByPairsUptoSaid : Prop := fnExactEndsByPairsUptoRow.holds Tryz.pinned (OpenSpec.upto fnExactEndsByPairsSpec)

end Rows
end Go.Proofs.YtpfeecgbiikpaaaGreat
