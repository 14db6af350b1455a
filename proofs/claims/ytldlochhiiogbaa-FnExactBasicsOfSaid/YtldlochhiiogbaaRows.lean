/-
  No cell of these rows narrows 'for every input' (looked for: loops, veiled, ifaces, maps, wideKeys, modest, calm, conditions, laid).
  DERIVED. THE GIVEN ROWS OF THIS SEAT. 2 by the template 'for every input the law returns true; each argument reads behind the call as it read before'; 0 by the template 'total and deterministic' (their statements: YtldlochhiiogbaaTotals.lean).
  GIVEN WITH THE SEED: the statements are not yours to turn. If you find one false, say at which input.
  Laid BY PROGRAM, IN A SANDBOX (cutbox-rows.mjs): the forced cells as the released guide's own fill.sh prints them over the translation 867c9337c799c0f5… (all of the seat's roots in one cut). By AI agents, Wed Nov 11 2026. No macro, syntax, notation, axiom, sorry.
-/
import Derived.Test.YtldlochhiiogbaaChecked
import GoSem.Claim
import GoSem.ClaimJoined
import GoSem.ClaimMapViews
import Derived.JoinedTies
import Derived.KernelRfl
namespace Go.Proofs.Ytldlochhiiogbaa
/- THE CELL 'sum', in the pinned program and in every row, IS THE sha256 OF THE DUMP (.gsa) THAT YtldlochhiiogbaaProg.lean LOADS. Nothing in Lean hashes anything: it is a label: what it is worth is what the hold of that sum in a sandbox is worth. -/
noncomputable def Try.pinned : Pinned := { name := "ytldlochhiiogbaa", sum := "867c9337c799c0f5c5347254e1c1150a07a7fcf5843b3a1c962338ab1d80b43b", checked := Try.checked }
namespace Rows
def none {H : Type} : Left H := { results := [], args := [] }

/-- 'laws.FnExactGroundsOf': WHATEVER THE INPUT: true; the input reads as it did. -/
def fnExactGroundsOfSpec : ChangeSpec := { name := "fnExactGroundsOf", fn := fun _ => fun
  | [d1, d2] => { results := [.lit (.bool true)], args := [d1, d2] }
  | _ => none }
def fnExactGroundsOfRow : OpenClaim := { program := "ytldlochhiiogbaa", sum := "867c9337c799c0f5c5347254e1c1150a07a7fcf5843b3a1c962338ab1d80b43b", func := "loop.example/g00895/laws.FnExactGroundsOf", spec := "fnExactGroundsOf", unfollowed := true, recurses := true, apart := false }
def FnExactGroundsOfSaid : Prop := fnExactGroundsOfRow.holds Try.pinned (OpenSpec.ofChange fnExactGroundsOfSpec)

/-- ITS FALSE NEIGHBOUR: 'it returns false'. Refute it at one input. -/
def fnExactGroundsOfWrong : ChangeSpec := { name := "fnExactGroundsOf", fn := fun _ => fun
  | [d1, d2] => { results := [.lit (.bool false)], args := [d1, d2] }
  | _ => none }
def FnExactGroundsOfWrongFalsely : Prop := fnExactGroundsOfRow.holds Try.pinned (OpenSpec.ofChange fnExactGroundsOfWrong)

/-- 'laws.FnExactBasicsOf': WHATEVER THE INPUT: true; the input reads as it did. -/
def fnExactBasicsOfSpec : ChangeSpec := { name := "fnExactBasicsOf", fn := fun _ => fun
  | [d1, d2] => { results := [.lit (.bool true)], args := [d1, d2] }
  | _ => none }
def fnExactBasicsOfRow : OpenClaim := { program := "ytldlochhiiogbaa", sum := "867c9337c799c0f5c5347254e1c1150a07a7fcf5843b3a1c962338ab1d80b43b", func := "loop.example/g00895/laws.FnExactBasicsOf", spec := "fnExactBasicsOf", unfollowed := true, recurses := true, apart := false }
def FnExactBasicsOfSaid : Prop := fnExactBasicsOfRow.holds Try.pinned (OpenSpec.ofChange fnExactBasicsOfSpec)

/-- ITS FALSE NEIGHBOUR: 'it returns false'. Refute it at one input. -/
def fnExactBasicsOfWrong : ChangeSpec := { name := "fnExactBasicsOf", fn := fun _ => fun
  | [d1, d2] => { results := [.lit (.bool false)], args := [d1, d2] }
  | _ => none }
def FnExactBasicsOfWrongFalsely : Prop := fnExactBasicsOfRow.holds Try.pinned (OpenSpec.ofChange fnExactBasicsOfWrong)

/- THE SECOND FORM. 'bulk': how many values and letters a reading holds, each counted each time it is reached (what is shared counts as often as it is met; a slice's spare places count too). A statement '..UptoSaid' is the law's where the arguments, and the package variables that the reading takes, are together of bulk at most 1048576: NARROWER than '..Said'. Prove '..Said' where nothing that the law and all that it calls make is longer than what came in: it says more and counts as full. Else prove '..UptoSaid'. A law counts once. -/
mutual
def uptoBulk {H : Type} : DataW H → Nat
  | .lit (.string bytes) => bytes.length + 1
  | .lit _ => 1
  | .nil => 1
  | .ptr d => uptoBulk d + 1
  | .slice elems spare => uptoBulkAll elems + uptoBulkAll spare + 1
  | .agg parts => uptoBulkAll parts + 1
  | .iface _ d => uptoBulk d + 1
  | .map entries => uptoBulkEntries entries + 1
  | .held _ => 1
def uptoBulkAll {H : Type} : List (DataW H) → Nat
  | [] => 0
  | d :: r => uptoBulk d + uptoBulkAll r
def uptoBulkEntries {H : Type} : List (Lit × DataW H) → Nat
  | [] => 0
  | x :: r => uptoBulkEntry x + uptoBulkEntries r
def uptoBulkEntry {H : Type} : Lit × DataW H → Nat
  | (.string bytes, d) => bytes.length + uptoBulk d + 1
  | (_, d) => uptoBulk d + 1
 end
def uptoSmall : (H : Type) → List (DataW H) → Bool := fun _ ds => decide (uptoBulkAll ds ≤ 1048576)
def OpenSpec.upto (s : _root_.Go.ChangeSpec) : _root_.Go.OpenSpec := { _root_.Go.OpenSpec.ofChange s with cond := some uptoSmall }

/-- 'laws.FnExactGroundsOf', WHERE WHAT IT READS IS OF BULK AT MOST 1048576: true; the input reads as it did. -/
def fnExactGroundsOfUptoRow : OpenClaim := { program := "ytldlochhiiogbaa", sum := "867c9337c799c0f5c5347254e1c1150a07a7fcf5843b3a1c962338ab1d80b43b", func := "loop.example/g00895/laws.FnExactGroundsOf", spec := "fnExactGroundsOf", unfollowed := true, recurses := true, apart := false, narrowed := true }
def FnExactGroundsOfUptoSaid : Prop := fnExactGroundsOfUptoRow.holds Try.pinned (OpenSpec.upto fnExactGroundsOfSpec)

/-- 'laws.FnExactBasicsOf', WHERE WHAT IT READS IS OF BULK AT MOST 1048576: true; the input reads as it did. -/
def fnExactBasicsOfUptoRow : OpenClaim := { program := "ytldlochhiiogbaa", sum := "867c9337c799c0f5c5347254e1c1150a07a7fcf5843b3a1c962338ab1d80b43b", func := "loop.example/g00895/laws.FnExactBasicsOf", spec := "fnExactBasicsOf", unfollowed := true, recurses := true, apart := false, narrowed := true }
def FnExactBasicsOfUptoSaid : Prop := fnExactBasicsOfUptoRow.holds Try.pinned (OpenSpec.upto fnExactBasicsOfSpec)

end Rows
end Go.Proofs.Ytldlochhiiogbaa
