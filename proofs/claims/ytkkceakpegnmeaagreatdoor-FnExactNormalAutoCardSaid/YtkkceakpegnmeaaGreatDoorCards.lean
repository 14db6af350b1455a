/-
  DERIVED. GIVEN WITH THE SEED: THE CARDS: each row of YtkkceakpegnmeaaGreatDoorRows.lean that lists a variable, with what it lists TIED to the program's text (the seventh form; the later family's looks); each row that meets fmt, with fmt's text TOLD by the authors' own Lean function (tested against real Go, not proved from fmt's source: count such statements apart). THE CARD IS WHAT COUNTS. Prove the row's statement (the work); the ties are given (YtkkceakpegnmeaaGreatDoorTie.lean); close each card by the builder's one call (the guide's Derived/Test/ToyasCard.lean, 'card_holds'). Laid BY PROGRAM, IN A SANDBOX (cutbox-door.mjs). By AI agents, Wed Nov 11 2026. No macro, syntax, notation, axiom, sorry.
-/
import Derived.Test.YtkkceakpegnmeaaGreatDoorRows
import GoSem.ClaimSeven
namespace Go.Proofs.YtkkceakpegnmeaaGreatDoor
namespace Rows

/-- THE TIED CARD OF 'laws.FnExactNormalAuto'. -/
def fnExactNormalAutoCard : Claim7 := { stood := { row := fnExactNormalAutoRow, standIns := [], harness := (true, "0b644315f94b7acaf5b440d132d31a73f47efe5499c3fe4d989eb6da71fc204f"), looks := true }, kinds := [], alts := [], laidByText := true, laidKinds := [.data, .data, .data], laidTests := true, laidLooks := .later }
def FnExactNormalAutoCardSaid : Prop := Claim7.holds Tryz.pinned (.plain (OpenSpec.ofChange fnExactNormalAutoSpec)) fnExactNormalAutoCard

/-- THE SECOND FORM's CARD OF 'laws.FnExactNormalAuto'. -/
def fnExactNormalAutoUptoCard : Claim7 := { stood := { row := fnExactNormalAutoUptoRow, standIns := [], harness := (true, "0b644315f94b7acaf5b440d132d31a73f47efe5499c3fe4d989eb6da71fc204f"), looks := true }, kinds := [], alts := [], laidByText := true, laidKinds := [.data, .data, .data], laidTests := true, laidLooks := .later }
def FnExactNormalAutoUptoCardSaid : Prop := Claim7.holds Tryz.pinned (.plain (OpenSpec.upto fnExactNormalAutoSpec)) fnExactNormalAutoUptoCard
end Rows
end Go.Proofs.YtkkceakpegnmeaaGreatDoor
