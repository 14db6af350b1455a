/-
  DERIVED. GIVEN WITH THE SEED: THE CARDS: each row of YtcbgmeegbjokpaaGreatDoorRows.lean that lists a variable, with what it lists TIED to the program's text (the seventh form; the later family's looks); each row that meets fmt, with fmt's text TOLD by the authors' own Lean function (tested against real Go, not proved from fmt's source: count such statements apart). THE CARD IS WHAT COUNTS. Prove the row's statement (the work); the ties are given (YtcbgmeegbjokpaaGreatDoorTie.lean); close each card by the builder's one call (the guide's Derived/Test/ToyasCard.lean, 'card_holds'). Laid BY PROGRAM, IN A SANDBOX (cutbox-door.mjs). By AI agents, Wed Nov 11 2026. No macro, syntax, notation, axiom, sorry.
-/
import Derived.Test.YtcbgmeegbjokpaaGreatDoorRows
import GoSem.ClaimSeven
namespace Go.Proofs.YtcbgmeegbjokpaaGreatDoor
namespace Rows

/-- THE TIED CARD OF 'laws.FnExactNormalsMany'. -/
def fnExactNormalsManyCard : Claim7 := { stood := { row := fnExactNormalsManyRow, standIns := [], harness := (true, "45a64682922a98d64a32ff93ee117366029f9219e56d02ce4814980010d76b6e"), looks := true }, kinds := [], alts := [], laidByText := true, laidKinds := [.data, .data, .data], laidTests := true, laidLooks := .later }
def FnExactNormalsManyCardSaid : Prop := Claim7.holds Tryz.pinned (.plain (OpenSpec.ofChange fnExactNormalsManySpec)) fnExactNormalsManyCard

/-- THE TIED CARD OF 'laws.FnExactCompleteIn'. -/
def fnExactCompleteInCard : Claim7 := { stood := { row := fnExactCompleteInRow, standIns := [], harness := (true, "45a64682922a98d64a32ff93ee117366029f9219e56d02ce4814980010d76b6e"), looks := true }, kinds := [], alts := [], laidByText := true, laidKinds := [.data, .data, .data], laidTests := true, laidLooks := .later }
def FnExactCompleteInCardSaid : Prop := Claim7.holds Tryz.pinned (.plain (OpenSpec.ofChange fnExactCompleteInSpec)) fnExactCompleteInCard

/-- THE SECOND FORM's CARD OF 'laws.FnExactNormalsMany'. -/
def fnExactNormalsManyUptoCard : Claim7 := { stood := { row := fnExactNormalsManyUptoRow, standIns := [], harness := (true, "45a64682922a98d64a32ff93ee117366029f9219e56d02ce4814980010d76b6e"), looks := true }, kinds := [], alts := [], laidByText := true, laidKinds := [.data, .data, .data], laidTests := true, laidLooks := .later }
def FnExactNormalsManyUptoCardSaid : Prop := Claim7.holds Tryz.pinned (.plain (OpenSpec.upto fnExactNormalsManySpec)) fnExactNormalsManyUptoCard

/-- THE SECOND FORM's CARD OF 'laws.FnExactCompleteIn'. -/
def fnExactCompleteInUptoCard : Claim7 := { stood := { row := fnExactCompleteInUptoRow, standIns := [], harness := (true, "45a64682922a98d64a32ff93ee117366029f9219e56d02ce4814980010d76b6e"), looks := true }, kinds := [], alts := [], laidByText := true, laidKinds := [.data, .data, .data], laidTests := true, laidLooks := .later }
def FnExactCompleteInUptoCardSaid : Prop := Claim7.holds Tryz.pinned (.plain (OpenSpec.upto fnExactCompleteInSpec)) fnExactCompleteInUptoCard
end Rows
end Go.Proofs.YtcbgmeegbjokpaaGreatDoor
