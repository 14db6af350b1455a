/-
  DERIVED. GIVEN WITH THE SEED: THE CARDS: each row of YtkfkdgginfpdnaaGreatDoorRows.lean that lists a variable, with what it lists TIED to the program's text (the seventh form; the later family's looks); each row that meets fmt, with fmt's text TOLD by the authors' own Lean function (tested against real Go, not proved from fmt's source: count such statements apart). THE CARD IS WHAT COUNTS. Prove the row's statement (the work); the ties are given (YtkfkdgginfpdnaaGreatDoorTie.lean); close each card by the builder's one call (the guide's Derived/Test/ToyasCard.lean, 'card_holds'). Laid BY PROGRAM, IN A SANDBOX (cutbox-door.mjs). By AI agents, Wed Nov 11 2026. No macro, syntax, notation, axiom, sorry.
-/
import Derived.Test.YtkfkdgginfpdnaaGreatDoorRows
import GoSem.ClaimSeven
namespace Go.Proofs.YtkfkdgginfpdnaaGreatDoor
namespace Rows

/-- THE TIED CARD OF 'laws.FnExactCompleteIn'. -/
def fnExactCompleteInCard : Claim7 := { stood := { row := fnExactCompleteInRow, standIns := [], harness := (true, "2eb46212b933598cd99bc4ce1471e735d9bd3d9ef9586e79ffca00a92af260ae"), looks := true }, kinds := [], alts := [], laidByText := true, laidKinds := [.data, .data, .data], laidTests := true, laidLooks := .later }
def FnExactCompleteInCardSaid : Prop := Claim7.holds Tryz.pinned (.plain (OpenSpec.ofChange fnExactCompleteInSpec)) fnExactCompleteInCard

/-- THE TIED CARD OF 'laws.FnExactAlwaysReduces'. -/
def fnExactAlwaysReducesCard : Claim7 := { stood := { row := fnExactAlwaysReducesRow, standIns := [], harness := (true, "2eb46212b933598cd99bc4ce1471e735d9bd3d9ef9586e79ffca00a92af260ae"), looks := true }, kinds := [], alts := [], laidByText := true, laidKinds := [.data, .data, .data], laidTests := true, laidLooks := .later }
def FnExactAlwaysReducesCardSaid : Prop := Claim7.holds Tryz.pinned (.plain (OpenSpec.ofChange fnExactAlwaysReducesSpec)) fnExactAlwaysReducesCard

/-- THE TIED CARD OF 'laws.FnExactDeadLines'. -/
def fnExactDeadLinesCard : Claim7 := { stood := { row := fnExactDeadLinesRow, standIns := [], harness := (true, "2eb46212b933598cd99bc4ce1471e735d9bd3d9ef9586e79ffca00a92af260ae"), looks := true }, kinds := [], alts := [], laidByText := true, laidKinds := [.data, .data, .data], laidTests := true, laidLooks := .later }
def FnExactDeadLinesCardSaid : Prop := Claim7.holds Tryz.pinned (.plain (OpenSpec.ofChange fnExactDeadLinesSpec)) fnExactDeadLinesCard

/-- THE SECOND FORM's CARD OF 'laws.FnExactCompleteIn'. -/
def fnExactCompleteInUptoCard : Claim7 := { stood := { row := fnExactCompleteInUptoRow, standIns := [], harness := (true, "2eb46212b933598cd99bc4ce1471e735d9bd3d9ef9586e79ffca00a92af260ae"), looks := true }, kinds := [], alts := [], laidByText := true, laidKinds := [.data, .data, .data], laidTests := true, laidLooks := .later }
def FnExactCompleteInUptoCardSaid : Prop := Claim7.holds Tryz.pinned (.plain (OpenSpec.upto fnExactCompleteInSpec)) fnExactCompleteInUptoCard

/-- THE SECOND FORM's CARD OF 'laws.FnExactAlwaysReduces'. -/
def fnExactAlwaysReducesUptoCard : Claim7 := { stood := { row := fnExactAlwaysReducesUptoRow, standIns := [], harness := (true, "2eb46212b933598cd99bc4ce1471e735d9bd3d9ef9586e79ffca00a92af260ae"), looks := true }, kinds := [], alts := [], laidByText := true, laidKinds := [.data, .data, .data], laidTests := true, laidLooks := .later }
def FnExactAlwaysReducesUptoCardSaid : Prop := Claim7.holds Tryz.pinned (.plain (OpenSpec.upto fnExactAlwaysReducesSpec)) fnExactAlwaysReducesUptoCard

/-- THE SECOND FORM's CARD OF 'laws.FnExactDeadLines'. -/
def fnExactDeadLinesUptoCard : Claim7 := { stood := { row := fnExactDeadLinesUptoRow, standIns := [], harness := (true, "2eb46212b933598cd99bc4ce1471e735d9bd3d9ef9586e79ffca00a92af260ae"), looks := true }, kinds := [], alts := [], laidByText := true, laidKinds := [.data, .data, .data], laidTests := true, laidLooks := .later }
def FnExactDeadLinesUptoCardSaid : Prop := Claim7.holds Tryz.pinned (.plain (OpenSpec.upto fnExactDeadLinesSpec)) fnExactDeadLinesUptoCard
end Rows
end Go.Proofs.YtkfkdgginfpdnaaGreatDoor
