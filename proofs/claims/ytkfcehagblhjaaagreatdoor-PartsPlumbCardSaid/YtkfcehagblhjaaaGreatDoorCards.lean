/-
  DERIVED. GIVEN WITH THE SEED: THE CARDS: each row of YtkfcehagblhjaaaGreatDoorRows.lean that lists a variable, with what it lists TIED to the program's text (the seventh form; the later family's looks); each row that meets fmt, with fmt's text TOLD by the authors' own Lean function (tested against real Go, not proved from fmt's source: count such statements apart). THE CARD IS WHAT COUNTS. Prove the row's statement (the work); the ties are given (YtkfcehagblhjaaaGreatDoorTie.lean); close each card by the builder's one call (the guide's Derived/Test/ToyasCard.lean, 'card_holds'). Laid BY PROGRAM, IN A SANDBOX (cutbox-door.mjs). By AI agents, Wed Nov 11 2026. No macro, syntax, notation, axiom, sorry.
-/
import Derived.Test.YtkfcehagblhjaaaGreatDoorRows
import GoSem.ClaimSeven
namespace Go.Proofs.YtkfcehagblhjaaaGreatDoor
namespace Rows

/-- THE TIED CARD OF 'filespacetop.PartsPlumb'. -/
def partsPlumbCard : Claim7 := { stood := { row := partsPlumbRow, standIns := [], harness := (true, "8f8059c19b267148b68aa929f6b75952f5508ecaa00fd655c2e3044e2a77a9cb"), looks := true }, kinds := [], alts := [], laidByText := true, laidKinds := [.data, .data, .data, .data, .sentinel, .sentinel, .pinned], laidTests := true, laidLooks := .later }
def PartsPlumbCardSaid : Prop := Claim7.holds Tryz.pinned (.plain (OpenSpec.ofChange partsPlumbSpec)) partsPlumbCard

/-- THE SECOND FORM's CARD OF 'filespacetop.PartsPlumb'. -/
def partsPlumbUptoCard : Claim7 := { stood := { row := partsPlumbUptoRow, standIns := [], harness := (true, "8f8059c19b267148b68aa929f6b75952f5508ecaa00fd655c2e3044e2a77a9cb"), looks := true }, kinds := [], alts := [], laidByText := true, laidKinds := [.data, .data, .data, .data, .sentinel, .sentinel, .pinned], laidTests := true, laidLooks := .later }
def PartsPlumbUptoCardSaid : Prop := Claim7.holds Tryz.pinned (.plain (OpenSpec.upto partsPlumbSpec)) partsPlumbUptoCard
end Rows
end Go.Proofs.YtkfcehagblhjaaaGreatDoor
