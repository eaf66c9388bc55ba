/-
  DERIVED. GIVEN WITH THE SEED: THE CARDS: each row of YtkiajanddmgmnaaGreatDoorRows.lean that lists a variable, with what it lists TIED to the program's text (the seventh form; the later family's looks); each row that meets fmt, with fmt's text TOLD by the authors' own Lean function (tested against real Go, not proved from fmt's source: count such statements apart). THE CARD IS WHAT COUNTS. Prove the row's statement (the work); the ties are given (YtkiajanddmgmnaaGreatDoorTie.lean); close each card by the builder's one call (the guide's Derived/Test/ToyasCard.lean, 'card_holds'). Laid BY PROGRAM, IN A SANDBOX (cutbox-door.mjs). By AI agents, Wed Nov 11 2026. No macro, syntax, notation, axiom, sorry.
-/
import Derived.Test.YtkiajanddmgmnaaGreatDoorRows
import GoSem.ClaimSeven
namespace Go.Proofs.YtkiajanddmgmnaaGreatDoor
namespace Rows

/-- THE TIED CARD OF 'filespacelaw29.EnvWrites'. -/
def envWritesCard : Claim7 := { stood := { row := envWritesRow, standIns := [], harness := (true, "8510198b00dd45e78a0fcbedd055615def659aff2437261450f1eb3458cfb298"), looks := false }, kinds := [], alts := [], laidByText := true, laidKinds := [.data, .pinned], laidTests := true, laidLooks := .later }
def EnvWritesCardSaid : Prop := Claim7.holds Tryz.pinned (.plain (OpenSpec.ofChange envWritesSpec)) envWritesCard

/-- THE SECOND FORM's CARD OF 'filespacelaw29.EnvWrites'. -/
def envWritesUptoCard : Claim7 := { stood := { row := envWritesUptoRow, standIns := [], harness := (true, "8510198b00dd45e78a0fcbedd055615def659aff2437261450f1eb3458cfb298"), looks := false }, kinds := [], alts := [], laidByText := true, laidKinds := [.data, .pinned], laidTests := true, laidLooks := .later }
def EnvWritesUptoCardSaid : Prop := Claim7.holds Tryz.pinned (.plain (OpenSpec.upto envWritesSpec)) envWritesUptoCard
end Rows
end Go.Proofs.YtkiajanddmgmnaaGreatDoor
