/-
  DERIVED. GIVEN WITH THE SEED: THE CARDS: each row of YtljahlbklgnfhaaGreatDoorRows.lean that lists a variable, with what it lists TIED to the program's text (the seventh form; the later family's looks); each row that meets fmt, with fmt's text TOLD by the authors' own Lean function (tested against real Go, not proved from fmt's source: count such statements apart). THE CARD IS WHAT COUNTS. Prove the row's statement (the work); the ties are given (YtljahlbklgnfhaaGreatDoorTie.lean); close each card by the builder's one call (the guide's Derived/Test/ToyasCard.lean, 'card_holds'). Laid BY PROGRAM, IN A SANDBOX (cutbox-door.mjs). By AI agents, Wed Nov 11 2026. No macro, syntax, notation, axiom, sorry.
-/
import Derived.Test.YtljahlbklgnfhaaGreatDoorRows
import GoSem.ClaimSeven
namespace Go.Proofs.YtljahlbklgnfhaaGreatDoor
namespace Rows

/-- THE TIED CARD OF 'filespacelaw48.ParsePrograms'. -/
def parseProgramsCard : Claim7 := { stood := { row := parseProgramsRow, standIns := [], harness := (true, "5a58e839f360197eb770f724caa26f0e114cf4afa948be303cb385fd6aef4dac"), looks := true }, kinds := [], alts := [], laidByText := true, laidKinds := [.data, .data, .data, .data, .sentinel, .sentinel, .pinned], laidTests := true, laidLooks := .later }
def ParseProgramsCardSaid : Prop := Claim7.holds Tryz.pinned (.plain (OpenSpec.ofChange parseProgramsSpec)) parseProgramsCard

/-- THE TIED CARD OF 'filespacelaw48.ParseChecks'. -/
def parseChecksCard : Claim7 := { stood := { row := parseChecksRow, standIns := [], harness := (true, "5a58e839f360197eb770f724caa26f0e114cf4afa948be303cb385fd6aef4dac"), looks := true }, kinds := [], alts := [], laidByText := true, laidKinds := [.data, .data, .data, .data, .sentinel, .sentinel, .pinned], laidTests := true, laidLooks := .later }
def ParseChecksCardSaid : Prop := Claim7.holds Tryz.pinned (.plain (OpenSpec.ofChange parseChecksSpec)) parseChecksCard

/-- THE TIED CARD OF 'filespacelaw48.ParsePrints'. -/
def parsePrintsCard : Claim7 := { stood := { row := parsePrintsRow, standIns := [], harness := (true, "5a58e839f360197eb770f724caa26f0e114cf4afa948be303cb385fd6aef4dac"), looks := true }, kinds := [], alts := [], laidByText := true, laidKinds := [.data, .data, .data, .data, .sentinel, .sentinel, .pinned], laidTests := true, laidLooks := .later }
def ParsePrintsCardSaid : Prop := Claim7.holds Tryz.pinned (.plain (OpenSpec.ofChange parsePrintsSpec)) parsePrintsCard

/-- THE TIED CARD OF 'filespacelaw48.ParseReturns'. -/
def parseReturnsCard : Claim7 := { stood := { row := parseReturnsRow, standIns := [], harness := (true, "5a58e839f360197eb770f724caa26f0e114cf4afa948be303cb385fd6aef4dac"), looks := true }, kinds := [], alts := [], laidByText := true, laidKinds := [.data, .data, .data, .data, .sentinel, .sentinel, .pinned], laidTests := true, laidLooks := .later }
def ParseReturnsCardSaid : Prop := Claim7.holds Tryz.pinned (.plain (OpenSpec.ofChange parseReturnsSpec)) parseReturnsCard

/-- THE SECOND FORM's CARD OF 'filespacelaw48.ParsePrograms'. -/
def parseProgramsUptoCard : Claim7 := { stood := { row := parseProgramsUptoRow, standIns := [], harness := (true, "5a58e839f360197eb770f724caa26f0e114cf4afa948be303cb385fd6aef4dac"), looks := true }, kinds := [], alts := [], laidByText := true, laidKinds := [.data, .data, .data, .data, .sentinel, .sentinel, .pinned], laidTests := true, laidLooks := .later }
def ParseProgramsUptoCardSaid : Prop := Claim7.holds Tryz.pinned (.plain (OpenSpec.upto parseProgramsSpec)) parseProgramsUptoCard

/-- THE SECOND FORM's CARD OF 'filespacelaw48.ParseChecks'. -/
def parseChecksUptoCard : Claim7 := { stood := { row := parseChecksUptoRow, standIns := [], harness := (true, "5a58e839f360197eb770f724caa26f0e114cf4afa948be303cb385fd6aef4dac"), looks := true }, kinds := [], alts := [], laidByText := true, laidKinds := [.data, .data, .data, .data, .sentinel, .sentinel, .pinned], laidTests := true, laidLooks := .later }
def ParseChecksUptoCardSaid : Prop := Claim7.holds Tryz.pinned (.plain (OpenSpec.upto parseChecksSpec)) parseChecksUptoCard

/-- THE SECOND FORM's CARD OF 'filespacelaw48.ParsePrints'. -/
def parsePrintsUptoCard : Claim7 := { stood := { row := parsePrintsUptoRow, standIns := [], harness := (true, "5a58e839f360197eb770f724caa26f0e114cf4afa948be303cb385fd6aef4dac"), looks := true }, kinds := [], alts := [], laidByText := true, laidKinds := [.data, .data, .data, .data, .sentinel, .sentinel, .pinned], laidTests := true, laidLooks := .later }
def ParsePrintsUptoCardSaid : Prop := Claim7.holds Tryz.pinned (.plain (OpenSpec.upto parsePrintsSpec)) parsePrintsUptoCard

/-- THE SECOND FORM's CARD OF 'filespacelaw48.ParseReturns'. -/
def parseReturnsUptoCard : Claim7 := { stood := { row := parseReturnsUptoRow, standIns := [], harness := (true, "5a58e839f360197eb770f724caa26f0e114cf4afa948be303cb385fd6aef4dac"), looks := true }, kinds := [], alts := [], laidByText := true, laidKinds := [.data, .data, .data, .data, .sentinel, .sentinel, .pinned], laidTests := true, laidLooks := .later }
def ParseReturnsUptoCardSaid : Prop := Claim7.holds Tryz.pinned (.plain (OpenSpec.upto parseReturnsSpec)) parseReturnsUptoCard
end Rows
end Go.Proofs.YtljahlbklgnfhaaGreatDoor
