/-
  DERIVED. GIVEN WITH THE SEED: THE CARDS: each row of YtkiajanddmgmnaaDoorRows.lean that lists a variable, with what it lists TIED to the program's text (the seventh form; the later family's looks); each row that meets fmt, with fmt's text TOLD by the authors' own Lean function (tested against real Go, not proved from fmt's source: count such statements apart). THE CARD IS WHAT COUNTS. Prove the row's statement (the work); the ties are given (YtkiajanddmgmnaaDoorTie.lean); close each card by the builder's one call (the guide's Derived/Test/ToyasCard.lean, 'card_holds'). Laid BY PROGRAM, IN A SANDBOX (cutbox-door.mjs). By AI agents, Wed Nov 11 2026. No macro, syntax, notation, axiom, sorry.
-/
import Derived.Test.YtkiajanddmgmnaaDoorRows
import GoSem.ClaimSeven
namespace Go.Proofs.YtkiajanddmgmnaaDoor
namespace Rows

/-- THE TIED CARD OF 'filespacelaw29.EnvCodes'. -/
def envCodesCard : Claim7 := { stood := { row := envCodesRow, standIns := [], harness := (true, "c1c201592e505bc45160832503e3c4fd8b88306155083294d6b990787ccab09d"), looks := false }, kinds := [], alts := [], laidByText := true, laidKinds := [.data, .pinned], laidTests := true, laidLooks := .later }
def EnvCodesCardSaid : Prop := Claim7.holds Tryd.pinned (.plain (OpenSpec.ofChange envCodesSpec)) envCodesCard

/-- THE TIED CARD OF 'filespacelaw29.EnvOthers'. -/
def envOthersCard : Claim7 := { stood := { row := envOthersRow, standIns := [], harness := (true, "c1c201592e505bc45160832503e3c4fd8b88306155083294d6b990787ccab09d"), looks := false }, kinds := [], alts := [], laidByText := true, laidKinds := [.data, .pinned], laidTests := true, laidLooks := .later }
def EnvOthersCardSaid : Prop := Claim7.holds Tryd.pinned (.plain (OpenSpec.ofChange envOthersSpec)) envOthersCard

/-- THE TIED CARD OF 'filespacelaw29.EnvReads'. -/
def envReadsCard : Claim7 := { stood := { row := envReadsRow, standIns := [], harness := (true, "c1c201592e505bc45160832503e3c4fd8b88306155083294d6b990787ccab09d"), looks := false }, kinds := [], alts := [], laidByText := true, laidKinds := [.data, .pinned], laidTests := true, laidLooks := .later }
def EnvReadsCardSaid : Prop := Claim7.holds Tryd.pinned (.plain (OpenSpec.ofChange envReadsSpec)) envReadsCard

/-- THE TIED CARD OF 'filespacelaw29.EnvKeeps'. -/
def envKeepsCard : Claim7 := { stood := { row := envKeepsRow, standIns := [], harness := (true, "c1c201592e505bc45160832503e3c4fd8b88306155083294d6b990787ccab09d"), looks := false }, kinds := [], alts := [], laidByText := true, laidKinds := [.data, .pinned], laidTests := true, laidLooks := .later }
def EnvKeepsCardSaid : Prop := Claim7.holds Tryd.pinned (.plain (OpenSpec.ofChange envKeepsSpec)) envKeepsCard

/-- THE SECOND FORM's CARD OF 'filespacelaw29.EnvCodes'. -/
def envCodesUptoCard : Claim7 := { stood := { row := envCodesUptoRow, standIns := [], harness := (true, "c1c201592e505bc45160832503e3c4fd8b88306155083294d6b990787ccab09d"), looks := false }, kinds := [], alts := [], laidByText := true, laidKinds := [.data, .pinned], laidTests := true, laidLooks := .later }
def EnvCodesUptoCardSaid : Prop := Claim7.holds Tryd.pinned (.plain (OpenSpec.upto envCodesSpec)) envCodesUptoCard

/-- THE SECOND FORM's CARD OF 'filespacelaw29.EnvOthers'. -/
def envOthersUptoCard : Claim7 := { stood := { row := envOthersUptoRow, standIns := [], harness := (true, "c1c201592e505bc45160832503e3c4fd8b88306155083294d6b990787ccab09d"), looks := false }, kinds := [], alts := [], laidByText := true, laidKinds := [.data, .pinned], laidTests := true, laidLooks := .later }
def EnvOthersUptoCardSaid : Prop := Claim7.holds Tryd.pinned (.plain (OpenSpec.upto envOthersSpec)) envOthersUptoCard

/-- THE SECOND FORM's CARD OF 'filespacelaw29.EnvReads'. -/
def envReadsUptoCard : Claim7 := { stood := { row := envReadsUptoRow, standIns := [], harness := (true, "c1c201592e505bc45160832503e3c4fd8b88306155083294d6b990787ccab09d"), looks := false }, kinds := [], alts := [], laidByText := true, laidKinds := [.data, .pinned], laidTests := true, laidLooks := .later }
def EnvReadsUptoCardSaid : Prop := Claim7.holds Tryd.pinned (.plain (OpenSpec.upto envReadsSpec)) envReadsUptoCard

/-- THE SECOND FORM's CARD OF 'filespacelaw29.EnvKeeps'. -/
def envKeepsUptoCard : Claim7 := { stood := { row := envKeepsUptoRow, standIns := [], harness := (true, "c1c201592e505bc45160832503e3c4fd8b88306155083294d6b990787ccab09d"), looks := false }, kinds := [], alts := [], laidByText := true, laidKinds := [.data, .pinned], laidTests := true, laidLooks := .later }
def EnvKeepsUptoCardSaid : Prop := Claim7.holds Tryd.pinned (.plain (OpenSpec.upto envKeepsSpec)) envKeepsUptoCard
end Rows
end Go.Proofs.YtkiajanddmgmnaaDoor
