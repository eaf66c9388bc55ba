/-
  DERIVED. GIVEN WITH THE SEED: THE CARDS: each row of YtddhgkeiiobfeaaDoorRows.lean that lists a variable, with what it lists TIED to the program's text (the seventh form; the later family's looks); each row that meets fmt, with fmt's text TOLD by the authors' own Lean function (tested against real Go, not proved from fmt's source: count such statements apart). THE CARD IS WHAT COUNTS. Prove the row's statement (the work); the ties are given (YtddhgkeiiobfeaaDoorTie.lean); close each card by the builder's one call (the guide's Derived/Test/ToyasCard.lean, 'card_holds'). Laid BY PROGRAM, IN A SANDBOX (cutbox-door.mjs). By AI agents, Wed Nov 11 2026. No macro, syntax, notation, axiom, sorry.
-/
import Derived.Test.YtddhgkeiiobfeaaDoorRows
import GoSem.ClaimSeven
namespace Go.Proofs.YtddhgkeiiobfeaaDoor
namespace Rows

/-- THE TIED CARD OF 'filespacelaw45.NsfileLines'. -/
def nsfileLinesCard : Claim7 := { stood := { row := nsfileLinesRow, standIns := [], harness := (true, "abda654af02b7f3cfaa4214f375d62656ac87f97ccc80a188f39ddef49e17794"), looks := false }, kinds := [], alts := [], laidByText := true, laidKinds := [.data, .pinned], laidTests := true, laidLooks := .later }
def NsfileLinesCardSaid : Prop := Claim7.holds Tryd.pinned (.plain (OpenSpec.ofChange nsfileLinesSpec)) nsfileLinesCard

/-- THE TIED CARD OF 'filespacelaw45.NsfileShows'. -/
def nsfileShowsCard : Claim7 := { stood := { row := nsfileShowsRow, standIns := [], harness := (true, "abda654af02b7f3cfaa4214f375d62656ac87f97ccc80a188f39ddef49e17794"), looks := false }, kinds := [], alts := [], laidByText := true, laidKinds := [.data, .pinned], laidTests := true, laidLooks := .later }
def NsfileShowsCardSaid : Prop := Claim7.holds Tryd.pinned (.plain (OpenSpec.ofChange nsfileShowsSpec)) nsfileShowsCard

/-- THE TIED CARD OF 'filespacelaw45.NsfileRebuilds'. -/
def nsfileRebuildsCard : Claim7 := { stood := { row := nsfileRebuildsRow, standIns := [], harness := (true, "abda654af02b7f3cfaa4214f375d62656ac87f97ccc80a188f39ddef49e17794"), looks := false }, kinds := [], alts := [], laidByText := true, laidKinds := [.data, .pinned], laidTests := true, laidLooks := .later }
def NsfileRebuildsCardSaid : Prop := Claim7.holds Tryd.pinned (.plain (OpenSpec.ofChange nsfileRebuildsSpec)) nsfileRebuildsCard

/-- THE TIED CARD OF 'filespacelaw45.NsfilePrints'. -/
def nsfilePrintsCard : Claim7 := { stood := { row := nsfilePrintsRow, standIns := [], harness := (true, "abda654af02b7f3cfaa4214f375d62656ac87f97ccc80a188f39ddef49e17794"), looks := false }, kinds := [], alts := [], laidByText := true, laidKinds := [.data, .pinned], laidTests := true, laidLooks := .later }
def NsfilePrintsCardSaid : Prop := Claim7.holds Tryd.pinned (.plain (OpenSpec.ofChange nsfilePrintsSpec)) nsfilePrintsCard

/-- THE TIED CARD OF 'filespacelaw45.NsfileReturns'. -/
def nsfileReturnsCard : Claim7 := { stood := { row := nsfileReturnsRow, standIns := [], harness := (true, "abda654af02b7f3cfaa4214f375d62656ac87f97ccc80a188f39ddef49e17794"), looks := false }, kinds := [], alts := [], laidByText := true, laidKinds := [.data, .pinned], laidTests := true, laidLooks := .later }
def NsfileReturnsCardSaid : Prop := Claim7.holds Tryd.pinned (.plain (OpenSpec.ofChange nsfileReturnsSpec)) nsfileReturnsCard

/-- THE SECOND FORM's CARD OF 'filespacelaw45.NsfileLines'. -/
def nsfileLinesUptoCard : Claim7 := { stood := { row := nsfileLinesUptoRow, standIns := [], harness := (true, "abda654af02b7f3cfaa4214f375d62656ac87f97ccc80a188f39ddef49e17794"), looks := false }, kinds := [], alts := [], laidByText := true, laidKinds := [.data, .pinned], laidTests := true, laidLooks := .later }
def NsfileLinesUptoCardSaid : Prop := Claim7.holds Tryd.pinned (.plain (OpenSpec.upto nsfileLinesSpec)) nsfileLinesUptoCard

/-- THE SECOND FORM's CARD OF 'filespacelaw45.NsfileShows'. -/
def nsfileShowsUptoCard : Claim7 := { stood := { row := nsfileShowsUptoRow, standIns := [], harness := (true, "abda654af02b7f3cfaa4214f375d62656ac87f97ccc80a188f39ddef49e17794"), looks := false }, kinds := [], alts := [], laidByText := true, laidKinds := [.data, .pinned], laidTests := true, laidLooks := .later }
def NsfileShowsUptoCardSaid : Prop := Claim7.holds Tryd.pinned (.plain (OpenSpec.upto nsfileShowsSpec)) nsfileShowsUptoCard

/-- THE SECOND FORM's CARD OF 'filespacelaw45.NsfileRebuilds'. -/
def nsfileRebuildsUptoCard : Claim7 := { stood := { row := nsfileRebuildsUptoRow, standIns := [], harness := (true, "abda654af02b7f3cfaa4214f375d62656ac87f97ccc80a188f39ddef49e17794"), looks := false }, kinds := [], alts := [], laidByText := true, laidKinds := [.data, .pinned], laidTests := true, laidLooks := .later }
def NsfileRebuildsUptoCardSaid : Prop := Claim7.holds Tryd.pinned (.plain (OpenSpec.upto nsfileRebuildsSpec)) nsfileRebuildsUptoCard

/-- THE SECOND FORM's CARD OF 'filespacelaw45.NsfilePrints'. -/
def nsfilePrintsUptoCard : Claim7 := { stood := { row := nsfilePrintsUptoRow, standIns := [], harness := (true, "abda654af02b7f3cfaa4214f375d62656ac87f97ccc80a188f39ddef49e17794"), looks := false }, kinds := [], alts := [], laidByText := true, laidKinds := [.data, .pinned], laidTests := true, laidLooks := .later }
def NsfilePrintsUptoCardSaid : Prop := Claim7.holds Tryd.pinned (.plain (OpenSpec.upto nsfilePrintsSpec)) nsfilePrintsUptoCard

/-- THE SECOND FORM's CARD OF 'filespacelaw45.NsfileReturns'. -/
def nsfileReturnsUptoCard : Claim7 := { stood := { row := nsfileReturnsUptoRow, standIns := [], harness := (true, "abda654af02b7f3cfaa4214f375d62656ac87f97ccc80a188f39ddef49e17794"), looks := false }, kinds := [], alts := [], laidByText := true, laidKinds := [.data, .pinned], laidTests := true, laidLooks := .later }
def NsfileReturnsUptoCardSaid : Prop := Claim7.holds Tryd.pinned (.plain (OpenSpec.upto nsfileReturnsSpec)) nsfileReturnsUptoCard
end Rows
end Go.Proofs.YtddhgkeiiobfeaaDoor
