/-
  DERIVED. GIVEN WITH THE SEED: THE CARDS: each row of YthoacjgjmlgaoaaDoorRows.lean that lists a variable, with what it lists TIED to the program's text (the seventh form; the later family's looks); each row that meets fmt, with fmt's text TOLD by the authors' own Lean function (tested against real Go, not proved from fmt's source: count such statements apart). THE CARD IS WHAT COUNTS. Prove the row's statement (the work); the ties are given (YthoacjgjmlgaoaaDoorTie.lean); close each card by the builder's one call (the guide's Derived/Test/ToyasCard.lean, 'card_holds'). Laid BY PROGRAM, IN A SANDBOX (cutbox-door.mjs). By AI agents, Wed Nov 11 2026. No macro, syntax, notation, axiom, sorry.
-/
import Derived.Test.YthoacjgjmlgaoaaDoorRows
import GoSem.ClaimSeven
namespace Go.Proofs.YthoacjgjmlgaoaaDoor
namespace Rows

/-- THE TIED CARD OF 'filespacelaw50.ExpandJoins'. -/
def expandJoinsCard : Claim7 := { stood := { row := expandJoinsRow, standIns := [], harness := (true, "07241971ee1f0e631c755d3259136c808515a6849e2d3b3820e463720a93c031"), looks := true }, kinds := [], alts := [], laidByText := true, laidKinds := [.data, .data, .data, .sentinel, .sentinel], laidTests := true, laidLooks := .later }
def ExpandJoinsCardSaid : Prop := Claim7.holds Tryd.pinned (.plain (OpenSpec.ofChange expandJoinsSpec)) expandJoinsCard

/-- THE TIED CARD OF 'filespacelaw50.ExpandMarks'. -/
def expandMarksCard : Claim7 := { stood := { row := expandMarksRow, standIns := [], harness := (true, "07241971ee1f0e631c755d3259136c808515a6849e2d3b3820e463720a93c031"), looks := true }, kinds := [], alts := [], laidByText := true, laidKinds := [.data, .data, .data, .sentinel, .sentinel], laidTests := true, laidLooks := .later }
def ExpandMarksCardSaid : Prop := Claim7.holds Tryd.pinned (.plain (OpenSpec.ofChange expandMarksSpec)) expandMarksCard

/-- THE TIED CARD OF 'filespacelaw50.ExpandAlgebra'. -/
def expandAlgebraCard : Claim7 := { stood := { row := expandAlgebraRow, standIns := [], harness := (true, "07241971ee1f0e631c755d3259136c808515a6849e2d3b3820e463720a93c031"), looks := true }, kinds := [], alts := [], laidByText := true, laidKinds := [.data, .data, .data, .sentinel, .sentinel], laidTests := true, laidLooks := .later }
def ExpandAlgebraCardSaid : Prop := Claim7.holds Tryd.pinned (.plain (OpenSpec.ofChange expandAlgebraSpec)) expandAlgebraCard

/-- THE TIED CARD OF 'filespacelaw50.ExpandPlain'. -/
def expandPlainCard : Claim7 := { stood := { row := expandPlainRow, standIns := [], harness := (true, "07241971ee1f0e631c755d3259136c808515a6849e2d3b3820e463720a93c031"), looks := true }, kinds := [], alts := [], laidByText := true, laidKinds := [.data, .data, .data, .sentinel, .sentinel], laidTests := true, laidLooks := .later }
def ExpandPlainCardSaid : Prop := Claim7.holds Tryd.pinned (.plain (OpenSpec.ofChange expandPlainSpec)) expandPlainCard

/-- THE SECOND FORM's CARD OF 'filespacelaw50.ExpandJoins'. -/
def expandJoinsUptoCard : Claim7 := { stood := { row := expandJoinsUptoRow, standIns := [], harness := (true, "07241971ee1f0e631c755d3259136c808515a6849e2d3b3820e463720a93c031"), looks := true }, kinds := [], alts := [], laidByText := true, laidKinds := [.data, .data, .data, .sentinel, .sentinel], laidTests := true, laidLooks := .later }
def ExpandJoinsUptoCardSaid : Prop := Claim7.holds Tryd.pinned (.plain (OpenSpec.upto expandJoinsSpec)) expandJoinsUptoCard

/-- THE SECOND FORM's CARD OF 'filespacelaw50.ExpandMarks'. -/
def expandMarksUptoCard : Claim7 := { stood := { row := expandMarksUptoRow, standIns := [], harness := (true, "07241971ee1f0e631c755d3259136c808515a6849e2d3b3820e463720a93c031"), looks := true }, kinds := [], alts := [], laidByText := true, laidKinds := [.data, .data, .data, .sentinel, .sentinel], laidTests := true, laidLooks := .later }
def ExpandMarksUptoCardSaid : Prop := Claim7.holds Tryd.pinned (.plain (OpenSpec.upto expandMarksSpec)) expandMarksUptoCard

/-- THE SECOND FORM's CARD OF 'filespacelaw50.ExpandAlgebra'. -/
def expandAlgebraUptoCard : Claim7 := { stood := { row := expandAlgebraUptoRow, standIns := [], harness := (true, "07241971ee1f0e631c755d3259136c808515a6849e2d3b3820e463720a93c031"), looks := true }, kinds := [], alts := [], laidByText := true, laidKinds := [.data, .data, .data, .sentinel, .sentinel], laidTests := true, laidLooks := .later }
def ExpandAlgebraUptoCardSaid : Prop := Claim7.holds Tryd.pinned (.plain (OpenSpec.upto expandAlgebraSpec)) expandAlgebraUptoCard

/-- THE SECOND FORM's CARD OF 'filespacelaw50.ExpandPlain'. -/
def expandPlainUptoCard : Claim7 := { stood := { row := expandPlainUptoRow, standIns := [], harness := (true, "07241971ee1f0e631c755d3259136c808515a6849e2d3b3820e463720a93c031"), looks := true }, kinds := [], alts := [], laidByText := true, laidKinds := [.data, .data, .data, .sentinel, .sentinel], laidTests := true, laidLooks := .later }
def ExpandPlainUptoCardSaid : Prop := Claim7.holds Tryd.pinned (.plain (OpenSpec.upto expandPlainSpec)) expandPlainUptoCard
end Rows
end Go.Proofs.YthoacjgjmlgaoaaDoor
