/-
  DERIVED. GIVEN WITH THE SEED: THE CARDS: each row of YtibmhmnhiflmjaaDoorRows.lean that lists a variable, with what it lists TIED to the program's text (the seventh form; the later family's looks); each row that meets fmt, with fmt's text TOLD by the authors' own Lean function (tested against real Go, not proved from fmt's source: count such statements apart). THE CARD IS WHAT COUNTS. Prove the row's statement (the work); the ties are given (YtibmhmnhiflmjaaDoorTie.lean); close each card by the builder's one call (the guide's Derived/Test/ToyasCard.lean, 'card_holds'). Laid BY PROGRAM, IN A SANDBOX (cutbox-door.mjs). By AI agents, Wed Nov 11 2026. No macro, syntax, notation, axiom, sorry.
-/
import Derived.Test.YtibmhmnhiflmjaaDoorRows
import GoSem.ClaimSeven
namespace Go.Proofs.YtibmhmnhiflmjaaDoor
namespace Rows

/-- THE TIED CARD OF 'filespacelaw05.UserNames'. -/
def userNamesCard : Claim7 := { stood := { row := userNamesRow, standIns := [], harness := (true, "2f39f9d6796158f8c1cc42ef357f3f5147f2d978f83578d38b464273440db3c5"), looks := false }, kinds := [], alts := [], laidByText := true, laidKinds := [.data, .pinned], laidTests := true, laidLooks := .later }
def UserNamesCardSaid : Prop := Claim7.holds Tryd.pinned (.plain (OpenSpec.ofChange userNamesSpec)) userNamesCard

/-- THE TIED CARD OF 'filespacelaw05.UserChecks'. -/
def userChecksCard : Claim7 := { stood := { row := userChecksRow, standIns := [], harness := (true, "2f39f9d6796158f8c1cc42ef357f3f5147f2d978f83578d38b464273440db3c5"), looks := false }, kinds := [], alts := [], laidByText := true, laidKinds := [.data, .pinned], laidTests := true, laidLooks := .later }
def UserChecksCardSaid : Prop := Claim7.holds Tryd.pinned (.plain (OpenSpec.ofChange userChecksSpec)) userChecksCard

/-- THE TIED CARD OF 'filespacelaw05.UserGroups'. -/
def userGroupsCard : Claim7 := { stood := { row := userGroupsRow, standIns := [], harness := (true, "2f39f9d6796158f8c1cc42ef357f3f5147f2d978f83578d38b464273440db3c5"), looks := false }, kinds := [], alts := [], laidByText := true, laidKinds := [.data, .pinned], laidTests := true, laidLooks := .later }
def UserGroupsCardSaid : Prop := Claim7.holds Tryd.pinned (.plain (OpenSpec.ofChange userGroupsSpec)) userGroupsCard

/-- THE TIED CARD OF 'filespacelaw05.UserParses'. -/
def userParsesCard : Claim7 := { stood := { row := userParsesRow, standIns := [], harness := (true, "2f39f9d6796158f8c1cc42ef357f3f5147f2d978f83578d38b464273440db3c5"), looks := false }, kinds := [], alts := [], laidByText := true, laidKinds := [.data, .pinned], laidTests := true, laidLooks := .later }
def UserParsesCardSaid : Prop := Claim7.holds Tryd.pinned (.plain (OpenSpec.ofChange userParsesSpec)) userParsesCard

/-- THE TIED CARD OF 'filespacelaw05.UserInverse'. -/
def userInverseCard : Claim7 := { stood := { row := userInverseRow, standIns := [], harness := (true, "2f39f9d6796158f8c1cc42ef357f3f5147f2d978f83578d38b464273440db3c5"), looks := false }, kinds := [], alts := [], laidByText := true, laidKinds := [.data, .pinned], laidTests := true, laidLooks := .later }
def UserInverseCardSaid : Prop := Claim7.holds Tryd.pinned (.plain (OpenSpec.ofChange userInverseSpec)) userInverseCard

/-- THE TIED CARD OF 'filespacelaw05.UserCanonical'. -/
def userCanonicalCard : Claim7 := { stood := { row := userCanonicalRow, standIns := [], harness := (true, "2f39f9d6796158f8c1cc42ef357f3f5147f2d978f83578d38b464273440db3c5"), looks := false }, kinds := [], alts := [], laidByText := true, laidKinds := [.data, .pinned], laidTests := true, laidLooks := .later }
def UserCanonicalCardSaid : Prop := Claim7.holds Tryd.pinned (.plain (OpenSpec.ofChange userCanonicalSpec)) userCanonicalCard

/-- THE TIED CARD OF 'filespacelaw05.UserLeader'. -/
def userLeaderCard : Claim7 := { stood := { row := userLeaderRow, standIns := [], harness := (true, "2f39f9d6796158f8c1cc42ef357f3f5147f2d978f83578d38b464273440db3c5"), looks := false }, kinds := [], alts := [], laidByText := true, laidKinds := [.data, .pinned], laidTests := true, laidLooks := .later }
def UserLeaderCardSaid : Prop := Claim7.holds Tryd.pinned (.plain (OpenSpec.ofChange userLeaderSpec)) userLeaderCard

/-- THE SECOND FORM's CARD OF 'filespacelaw05.UserNames'. -/
def userNamesUptoCard : Claim7 := { stood := { row := userNamesUptoRow, standIns := [], harness := (true, "2f39f9d6796158f8c1cc42ef357f3f5147f2d978f83578d38b464273440db3c5"), looks := false }, kinds := [], alts := [], laidByText := true, laidKinds := [.data, .pinned], laidTests := true, laidLooks := .later }
def UserNamesUptoCardSaid : Prop := Claim7.holds Tryd.pinned (.plain (OpenSpec.upto userNamesSpec)) userNamesUptoCard

/-- THE SECOND FORM's CARD OF 'filespacelaw05.UserChecks'. -/
def userChecksUptoCard : Claim7 := { stood := { row := userChecksUptoRow, standIns := [], harness := (true, "2f39f9d6796158f8c1cc42ef357f3f5147f2d978f83578d38b464273440db3c5"), looks := false }, kinds := [], alts := [], laidByText := true, laidKinds := [.data, .pinned], laidTests := true, laidLooks := .later }
def UserChecksUptoCardSaid : Prop := Claim7.holds Tryd.pinned (.plain (OpenSpec.upto userChecksSpec)) userChecksUptoCard

/-- THE SECOND FORM's CARD OF 'filespacelaw05.UserGroups'. -/
def userGroupsUptoCard : Claim7 := { stood := { row := userGroupsUptoRow, standIns := [], harness := (true, "2f39f9d6796158f8c1cc42ef357f3f5147f2d978f83578d38b464273440db3c5"), looks := false }, kinds := [], alts := [], laidByText := true, laidKinds := [.data, .pinned], laidTests := true, laidLooks := .later }
def UserGroupsUptoCardSaid : Prop := Claim7.holds Tryd.pinned (.plain (OpenSpec.upto userGroupsSpec)) userGroupsUptoCard

/-- THE SECOND FORM's CARD OF 'filespacelaw05.UserParses'. -/
def userParsesUptoCard : Claim7 := { stood := { row := userParsesUptoRow, standIns := [], harness := (true, "2f39f9d6796158f8c1cc42ef357f3f5147f2d978f83578d38b464273440db3c5"), looks := false }, kinds := [], alts := [], laidByText := true, laidKinds := [.data, .pinned], laidTests := true, laidLooks := .later }
def UserParsesUptoCardSaid : Prop := Claim7.holds Tryd.pinned (.plain (OpenSpec.upto userParsesSpec)) userParsesUptoCard

/-- THE SECOND FORM's CARD OF 'filespacelaw05.UserInverse'. -/
def userInverseUptoCard : Claim7 := { stood := { row := userInverseUptoRow, standIns := [], harness := (true, "2f39f9d6796158f8c1cc42ef357f3f5147f2d978f83578d38b464273440db3c5"), looks := false }, kinds := [], alts := [], laidByText := true, laidKinds := [.data, .pinned], laidTests := true, laidLooks := .later }
def UserInverseUptoCardSaid : Prop := Claim7.holds Tryd.pinned (.plain (OpenSpec.upto userInverseSpec)) userInverseUptoCard

/-- THE SECOND FORM's CARD OF 'filespacelaw05.UserCanonical'. -/
def userCanonicalUptoCard : Claim7 := { stood := { row := userCanonicalUptoRow, standIns := [], harness := (true, "2f39f9d6796158f8c1cc42ef357f3f5147f2d978f83578d38b464273440db3c5"), looks := false }, kinds := [], alts := [], laidByText := true, laidKinds := [.data, .pinned], laidTests := true, laidLooks := .later }
def UserCanonicalUptoCardSaid : Prop := Claim7.holds Tryd.pinned (.plain (OpenSpec.upto userCanonicalSpec)) userCanonicalUptoCard

/-- THE SECOND FORM's CARD OF 'filespacelaw05.UserLeader'. -/
def userLeaderUptoCard : Claim7 := { stood := { row := userLeaderUptoRow, standIns := [], harness := (true, "2f39f9d6796158f8c1cc42ef357f3f5147f2d978f83578d38b464273440db3c5"), looks := false }, kinds := [], alts := [], laidByText := true, laidKinds := [.data, .pinned], laidTests := true, laidLooks := .later }
def UserLeaderUptoCardSaid : Prop := Claim7.holds Tryd.pinned (.plain (OpenSpec.upto userLeaderSpec)) userLeaderUptoCard
end Rows
end Go.Proofs.YtibmhmnhiflmjaaDoor
