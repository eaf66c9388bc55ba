/-
  NARROWER THAN 'FOR EVERY INPUT', by the rows' own cells (each row's printed sentence says how): UserNames: laid · UserChecks: laid · UserGroups: laid · UserParses: laid · UserInverse: laid · UserCanonical: laid · UserLeader: laid.
  DERIVED. THE GIVEN ROWS OF THIS SEAT. 7 by the template 'for every input the law returns true; each argument reads behind the call as it read before'; 0 by the template 'total and deterministic' (their statements: YtibmhmnhiflmjaaDoorTotals.lean).
  GIVEN WITH THE SEED: the statements are not yours to turn. If you find one false, say at which input.
  Laid BY PROGRAM, IN A SANDBOX (cutbox-rows.mjs): the forced cells as the released guide's own fill.sh prints them over the translation 8a9269a38432bb0d… (all of the seat's roots in one cut). By AI agents, Wed Nov 11 2026. No macro, syntax, notation, axiom, sorry.
-/
import Derived.Test.YtibmhmnhiflmjaaDoorChecked
import GoSem.PinnedTables
import GoSem.Claim
import GoSem.ClaimJoined
import GoSem.ClaimMapViews
import Derived.JoinedTies
import Derived.KernelRfl
namespace Go.Proofs.YtibmhmnhiflmjaaDoor
/- THE CELL 'sum', in the pinned program and in every row, IS THE sha256 OF THE DUMP (.gsa) THAT YtibmhmnhiflmjaaDoorProg.lean LOADS. Nothing in Lean hashes anything: it is a label: what it is worth is what the hold of that sum in a sandbox is worth. -/
noncomputable def Tryd.pinned : Pinned := { name := "ytibmhmnhiflmjaadoor", sum := "8a9269a38432bb0d749a9e4cc34d75c95b83716660752adf86b528d897890da8", checked := Tryd.checked }
namespace Rows
def none {H : Type} : Left H := { results := [], args := [] }

/- WHAT THE LISTED PACKAGE-LEVEL VARIABLES READ AS WHEN THE CALL BEGINS. Each datum BY PROGRAM (the guide's laid-datum.mjs) off the statement by which the dump's own 'gosem.cut.vars' lays the variable. In a bare row this is a premise. The card (YtibmhmnhiflmjaaDoorCards.lean) ties it to the program's text. -/
def laid_unicode_utf8_acceptRanges {H : Type} : DataW H := .agg [.agg [.lit (.int .u8 128), .lit (.int .u8 191)], .agg [.lit (.int .u8 160), .lit (.int .u8 191)], .agg [.lit (.int .u8 128), .lit (.int .u8 159)], .agg [.lit (.int .u8 144), .lit (.int .u8 191)], .agg [.lit (.int .u8 128), .lit (.int .u8 143)], .agg [.lit (.int .u8 0), .lit (.int .u8 0)], .agg [.lit (.int .u8 0), .lit (.int .u8 0)], .agg [.lit (.int .u8 0), .lit (.int .u8 0)], .agg [.lit (.int .u8 0), .lit (.int .u8 0)], .agg [.lit (.int .u8 0), .lit (.int .u8 0)], .agg [.lit (.int .u8 0), .lit (.int .u8 0)], .agg [.lit (.int .u8 0), .lit (.int .u8 0)], .agg [.lit (.int .u8 0), .lit (.int .u8 0)], .agg [.lit (.int .u8 0), .lit (.int .u8 0)], .agg [.lit (.int .u8 0), .lit (.int .u8 0)], .agg [.lit (.int .u8 0), .lit (.int .u8 0)]]
/-- One of Go's own tables, pinned by name: the form's constant. -/
def laid_unicode_utf8_first : DataW Unit := Go.Pinned.utf8First

/-- 'filespacelaw05.UserNames': WHATEVER THE INPUT: true; the input reads as it did. -/
def userNamesSpec : ChangeSpec := { name := "userNames", fn := fun _ => fun
  | [d] => { results := [.lit (.bool true)], args := [d] }
  | _ => none }
def userNamesRow : OpenClaim := { program := "ytibmhmnhiflmjaadoor", sum := "8a9269a38432bb0d749a9e4cc34d75c95b83716660752adf86b528d897890da8", func := "filespace/filespacelaw05.UserNames", spec := "userNames", inPlace := ["internal/abi.NoEscape", "internal/bytealg.MakeNoZero", "internal/bytealg.IndexByteString", "internal/bytealg.IndexString", "internal/bytealg.CountString"], named := ["internal/bytealg.MaxLen", "unicode/utf8.first", "unicode/utf8.acceptRanges"], apart := false, laid := [("unicode/utf8.acceptRanges", laid_unicode_utf8_acceptRanges), ("unicode/utf8.first", laid_unicode_utf8_first)] }
def UserNamesSaid : Prop := userNamesRow.holds Tryd.pinned (OpenSpec.ofChange userNamesSpec)

/-- ITS FALSE NEIGHBOUR: 'it returns false'. Refute it at one input. -/
def userNamesWrong : ChangeSpec := { name := "userNames", fn := fun _ => fun
  | [d] => { results := [.lit (.bool false)], args := [d] }
  | _ => none }
def UserNamesWrongFalsely : Prop := userNamesRow.holds Tryd.pinned (OpenSpec.ofChange userNamesWrong)

/-- 'filespacelaw05.UserChecks': WHATEVER THE INPUT: true; the input reads as it did. -/
def userChecksSpec : ChangeSpec := { name := "userChecks", fn := fun _ => fun
  | [d] => { results := [.lit (.bool true)], args := [d] }
  | _ => none }
def userChecksRow : OpenClaim := { program := "ytibmhmnhiflmjaadoor", sum := "8a9269a38432bb0d749a9e4cc34d75c95b83716660752adf86b528d897890da8", func := "filespace/filespacelaw05.UserChecks", spec := "userChecks", inPlace := ["internal/abi.NoEscape", "internal/bytealg.MakeNoZero", "internal/bytealg.IndexByteString", "internal/bytealg.IndexString", "internal/bytealg.CountString"], named := ["internal/bytealg.MaxLen", "unicode/utf8.first", "unicode/utf8.acceptRanges"], apart := false, laid := [("unicode/utf8.acceptRanges", laid_unicode_utf8_acceptRanges), ("unicode/utf8.first", laid_unicode_utf8_first)] }
def UserChecksSaid : Prop := userChecksRow.holds Tryd.pinned (OpenSpec.ofChange userChecksSpec)

/-- ITS FALSE NEIGHBOUR: 'it returns false'. Refute it at one input. -/
def userChecksWrong : ChangeSpec := { name := "userChecks", fn := fun _ => fun
  | [d] => { results := [.lit (.bool false)], args := [d] }
  | _ => none }
def UserChecksWrongFalsely : Prop := userChecksRow.holds Tryd.pinned (OpenSpec.ofChange userChecksWrong)

/-- 'filespacelaw05.UserGroups': WHATEVER THE INPUT: true; the input reads as it did. -/
def userGroupsSpec : ChangeSpec := { name := "userGroups", fn := fun _ => fun
  | [d1, d2, d3] => { results := [.lit (.bool true)], args := [d1, d2, d3] }
  | _ => none }
def userGroupsRow : OpenClaim := { program := "ytibmhmnhiflmjaadoor", sum := "8a9269a38432bb0d749a9e4cc34d75c95b83716660752adf86b528d897890da8", func := "filespace/filespacelaw05.UserGroups", spec := "userGroups", inPlace := ["internal/abi.NoEscape", "internal/bytealg.MakeNoZero", "internal/bytealg.IndexByteString", "internal/bytealg.IndexString", "internal/bytealg.CountString"], named := ["internal/bytealg.MaxLen", "unicode/utf8.first", "unicode/utf8.acceptRanges"], apart := false, laid := [("unicode/utf8.acceptRanges", laid_unicode_utf8_acceptRanges), ("unicode/utf8.first", laid_unicode_utf8_first)] }
def UserGroupsSaid : Prop := userGroupsRow.holds Tryd.pinned (OpenSpec.ofChange userGroupsSpec)

/-- ITS FALSE NEIGHBOUR: 'it returns false'. Refute it at one input. -/
def userGroupsWrong : ChangeSpec := { name := "userGroups", fn := fun _ => fun
  | [d1, d2, d3] => { results := [.lit (.bool false)], args := [d1, d2, d3] }
  | _ => none }
def UserGroupsWrongFalsely : Prop := userGroupsRow.holds Tryd.pinned (OpenSpec.ofChange userGroupsWrong)

/-- 'filespacelaw05.UserParses': WHATEVER THE INPUT: true; the input reads as it did. -/
def userParsesSpec : ChangeSpec := { name := "userParses", fn := fun _ => fun
  | [d] => { results := [.lit (.bool true)], args := [d] }
  | _ => none }
def userParsesRow : OpenClaim := { program := "ytibmhmnhiflmjaadoor", sum := "8a9269a38432bb0d749a9e4cc34d75c95b83716660752adf86b528d897890da8", func := "filespace/filespacelaw05.UserParses", spec := "userParses", inPlace := ["internal/abi.NoEscape", "internal/bytealg.MakeNoZero", "internal/bytealg.IndexByteString", "internal/bytealg.IndexString", "internal/bytealg.CountString"], named := ["internal/bytealg.MaxLen", "unicode/utf8.first", "unicode/utf8.acceptRanges"], apart := false, laid := [("unicode/utf8.acceptRanges", laid_unicode_utf8_acceptRanges), ("unicode/utf8.first", laid_unicode_utf8_first)] }
def UserParsesSaid : Prop := userParsesRow.holds Tryd.pinned (OpenSpec.ofChange userParsesSpec)

/-- ITS FALSE NEIGHBOUR: 'it returns false'. Refute it at one input. -/
def userParsesWrong : ChangeSpec := { name := "userParses", fn := fun _ => fun
  | [d] => { results := [.lit (.bool false)], args := [d] }
  | _ => none }
def UserParsesWrongFalsely : Prop := userParsesRow.holds Tryd.pinned (OpenSpec.ofChange userParsesWrong)

/-- 'filespacelaw05.UserInverse': WHATEVER THE INPUT: true; the input reads as it did. -/
def userInverseSpec : ChangeSpec := { name := "userInverse", fn := fun _ => fun
  | [d] => { results := [.lit (.bool true)], args := [d] }
  | _ => none }
def userInverseRow : OpenClaim := { program := "ytibmhmnhiflmjaadoor", sum := "8a9269a38432bb0d749a9e4cc34d75c95b83716660752adf86b528d897890da8", func := "filespace/filespacelaw05.UserInverse", spec := "userInverse", inPlace := ["internal/abi.NoEscape", "internal/bytealg.MakeNoZero", "internal/bytealg.IndexByteString", "internal/bytealg.IndexString", "internal/bytealg.CountString"], named := ["internal/bytealg.MaxLen", "unicode/utf8.first", "unicode/utf8.acceptRanges"], apart := false, laid := [("unicode/utf8.acceptRanges", laid_unicode_utf8_acceptRanges), ("unicode/utf8.first", laid_unicode_utf8_first)] }
def UserInverseSaid : Prop := userInverseRow.holds Tryd.pinned (OpenSpec.ofChange userInverseSpec)

/-- ITS FALSE NEIGHBOUR: 'it returns false'. Refute it at one input. -/
def userInverseWrong : ChangeSpec := { name := "userInverse", fn := fun _ => fun
  | [d] => { results := [.lit (.bool false)], args := [d] }
  | _ => none }
def UserInverseWrongFalsely : Prop := userInverseRow.holds Tryd.pinned (OpenSpec.ofChange userInverseWrong)

/-- 'filespacelaw05.UserCanonical': WHATEVER THE INPUT: true; the input reads as it did. -/
def userCanonicalSpec : ChangeSpec := { name := "userCanonical", fn := fun _ => fun
  | [d] => { results := [.lit (.bool true)], args := [d] }
  | _ => none }
def userCanonicalRow : OpenClaim := { program := "ytibmhmnhiflmjaadoor", sum := "8a9269a38432bb0d749a9e4cc34d75c95b83716660752adf86b528d897890da8", func := "filespace/filespacelaw05.UserCanonical", spec := "userCanonical", inPlace := ["internal/abi.NoEscape", "internal/bytealg.MakeNoZero", "internal/bytealg.IndexByteString", "internal/bytealg.IndexString", "internal/bytealg.CountString"], named := ["internal/bytealg.MaxLen", "unicode/utf8.first", "unicode/utf8.acceptRanges"], apart := false, laid := [("unicode/utf8.acceptRanges", laid_unicode_utf8_acceptRanges), ("unicode/utf8.first", laid_unicode_utf8_first)] }
def UserCanonicalSaid : Prop := userCanonicalRow.holds Tryd.pinned (OpenSpec.ofChange userCanonicalSpec)

/-- ITS FALSE NEIGHBOUR: 'it returns false'. Refute it at one input. -/
def userCanonicalWrong : ChangeSpec := { name := "userCanonical", fn := fun _ => fun
  | [d] => { results := [.lit (.bool false)], args := [d] }
  | _ => none }
def UserCanonicalWrongFalsely : Prop := userCanonicalRow.holds Tryd.pinned (OpenSpec.ofChange userCanonicalWrong)

/-- 'filespacelaw05.UserLeader': WHATEVER THE INPUT: true; the input reads as it did. -/
def userLeaderSpec : ChangeSpec := { name := "userLeader", fn := fun _ => fun
  | [d1, d2, d3] => { results := [.lit (.bool true)], args := [d1, d2, d3] }
  | _ => none }
def userLeaderRow : OpenClaim := { program := "ytibmhmnhiflmjaadoor", sum := "8a9269a38432bb0d749a9e4cc34d75c95b83716660752adf86b528d897890da8", func := "filespace/filespacelaw05.UserLeader", spec := "userLeader", inPlace := ["internal/abi.NoEscape", "internal/bytealg.MakeNoZero", "internal/bytealg.IndexByteString", "internal/bytealg.IndexString", "internal/bytealg.CountString"], named := ["internal/bytealg.MaxLen", "unicode/utf8.first", "unicode/utf8.acceptRanges"], apart := false, laid := [("unicode/utf8.acceptRanges", laid_unicode_utf8_acceptRanges), ("unicode/utf8.first", laid_unicode_utf8_first)] }
def UserLeaderSaid : Prop := userLeaderRow.holds Tryd.pinned (OpenSpec.ofChange userLeaderSpec)

/-- ITS FALSE NEIGHBOUR: 'it returns false'. Refute it at one input. -/
def userLeaderWrong : ChangeSpec := { name := "userLeader", fn := fun _ => fun
  | [d1, d2, d3] => { results := [.lit (.bool false)], args := [d1, d2, d3] }
  | _ => none }
def UserLeaderWrongFalsely : Prop := userLeaderRow.holds Tryd.pinned (OpenSpec.ofChange userLeaderWrong)

/- THE SECOND FORM. 'bulk': how many values and letters a reading holds, each counted each time it is reached (what is shared counts as often as it is met; a slice's spare places count too). A statement '..UptoSaid' is the law's where the arguments, and the package variables that the reading takes, are together of bulk at most 1048576: NARROWER than '..Said'. Prove '..Said' where nothing that the law and all that it calls make is longer than what came in: it says more and counts as full. Else prove '..UptoSaid'. A law counts once. -/
mutual
def uptoBulk {H : Type} : DataW H → Nat
  | .lit (.string bytes) => bytes.length + 1
  | .lit _ => 1
  | .nil => 1
  | .ptr d => uptoBulk d + 1
  | .slice elems spare => uptoBulkAll elems + uptoBulkAll spare + 1
  | .agg parts => uptoBulkAll parts + 1
  | .iface _ d => uptoBulk d + 1
  | .map entries => uptoBulkEntries entries + 1
  | .held _ => 1
def uptoBulkAll {H : Type} : List (DataW H) → Nat
  | [] => 0
  | d :: r => uptoBulk d + uptoBulkAll r
def uptoBulkEntries {H : Type} : List (Lit × DataW H) → Nat
  | [] => 0
  | x :: r => uptoBulkEntry x + uptoBulkEntries r
def uptoBulkEntry {H : Type} : Lit × DataW H → Nat
  | (.string bytes, d) => bytes.length + uptoBulk d + 1
  | (_, d) => uptoBulk d + 1
 end
def uptoSmall : (H : Type) → List (DataW H) → Bool := fun _ ds => decide (uptoBulkAll ds ≤ 1048576)
def OpenSpec.upto (s : _root_.Go.ChangeSpec) : _root_.Go.OpenSpec := { _root_.Go.OpenSpec.ofChange s with cond := some uptoSmall }

/-- 'filespacelaw05.UserNames', WHERE WHAT IT READS IS OF BULK AT MOST 1048576: true; the input reads as it did. -/
def userNamesUptoRow : OpenClaim := { program := "ytibmhmnhiflmjaadoor", sum := "8a9269a38432bb0d749a9e4cc34d75c95b83716660752adf86b528d897890da8", func := "filespace/filespacelaw05.UserNames", spec := "userNames", inPlace := ["internal/abi.NoEscape", "internal/bytealg.MakeNoZero", "internal/bytealg.IndexByteString", "internal/bytealg.IndexString", "internal/bytealg.CountString"], named := ["internal/bytealg.MaxLen", "unicode/utf8.first", "unicode/utf8.acceptRanges"], apart := false, laid := [("unicode/utf8.acceptRanges", laid_unicode_utf8_acceptRanges), ("unicode/utf8.first", laid_unicode_utf8_first)], narrowed := true }
def UserNamesUptoSaid : Prop := userNamesUptoRow.holds Tryd.pinned (OpenSpec.upto userNamesSpec)

/-- 'filespacelaw05.UserChecks', WHERE WHAT IT READS IS OF BULK AT MOST 1048576: true; the input reads as it did. -/
def userChecksUptoRow : OpenClaim := { program := "ytibmhmnhiflmjaadoor", sum := "8a9269a38432bb0d749a9e4cc34d75c95b83716660752adf86b528d897890da8", func := "filespace/filespacelaw05.UserChecks", spec := "userChecks", inPlace := ["internal/abi.NoEscape", "internal/bytealg.MakeNoZero", "internal/bytealg.IndexByteString", "internal/bytealg.IndexString", "internal/bytealg.CountString"], named := ["internal/bytealg.MaxLen", "unicode/utf8.first", "unicode/utf8.acceptRanges"], apart := false, laid := [("unicode/utf8.acceptRanges", laid_unicode_utf8_acceptRanges), ("unicode/utf8.first", laid_unicode_utf8_first)], narrowed := true }
def UserChecksUptoSaid : Prop := userChecksUptoRow.holds Tryd.pinned (OpenSpec.upto userChecksSpec)

/-- 'filespacelaw05.UserGroups', WHERE WHAT IT READS IS OF BULK AT MOST 1048576: true; the input reads as it did. -/
def userGroupsUptoRow : OpenClaim := { program := "ytibmhmnhiflmjaadoor", sum := "8a9269a38432bb0d749a9e4cc34d75c95b83716660752adf86b528d897890da8", func := "filespace/filespacelaw05.UserGroups", spec := "userGroups", inPlace := ["internal/abi.NoEscape", "internal/bytealg.MakeNoZero", "internal/bytealg.IndexByteString", "internal/bytealg.IndexString", "internal/bytealg.CountString"], named := ["internal/bytealg.MaxLen", "unicode/utf8.first", "unicode/utf8.acceptRanges"], apart := false, laid := [("unicode/utf8.acceptRanges", laid_unicode_utf8_acceptRanges), ("unicode/utf8.first", laid_unicode_utf8_first)], narrowed := true }
def UserGroupsUptoSaid : Prop := userGroupsUptoRow.holds Tryd.pinned (OpenSpec.upto userGroupsSpec)

/-- 'filespacelaw05.UserParses', WHERE WHAT IT READS IS OF BULK AT MOST 1048576: true; the input reads as it did. -/
def userParsesUptoRow : OpenClaim := { program := "ytibmhmnhiflmjaadoor", sum := "8a9269a38432bb0d749a9e4cc34d75c95b83716660752adf86b528d897890da8", func := "filespace/filespacelaw05.UserParses", spec := "userParses", inPlace := ["internal/abi.NoEscape", "internal/bytealg.MakeNoZero", "internal/bytealg.IndexByteString", "internal/bytealg.IndexString", "internal/bytealg.CountString"], named := ["internal/bytealg.MaxLen", "unicode/utf8.first", "unicode/utf8.acceptRanges"], apart := false, laid := [("unicode/utf8.acceptRanges", laid_unicode_utf8_acceptRanges), ("unicode/utf8.first", laid_unicode_utf8_first)], narrowed := true }
def UserParsesUptoSaid : Prop := userParsesUptoRow.holds Tryd.pinned (OpenSpec.upto userParsesSpec)

/-- 'filespacelaw05.UserInverse', WHERE WHAT IT READS IS OF BULK AT MOST 1048576: true; the input reads as it did. -/
def userInverseUptoRow : OpenClaim := { program := "ytibmhmnhiflmjaadoor", sum := "8a9269a38432bb0d749a9e4cc34d75c95b83716660752adf86b528d897890da8", func := "filespace/filespacelaw05.UserInverse", spec := "userInverse", inPlace := ["internal/abi.NoEscape", "internal/bytealg.MakeNoZero", "internal/bytealg.IndexByteString", "internal/bytealg.IndexString", "internal/bytealg.CountString"], named := ["internal/bytealg.MaxLen", "unicode/utf8.first", "unicode/utf8.acceptRanges"], apart := false, laid := [("unicode/utf8.acceptRanges", laid_unicode_utf8_acceptRanges), ("unicode/utf8.first", laid_unicode_utf8_first)], narrowed := true }
def UserInverseUptoSaid : Prop := userInverseUptoRow.holds Tryd.pinned (OpenSpec.upto userInverseSpec)

/-- 'filespacelaw05.UserCanonical', WHERE WHAT IT READS IS OF BULK AT MOST 1048576: true; the input reads as it did. -/
def userCanonicalUptoRow : OpenClaim := { program := "ytibmhmnhiflmjaadoor", sum := "8a9269a38432bb0d749a9e4cc34d75c95b83716660752adf86b528d897890da8", func := "filespace/filespacelaw05.UserCanonical", spec := "userCanonical", inPlace := ["internal/abi.NoEscape", "internal/bytealg.MakeNoZero", "internal/bytealg.IndexByteString", "internal/bytealg.IndexString", "internal/bytealg.CountString"], named := ["internal/bytealg.MaxLen", "unicode/utf8.first", "unicode/utf8.acceptRanges"], apart := false, laid := [("unicode/utf8.acceptRanges", laid_unicode_utf8_acceptRanges), ("unicode/utf8.first", laid_unicode_utf8_first)], narrowed := true }
def UserCanonicalUptoSaid : Prop := userCanonicalUptoRow.holds Tryd.pinned (OpenSpec.upto userCanonicalSpec)

/-- 'filespacelaw05.UserLeader', WHERE WHAT IT READS IS OF BULK AT MOST 1048576: true; the input reads as it did. -/
def userLeaderUptoRow : OpenClaim := { program := "ytibmhmnhiflmjaadoor", sum := "8a9269a38432bb0d749a9e4cc34d75c95b83716660752adf86b528d897890da8", func := "filespace/filespacelaw05.UserLeader", spec := "userLeader", inPlace := ["internal/abi.NoEscape", "internal/bytealg.MakeNoZero", "internal/bytealg.IndexByteString", "internal/bytealg.IndexString", "internal/bytealg.CountString"], named := ["internal/bytealg.MaxLen", "unicode/utf8.first", "unicode/utf8.acceptRanges"], apart := false, laid := [("unicode/utf8.acceptRanges", laid_unicode_utf8_acceptRanges), ("unicode/utf8.first", laid_unicode_utf8_first)], narrowed := true }
def UserLeaderUptoSaid : Prop := userLeaderUptoRow.holds Tryd.pinned (OpenSpec.upto userLeaderSpec)

end Rows
end Go.Proofs.YtibmhmnhiflmjaaDoor
