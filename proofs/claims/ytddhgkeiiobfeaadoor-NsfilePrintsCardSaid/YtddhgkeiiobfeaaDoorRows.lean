/-
  NARROWER THAN 'FOR EVERY INPUT', by the rows' own cells (each row's printed sentence says how): NsfileLines: laid · NsfileShows: laid · NsfileRebuilds: laid · NsfilePrints: laid · NsfileReturns: laid.
  DERIVED. THE GIVEN ROWS OF THIS SEAT. 5 by the template 'for every input the law returns true; each argument reads behind the call as it read before'; 0 by the template 'total and deterministic' (their statements: YtddhgkeiiobfeaaDoorTotals.lean).
  GIVEN WITH THE SEED: the statements are not yours to turn. If you find one false, say at which input.
  Laid BY PROGRAM, IN A SANDBOX (cutbox-rows.mjs): the forced cells as the released guide's own fill.sh prints them over the translation 4841ca797bcba6ba… (all of the seat's roots in one cut). By AI agents, Wed Nov 11 2026. No macro, syntax, notation, axiom, sorry.
-/
import Derived.Test.YtddhgkeiiobfeaaDoorChecked
import GoSem.PinnedTables
import GoSem.Claim
import GoSem.ClaimJoined
import GoSem.ClaimMapViews
import Derived.JoinedTies
import Derived.KernelRfl
namespace Go.Proofs.YtddhgkeiiobfeaaDoor
/- THE CELL 'sum', in the pinned program and in every row, IS THE sha256 OF THE DUMP (.gsa) THAT YtddhgkeiiobfeaaDoorProg.lean LOADS. Nothing in Lean hashes anything: it is a label: what it is worth is what the hold of that sum in a sandbox is worth. -/
noncomputable def Tryd.pinned : Pinned := { name := "ytddhgkeiiobfeaadoor", sum := "4841ca797bcba6ba5f8e302a54ec502630a626438164a1bb32eb9c9a41bb1abb", checked := Tryd.checked }
namespace Rows
def none {H : Type} : Left H := { results := [], args := [] }

/- WHAT THE LISTED PACKAGE-LEVEL VARIABLES READ AS WHEN THE CALL BEGINS. Each datum BY PROGRAM (the guide's laid-datum.mjs) off the statement by which the dump's own 'gosem.cut.vars' lays the variable. In a bare row this is a premise. The card (YtddhgkeiiobfeaaDoorCards.lean) ties it to the program's text. -/
def laid_unicode_utf8_acceptRanges {H : Type} : DataW H := .agg [.agg [.lit (.int .u8 128), .lit (.int .u8 191)], .agg [.lit (.int .u8 160), .lit (.int .u8 191)], .agg [.lit (.int .u8 128), .lit (.int .u8 159)], .agg [.lit (.int .u8 144), .lit (.int .u8 191)], .agg [.lit (.int .u8 128), .lit (.int .u8 143)], .agg [.lit (.int .u8 0), .lit (.int .u8 0)], .agg [.lit (.int .u8 0), .lit (.int .u8 0)], .agg [.lit (.int .u8 0), .lit (.int .u8 0)], .agg [.lit (.int .u8 0), .lit (.int .u8 0)], .agg [.lit (.int .u8 0), .lit (.int .u8 0)], .agg [.lit (.int .u8 0), .lit (.int .u8 0)], .agg [.lit (.int .u8 0), .lit (.int .u8 0)], .agg [.lit (.int .u8 0), .lit (.int .u8 0)], .agg [.lit (.int .u8 0), .lit (.int .u8 0)], .agg [.lit (.int .u8 0), .lit (.int .u8 0)], .agg [.lit (.int .u8 0), .lit (.int .u8 0)]]
/-- One of Go's own tables, pinned by name: the form's constant. -/
def laid_unicode_utf8_first : DataW Unit := Go.Pinned.utf8First

/-- 'filespacelaw45.NsfileLines': WHATEVER THE INPUT: true; the input reads as it did. -/
def nsfileLinesSpec : ChangeSpec := { name := "nsfileLines", fn := fun _ => fun
  | [d] => { results := [.lit (.bool true)], args := [d] }
  | _ => none }
def nsfileLinesRow : OpenClaim := { program := "ytddhgkeiiobfeaadoor", sum := "4841ca797bcba6ba5f8e302a54ec502630a626438164a1bb32eb9c9a41bb1abb", func := "filespace/filespacelaw45.NsfileLines", spec := "nsfileLines", inPlace := ["internal/bytealg.IndexByteString", "internal/bytealg.CountString", "internal/bytealg.IndexString", "internal/abi.NoEscape", "internal/bytealg.MakeNoZero"], unfollowed := true, recurses := true, named := ["internal/bytealg.MaxLen", "unicode/utf8.first", "unicode/utf8.acceptRanges"], apart := false, laid := [("unicode/utf8.acceptRanges", laid_unicode_utf8_acceptRanges), ("unicode/utf8.first", laid_unicode_utf8_first)] }
def NsfileLinesSaid : Prop := nsfileLinesRow.holds Tryd.pinned (OpenSpec.ofChange nsfileLinesSpec)

/-- ITS FALSE NEIGHBOUR: 'it returns false'. Refute it at one input. -/
def nsfileLinesWrong : ChangeSpec := { name := "nsfileLines", fn := fun _ => fun
  | [d] => { results := [.lit (.bool false)], args := [d] }
  | _ => none }
def NsfileLinesWrongFalsely : Prop := nsfileLinesRow.holds Tryd.pinned (OpenSpec.ofChange nsfileLinesWrong)

/-- 'filespacelaw45.NsfileShows': WHATEVER THE INPUT: true; the input reads as it did. -/
def nsfileShowsSpec : ChangeSpec := { name := "nsfileShows", fn := fun _ => fun
  | [d1, d2] => { results := [.lit (.bool true)], args := [d1, d2] }
  | _ => none }
def nsfileShowsRow : OpenClaim := { program := "ytddhgkeiiobfeaadoor", sum := "4841ca797bcba6ba5f8e302a54ec502630a626438164a1bb32eb9c9a41bb1abb", func := "filespace/filespacelaw45.NsfileShows", spec := "nsfileShows", inPlace := ["internal/bytealg.IndexByteString", "internal/bytealg.CountString", "internal/bytealg.IndexString", "internal/abi.NoEscape", "internal/bytealg.MakeNoZero"], unfollowed := true, recurses := true, named := ["internal/bytealg.MaxLen", "unicode/utf8.first", "unicode/utf8.acceptRanges"], apart := false, laid := [("unicode/utf8.acceptRanges", laid_unicode_utf8_acceptRanges), ("unicode/utf8.first", laid_unicode_utf8_first)] }
def NsfileShowsSaid : Prop := nsfileShowsRow.holds Tryd.pinned (OpenSpec.ofChange nsfileShowsSpec)

/-- ITS FALSE NEIGHBOUR: 'it returns false'. Refute it at one input. -/
def nsfileShowsWrong : ChangeSpec := { name := "nsfileShows", fn := fun _ => fun
  | [d1, d2] => { results := [.lit (.bool false)], args := [d1, d2] }
  | _ => none }
def NsfileShowsWrongFalsely : Prop := nsfileShowsRow.holds Tryd.pinned (OpenSpec.ofChange nsfileShowsWrong)

/-- 'filespacelaw45.NsfileRebuilds': WHATEVER THE INPUT: true; the input reads as it did. -/
def nsfileRebuildsSpec : ChangeSpec := { name := "nsfileRebuilds", fn := fun _ => fun
  | [d1, d2] => { results := [.lit (.bool true)], args := [d1, d2] }
  | _ => none }
def nsfileRebuildsRow : OpenClaim := { program := "ytddhgkeiiobfeaadoor", sum := "4841ca797bcba6ba5f8e302a54ec502630a626438164a1bb32eb9c9a41bb1abb", func := "filespace/filespacelaw45.NsfileRebuilds", spec := "nsfileRebuilds", inPlace := ["internal/bytealg.IndexByteString", "internal/bytealg.CountString", "internal/bytealg.IndexString", "internal/abi.NoEscape", "internal/bytealg.MakeNoZero"], unfollowed := true, recurses := true, named := ["internal/bytealg.MaxLen", "unicode/utf8.first", "unicode/utf8.acceptRanges"], apart := false, laid := [("unicode/utf8.acceptRanges", laid_unicode_utf8_acceptRanges), ("unicode/utf8.first", laid_unicode_utf8_first)] }
def NsfileRebuildsSaid : Prop := nsfileRebuildsRow.holds Tryd.pinned (OpenSpec.ofChange nsfileRebuildsSpec)

/-- ITS FALSE NEIGHBOUR: 'it returns false'. Refute it at one input. -/
def nsfileRebuildsWrong : ChangeSpec := { name := "nsfileRebuilds", fn := fun _ => fun
  | [d1, d2] => { results := [.lit (.bool false)], args := [d1, d2] }
  | _ => none }
def NsfileRebuildsWrongFalsely : Prop := nsfileRebuildsRow.holds Tryd.pinned (OpenSpec.ofChange nsfileRebuildsWrong)

/-- 'filespacelaw45.NsfilePrints': WHATEVER THE INPUT: true; the input reads as it did. -/
def nsfilePrintsSpec : ChangeSpec := { name := "nsfilePrints", fn := fun _ => fun
  | [d] => { results := [.lit (.bool true)], args := [d] }
  | _ => none }
def nsfilePrintsRow : OpenClaim := { program := "ytddhgkeiiobfeaadoor", sum := "4841ca797bcba6ba5f8e302a54ec502630a626438164a1bb32eb9c9a41bb1abb", func := "filespace/filespacelaw45.NsfilePrints", spec := "nsfilePrints", inPlace := ["internal/bytealg.IndexByteString", "internal/bytealg.CountString", "internal/bytealg.IndexString", "internal/abi.NoEscape", "internal/bytealg.MakeNoZero"], unfollowed := true, recurses := true, named := ["internal/bytealg.MaxLen", "unicode/utf8.first", "unicode/utf8.acceptRanges"], apart := false, laid := [("unicode/utf8.acceptRanges", laid_unicode_utf8_acceptRanges), ("unicode/utf8.first", laid_unicode_utf8_first)] }
def NsfilePrintsSaid : Prop := nsfilePrintsRow.holds Tryd.pinned (OpenSpec.ofChange nsfilePrintsSpec)

/-- ITS FALSE NEIGHBOUR: 'it returns false'. Refute it at one input. -/
def nsfilePrintsWrong : ChangeSpec := { name := "nsfilePrints", fn := fun _ => fun
  | [d] => { results := [.lit (.bool false)], args := [d] }
  | _ => none }
def NsfilePrintsWrongFalsely : Prop := nsfilePrintsRow.holds Tryd.pinned (OpenSpec.ofChange nsfilePrintsWrong)

/-- 'filespacelaw45.NsfileReturns': WHATEVER THE INPUT: true; the input reads as it did. -/
def nsfileReturnsSpec : ChangeSpec := { name := "nsfileReturns", fn := fun _ => fun
  | [d] => { results := [.lit (.bool true)], args := [d] }
  | _ => none }
def nsfileReturnsRow : OpenClaim := { program := "ytddhgkeiiobfeaadoor", sum := "4841ca797bcba6ba5f8e302a54ec502630a626438164a1bb32eb9c9a41bb1abb", func := "filespace/filespacelaw45.NsfileReturns", spec := "nsfileReturns", inPlace := ["internal/bytealg.IndexByteString", "internal/bytealg.CountString", "internal/bytealg.IndexString", "internal/abi.NoEscape", "internal/bytealg.MakeNoZero"], unfollowed := true, recurses := true, named := ["internal/bytealg.MaxLen", "unicode/utf8.first", "unicode/utf8.acceptRanges"], apart := false, laid := [("unicode/utf8.acceptRanges", laid_unicode_utf8_acceptRanges), ("unicode/utf8.first", laid_unicode_utf8_first)] }
def NsfileReturnsSaid : Prop := nsfileReturnsRow.holds Tryd.pinned (OpenSpec.ofChange nsfileReturnsSpec)

/-- ITS FALSE NEIGHBOUR: 'it returns false'. Refute it at one input. -/
def nsfileReturnsWrong : ChangeSpec := { name := "nsfileReturns", fn := fun _ => fun
  | [d] => { results := [.lit (.bool false)], args := [d] }
  | _ => none }
def NsfileReturnsWrongFalsely : Prop := nsfileReturnsRow.holds Tryd.pinned (OpenSpec.ofChange nsfileReturnsWrong)

/- THE SECOND FORM. 'bulk': how many values and letters a reading holds, each counted each time it is reached (what is shared counts as often as it is met; a slice's spare places count too). A statement '..UptoSaid' is the law's where the arguments, and the package variables that the reading takes, are together of bulk at most 1048576: NARROWER than '..Said'. Prove '..Said' where nothing that the law and all that it calls make is longer than what came in: it says more and counts as full. Else prove '..UptoSaid'. A law counts once. -/
mutual
def uptoBulk {H : Type} : DataW H → Nat
  | .lit (.string bytes) => bytes.length + 1
  | .lit _ => 1
  | .nil => 1
  | .ptr d => uptoBulk d + 1
  | .slice elems spare => uptoBulkAll elems + uptoBulkAll spare + 1
  | .agg parts => uptoBulkAll parts + 1
  | .iface _ d => uptoBulk d + 1
  | .map entries => uptoBulkEntries entries + 1
  | .held _ => 1
def uptoBulkAll {H : Type} : List (DataW H) → Nat
  | [] => 0
  | d :: r => uptoBulk d + uptoBulkAll r
def uptoBulkEntries {H : Type} : List (Lit × DataW H) → Nat
  | [] => 0
  | x :: r => uptoBulkEntry x + uptoBulkEntries r
def uptoBulkEntry {H : Type} : Lit × DataW H → Nat
  | (.string bytes, d) => bytes.length + uptoBulk d + 1
  | (_, d) => uptoBulk d + 1
 end
def uptoSmall : (H : Type) → List (DataW H) → Bool := fun _ ds => decide (uptoBulkAll ds ≤ 1048576)
def OpenSpec.upto (s : _root_.Go.ChangeSpec) : _root_.Go.OpenSpec := { _root_.Go.OpenSpec.ofChange s with cond := some uptoSmall }

/-- 'filespacelaw45.NsfileLines', WHERE WHAT IT READS IS OF BULK AT MOST 1048576: true; the input reads as it did. -/
def nsfileLinesUptoRow : OpenClaim := { program := "ytddhgkeiiobfeaadoor", sum := "4841ca797bcba6ba5f8e302a54ec502630a626438164a1bb32eb9c9a41bb1abb", func := "filespace/filespacelaw45.NsfileLines", spec := "nsfileLines", inPlace := ["internal/bytealg.IndexByteString", "internal/bytealg.CountString", "internal/bytealg.IndexString", "internal/abi.NoEscape", "internal/bytealg.MakeNoZero"], unfollowed := true, recurses := true, named := ["internal/bytealg.MaxLen", "unicode/utf8.first", "unicode/utf8.acceptRanges"], apart := false, laid := [("unicode/utf8.acceptRanges", laid_unicode_utf8_acceptRanges), ("unicode/utf8.first", laid_unicode_utf8_first)], narrowed := true }
def NsfileLinesUptoSaid : Prop := nsfileLinesUptoRow.holds Tryd.pinned (OpenSpec.upto nsfileLinesSpec)

/-- 'filespacelaw45.NsfileShows', WHERE WHAT IT READS IS OF BULK AT MOST 1048576: true; the input reads as it did. -/
def nsfileShowsUptoRow : OpenClaim := { program := "ytddhgkeiiobfeaadoor", sum := "4841ca797bcba6ba5f8e302a54ec502630a626438164a1bb32eb9c9a41bb1abb", func := "filespace/filespacelaw45.NsfileShows", spec := "nsfileShows", inPlace := ["internal/bytealg.IndexByteString", "internal/bytealg.CountString", "internal/bytealg.IndexString", "internal/abi.NoEscape", "internal/bytealg.MakeNoZero"], unfollowed := true, recurses := true, named := ["internal/bytealg.MaxLen", "unicode/utf8.first", "unicode/utf8.acceptRanges"], apart := false, laid := [("unicode/utf8.acceptRanges", laid_unicode_utf8_acceptRanges), ("unicode/utf8.first", laid_unicode_utf8_first)], narrowed := true }
def NsfileShowsUptoSaid : Prop := nsfileShowsUptoRow.holds Tryd.pinned (OpenSpec.upto nsfileShowsSpec)

/-- 'filespacelaw45.NsfileRebuilds', WHERE WHAT IT READS IS OF BULK AT MOST 1048576: true; the input reads as it did. -/
def nsfileRebuildsUptoRow : OpenClaim := { program := "ytddhgkeiiobfeaadoor", sum := "4841ca797bcba6ba5f8e302a54ec502630a626438164a1bb32eb9c9a41bb1abb", func := "filespace/filespacelaw45.NsfileRebuilds", spec := "nsfileRebuilds", inPlace := ["internal/bytealg.IndexByteString", "internal/bytealg.CountString", "internal/bytealg.IndexString", "internal/abi.NoEscape", "internal/bytealg.MakeNoZero"], unfollowed := true, recurses := true, named := ["internal/bytealg.MaxLen", "unicode/utf8.first", "unicode/utf8.acceptRanges"], apart := false, laid := [("unicode/utf8.acceptRanges", laid_unicode_utf8_acceptRanges), ("unicode/utf8.first", laid_unicode_utf8_first)], narrowed := true }
def NsfileRebuildsUptoSaid : Prop := nsfileRebuildsUptoRow.holds Tryd.pinned (OpenSpec.upto nsfileRebuildsSpec)

/-- 'filespacelaw45.NsfilePrints', WHERE WHAT IT READS IS OF BULK AT MOST 1048576: true; the input reads as it did. -/
def nsfilePrintsUptoRow : OpenClaim := { program := "ytddhgkeiiobfeaadoor", sum := "4841ca797bcba6ba5f8e302a54ec502630a626438164a1bb32eb9c9a41bb1abb", func := "filespace/filespacelaw45.NsfilePrints", spec := "nsfilePrints", inPlace := ["internal/bytealg.IndexByteString", "internal/bytealg.CountString", "internal/bytealg.IndexString", "internal/abi.NoEscape", "internal/bytealg.MakeNoZero"], unfollowed := true, recurses := true, named := ["internal/bytealg.MaxLen", "unicode/utf8.first", "unicode/utf8.acceptRanges"], apart := false, laid := [("unicode/utf8.acceptRanges", laid_unicode_utf8_acceptRanges), ("unicode/utf8.first", laid_unicode_utf8_first)], narrowed := true }
def NsfilePrintsUptoSaid : Prop := nsfilePrintsUptoRow.holds Tryd.pinned (OpenSpec.upto nsfilePrintsSpec)

/-- 'filespacelaw45.NsfileReturns', WHERE WHAT IT READS IS OF BULK AT MOST 1048576: true; the input reads as it did. -/
def nsfileReturnsUptoRow : OpenClaim := { program := "ytddhgkeiiobfeaadoor", sum := "4841ca797bcba6ba5f8e302a54ec502630a626438164a1bb32eb9c9a41bb1abb", func := "filespace/filespacelaw45.NsfileReturns", spec := "nsfileReturns", inPlace := ["internal/bytealg.IndexByteString", "internal/bytealg.CountString", "internal/bytealg.IndexString", "internal/abi.NoEscape", "internal/bytealg.MakeNoZero"], unfollowed := true, recurses := true, named := ["internal/bytealg.MaxLen", "unicode/utf8.first", "unicode/utf8.acceptRanges"], apart := false, laid := [("unicode/utf8.acceptRanges", laid_unicode_utf8_acceptRanges), ("unicode/utf8.first", laid_unicode_utf8_first)], narrowed := true }
def NsfileReturnsUptoSaid : Prop := nsfileReturnsUptoRow.holds Tryd.pinned (OpenSpec.upto nsfileReturnsSpec)

end Rows
end Go.Proofs.YtddhgkeiiobfeaaDoor
