/-
  NARROWER THAN 'FOR EVERY INPUT', by the rows' own cells (each row's printed sentence says how): EnvCodes: laid · EnvOthers: laid · EnvReads: laid · EnvKeeps: laid.
  DERIVED. THE GIVEN ROWS OF THIS SEAT. 4 by the template 'for every input the law returns true; each argument reads behind the call as it read before'; 0 by the template 'total and deterministic' (their statements: YtkiajanddmgmnaaDoorTotals.lean).
  GIVEN WITH THE SEED: the statements are not yours to turn. If you find one false, say at which input.
  Laid BY PROGRAM, IN A SANDBOX (cutbox-rows.mjs): the forced cells as the released guide's own fill.sh prints them over the translation 02da454caad64b9b… (all of the seat's roots in one cut). By AI agents, Wed Nov 11 2026. No macro, syntax, notation, axiom, sorry.
-/
import Derived.Test.YtkiajanddmgmnaaDoorChecked
import GoSem.PinnedTables
import GoSem.Claim
import GoSem.ClaimJoined
import GoSem.ClaimMapViews
import Derived.JoinedTies
import Derived.KernelRfl
namespace Go.Proofs.YtkiajanddmgmnaaDoor
/- THE CELL 'sum', in the pinned program and in every row, IS THE sha256 OF THE DUMP (.gsa) THAT YtkiajanddmgmnaaDoorProg.lean LOADS. Nothing in Lean hashes anything: it is a label: what it is worth is what the hold of that sum in a sandbox is worth. -/
noncomputable def Tryd.pinned : Pinned := { name := "ytkiajanddmgmnaadoor", sum := "02da454caad64b9bd86ebd00c4ad8215951c51c5970ec03fc2c0704efc3c549e", checked := Tryd.checked }
namespace Rows
def none {H : Type} : Left H := { results := [], args := [] }

/- WHAT THE LISTED PACKAGE-LEVEL VARIABLES READ AS WHEN THE CALL BEGINS. Each datum BY PROGRAM (the guide's laid-datum.mjs) off the statement by which the dump's own 'gosem.cut.vars' lays the variable. In a bare row this is a premise. The card (YtkiajanddmgmnaaDoorCards.lean) ties it to the program's text. -/
def laid_unicode_utf8_acceptRanges {H : Type} : DataW H := .agg [.agg [.lit (.int .u8 128), .lit (.int .u8 191)], .agg [.lit (.int .u8 160), .lit (.int .u8 191)], .agg [.lit (.int .u8 128), .lit (.int .u8 159)], .agg [.lit (.int .u8 144), .lit (.int .u8 191)], .agg [.lit (.int .u8 128), .lit (.int .u8 143)], .agg [.lit (.int .u8 0), .lit (.int .u8 0)], .agg [.lit (.int .u8 0), .lit (.int .u8 0)], .agg [.lit (.int .u8 0), .lit (.int .u8 0)], .agg [.lit (.int .u8 0), .lit (.int .u8 0)], .agg [.lit (.int .u8 0), .lit (.int .u8 0)], .agg [.lit (.int .u8 0), .lit (.int .u8 0)], .agg [.lit (.int .u8 0), .lit (.int .u8 0)], .agg [.lit (.int .u8 0), .lit (.int .u8 0)], .agg [.lit (.int .u8 0), .lit (.int .u8 0)], .agg [.lit (.int .u8 0), .lit (.int .u8 0)], .agg [.lit (.int .u8 0), .lit (.int .u8 0)]]
/-- One of Go's own tables, pinned by name: the form's constant. -/
def laid_unicode_utf8_first : DataW Unit := Go.Pinned.utf8First

/-- 'filespacelaw29.EnvCodes': WHATEVER THE INPUT: true; the input reads as it did. -/
def envCodesSpec : ChangeSpec := { name := "envCodes", fn := fun _ => fun
  | [d1, d2] => { results := [.lit (.bool true)], args := [d1, d2] }
  | _ => none }
def envCodesRow : OpenClaim := { program := "ytkiajanddmgmnaadoor", sum := "02da454caad64b9bd86ebd00c4ad8215951c51c5970ec03fc2c0704efc3c549e", func := "filespace/filespacelaw29.EnvCodes", spec := "envCodes", inPlace := ["slices.overlaps[filespace/api.Env]", "internal/bytealg.IndexByteString", "internal/bytealg.IndexString", "internal/abi.NoEscape", "internal/bytealg.MakeNoZero", "internal/bytealg.CountString"], unfollowed := true, recurses := true, named := ["internal/bytealg.MaxLen", "unicode/utf8.first", "unicode/utf8.acceptRanges"], apart := false, laid := [("unicode/utf8.acceptRanges", laid_unicode_utf8_acceptRanges), ("unicode/utf8.first", laid_unicode_utf8_first)] }
def EnvCodesSaid : Prop := envCodesRow.holds Tryd.pinned (OpenSpec.ofChange envCodesSpec)

/-- ITS FALSE NEIGHBOUR: 'it returns false'. Refute it at one input. -/
def envCodesWrong : ChangeSpec := { name := "envCodes", fn := fun _ => fun
  | [d1, d2] => { results := [.lit (.bool false)], args := [d1, d2] }
  | _ => none }
def EnvCodesWrongFalsely : Prop := envCodesRow.holds Tryd.pinned (OpenSpec.ofChange envCodesWrong)

/-- 'filespacelaw29.EnvOthers': WHATEVER THE INPUT: true; the input reads as it did. -/
def envOthersSpec : ChangeSpec := { name := "envOthers", fn := fun _ => fun
  | [d1, d2, d3] => { results := [.lit (.bool true)], args := [d1, d2, d3] }
  | _ => none }
def envOthersRow : OpenClaim := { program := "ytkiajanddmgmnaadoor", sum := "02da454caad64b9bd86ebd00c4ad8215951c51c5970ec03fc2c0704efc3c549e", func := "filespace/filespacelaw29.EnvOthers", spec := "envOthers", inPlace := ["slices.overlaps[filespace/api.Env]", "internal/bytealg.IndexByteString", "internal/bytealg.IndexString", "internal/abi.NoEscape", "internal/bytealg.MakeNoZero", "internal/bytealg.CountString"], unfollowed := true, recurses := true, named := ["internal/bytealg.MaxLen", "unicode/utf8.first", "unicode/utf8.acceptRanges"], apart := false, laid := [("unicode/utf8.acceptRanges", laid_unicode_utf8_acceptRanges), ("unicode/utf8.first", laid_unicode_utf8_first)] }
def EnvOthersSaid : Prop := envOthersRow.holds Tryd.pinned (OpenSpec.ofChange envOthersSpec)

/-- ITS FALSE NEIGHBOUR: 'it returns false'. Refute it at one input. -/
def envOthersWrong : ChangeSpec := { name := "envOthers", fn := fun _ => fun
  | [d1, d2, d3] => { results := [.lit (.bool false)], args := [d1, d2, d3] }
  | _ => none }
def EnvOthersWrongFalsely : Prop := envOthersRow.holds Tryd.pinned (OpenSpec.ofChange envOthersWrong)

/-- 'filespacelaw29.EnvReads': WHATEVER THE INPUT: true; the input reads as it did. -/
def envReadsSpec : ChangeSpec := { name := "envReads", fn := fun _ => fun
  | [d1, d2] => { results := [.lit (.bool true)], args := [d1, d2] }
  | _ => none }
def envReadsRow : OpenClaim := { program := "ytkiajanddmgmnaadoor", sum := "02da454caad64b9bd86ebd00c4ad8215951c51c5970ec03fc2c0704efc3c549e", func := "filespace/filespacelaw29.EnvReads", spec := "envReads", inPlace := ["slices.overlaps[filespace/api.Env]", "internal/bytealg.IndexByteString", "internal/bytealg.IndexString", "internal/abi.NoEscape", "internal/bytealg.MakeNoZero", "internal/bytealg.CountString"], unfollowed := true, recurses := true, named := ["internal/bytealg.MaxLen", "unicode/utf8.first", "unicode/utf8.acceptRanges"], apart := false, laid := [("unicode/utf8.acceptRanges", laid_unicode_utf8_acceptRanges), ("unicode/utf8.first", laid_unicode_utf8_first)] }
def EnvReadsSaid : Prop := envReadsRow.holds Tryd.pinned (OpenSpec.ofChange envReadsSpec)

/-- ITS FALSE NEIGHBOUR: 'it returns false'. Refute it at one input. -/
def envReadsWrong : ChangeSpec := { name := "envReads", fn := fun _ => fun
  | [d1, d2] => { results := [.lit (.bool false)], args := [d1, d2] }
  | _ => none }
def EnvReadsWrongFalsely : Prop := envReadsRow.holds Tryd.pinned (OpenSpec.ofChange envReadsWrong)

/-- 'filespacelaw29.EnvKeeps': WHATEVER THE INPUT: true; the input reads as it did. -/
def envKeepsSpec : ChangeSpec := { name := "envKeeps", fn := fun _ => fun
  | [d] => { results := [.lit (.bool true)], args := [d] }
  | _ => none }
def envKeepsRow : OpenClaim := { program := "ytkiajanddmgmnaadoor", sum := "02da454caad64b9bd86ebd00c4ad8215951c51c5970ec03fc2c0704efc3c549e", func := "filespace/filespacelaw29.EnvKeeps", spec := "envKeeps", inPlace := ["slices.overlaps[filespace/api.Env]", "internal/bytealg.IndexByteString", "internal/bytealg.IndexString", "internal/abi.NoEscape", "internal/bytealg.MakeNoZero", "internal/bytealg.CountString"], unfollowed := true, recurses := true, named := ["internal/bytealg.MaxLen", "unicode/utf8.first", "unicode/utf8.acceptRanges"], apart := false, laid := [("unicode/utf8.acceptRanges", laid_unicode_utf8_acceptRanges), ("unicode/utf8.first", laid_unicode_utf8_first)] }
def EnvKeepsSaid : Prop := envKeepsRow.holds Tryd.pinned (OpenSpec.ofChange envKeepsSpec)

/-- ITS FALSE NEIGHBOUR: 'it returns false'. Refute it at one input. -/
def envKeepsWrong : ChangeSpec := { name := "envKeeps", fn := fun _ => fun
  | [d] => { results := [.lit (.bool false)], args := [d] }
  | _ => none }
def EnvKeepsWrongFalsely : Prop := envKeepsRow.holds Tryd.pinned (OpenSpec.ofChange envKeepsWrong)

/- THE SECOND FORM. 'bulk': how many values and letters a reading holds, each counted each time it is reached (what is shared counts as often as it is met; a slice's spare places count too). A statement '..UptoSaid' is the law's where the arguments, and the package variables that the reading takes, are together of bulk at most 1048576: NARROWER than '..Said'. Prove '..Said' where nothing that the law and all that it calls make is longer than what came in: it says more and counts as full. Else prove '..UptoSaid'. A law counts once. -/
mutual
def uptoBulk {H : Type} : DataW H → Nat
  | .lit (.string bytes) => bytes.length + 1
  | .lit _ => 1
  | .nil => 1
  | .ptr d => uptoBulk d + 1
  | .slice elems spare => uptoBulkAll elems + uptoBulkAll spare + 1
  | .agg parts => uptoBulkAll parts + 1
  | .iface _ d => uptoBulk d + 1
  | .map entries => uptoBulkEntries entries + 1
  | .held _ => 1
def uptoBulkAll {H : Type} : List (DataW H) → Nat
  | [] => 0
  | d :: r => uptoBulk d + uptoBulkAll r
def uptoBulkEntries {H : Type} : List (Lit × DataW H) → Nat
  | [] => 0
  | x :: r => uptoBulkEntry x + uptoBulkEntries r
def uptoBulkEntry {H : Type} : Lit × DataW H → Nat
  | (.string bytes, d) => bytes.length + uptoBulk d + 1
  | (_, d) => uptoBulk d + 1
 end
def uptoSmall : (H : Type) → List (DataW H) → Bool := fun _ ds => decide (uptoBulkAll ds ≤ 1048576)
def OpenSpec.upto (s : _root_.Go.ChangeSpec) : _root_.Go.OpenSpec := { _root_.Go.OpenSpec.ofChange s with cond := some uptoSmall }

/-- 'filespacelaw29.EnvCodes', WHERE WHAT IT READS IS OF BULK AT MOST 1048576: true; the input reads as it did. -/
def envCodesUptoRow : OpenClaim := { program := "ytkiajanddmgmnaadoor", sum := "02da454caad64b9bd86ebd00c4ad8215951c51c5970ec03fc2c0704efc3c549e", func := "filespace/filespacelaw29.EnvCodes", spec := "envCodes", inPlace := ["slices.overlaps[filespace/api.Env]", "internal/bytealg.IndexByteString", "internal/bytealg.IndexString", "internal/abi.NoEscape", "internal/bytealg.MakeNoZero", "internal/bytealg.CountString"], unfollowed := true, recurses := true, named := ["internal/bytealg.MaxLen", "unicode/utf8.first", "unicode/utf8.acceptRanges"], apart := false, laid := [("unicode/utf8.acceptRanges", laid_unicode_utf8_acceptRanges), ("unicode/utf8.first", laid_unicode_utf8_first)], narrowed := true }
def EnvCodesUptoSaid : Prop := envCodesUptoRow.holds Tryd.pinned (OpenSpec.upto envCodesSpec)

/-- 'filespacelaw29.EnvOthers', WHERE WHAT IT READS IS OF BULK AT MOST 1048576: true; the input reads as it did. -/
def envOthersUptoRow : OpenClaim := { program := "ytkiajanddmgmnaadoor", sum := "02da454caad64b9bd86ebd00c4ad8215951c51c5970ec03fc2c0704efc3c549e", func := "filespace/filespacelaw29.EnvOthers", spec := "envOthers", inPlace := ["slices.overlaps[filespace/api.Env]", "internal/bytealg.IndexByteString", "internal/bytealg.IndexString", "internal/abi.NoEscape", "internal/bytealg.MakeNoZero", "internal/bytealg.CountString"], unfollowed := true, recurses := true, named := ["internal/bytealg.MaxLen", "unicode/utf8.first", "unicode/utf8.acceptRanges"], apart := false, laid := [("unicode/utf8.acceptRanges", laid_unicode_utf8_acceptRanges), ("unicode/utf8.first", laid_unicode_utf8_first)], narrowed := true }
def EnvOthersUptoSaid : Prop := envOthersUptoRow.holds Tryd.pinned (OpenSpec.upto envOthersSpec)

/-- 'filespacelaw29.EnvReads', WHERE WHAT IT READS IS OF BULK AT MOST 1048576: true; the input reads as it did. -/
def envReadsUptoRow : OpenClaim := { program := "ytkiajanddmgmnaadoor", sum := "02da454caad64b9bd86ebd00c4ad8215951c51c5970ec03fc2c0704efc3c549e", func := "filespace/filespacelaw29.EnvReads", spec := "envReads", inPlace := ["slices.overlaps[filespace/api.Env]", "internal/bytealg.IndexByteString", "internal/bytealg.IndexString", "internal/abi.NoEscape", "internal/bytealg.MakeNoZero", "internal/bytealg.CountString"], unfollowed := true, recurses := true, named := ["internal/bytealg.MaxLen", "unicode/utf8.first", "unicode/utf8.acceptRanges"], apart := false, laid := [("unicode/utf8.acceptRanges", laid_unicode_utf8_acceptRanges), ("unicode/utf8.first", laid_unicode_utf8_first)], narrowed := true }
def EnvReadsUptoSaid : Prop := envReadsUptoRow.holds Tryd.pinned (OpenSpec.upto envReadsSpec)

/-- 'filespacelaw29.EnvKeeps', WHERE WHAT IT READS IS OF BULK AT MOST 1048576: true; the input reads as it did. -/
def envKeepsUptoRow : OpenClaim := { program := "ytkiajanddmgmnaadoor", sum := "02da454caad64b9bd86ebd00c4ad8215951c51c5970ec03fc2c0704efc3c549e", func := "filespace/filespacelaw29.EnvKeeps", spec := "envKeeps", inPlace := ["slices.overlaps[filespace/api.Env]", "internal/bytealg.IndexByteString", "internal/bytealg.IndexString", "internal/abi.NoEscape", "internal/bytealg.MakeNoZero", "internal/bytealg.CountString"], unfollowed := true, recurses := true, named := ["internal/bytealg.MaxLen", "unicode/utf8.first", "unicode/utf8.acceptRanges"], apart := false, laid := [("unicode/utf8.acceptRanges", laid_unicode_utf8_acceptRanges), ("unicode/utf8.first", laid_unicode_utf8_first)], narrowed := true }
def EnvKeepsUptoSaid : Prop := envKeepsUptoRow.holds Tryd.pinned (OpenSpec.upto envKeepsSpec)

end Rows
end Go.Proofs.YtkiajanddmgmnaaDoor
