/- The library: what its functions compute. -/
import Derived.Test.YtddhgkeiiobfeaaDoorT1
import Derived.Lib.Join
import Derived.Lib.Split
import Derived.Lib.IndexMore
import Derived.Lib.Replace
import Derived.Lib.Bytealg
namespace Go.Abs.U45
open Go

def L_Join (xs : List Str) (sep : Str) : Option Str := if (Lib.join xs sep).length ≤ 140737488355328 ∧ xs.length ≤ 140737488355328 then some (Lib.join xs sep) else none
def splitS (s sep : Str) : List Str := (Lib.splitB ⟨⟨sep⟩⟩ 0 (Lib.countB ⟨⟨s⟩⟩ ⟨⟨sep⟩⟩) ⟨⟨s⟩⟩).map (·.data.toList)
def L_Split (s sep : Str) : Option (List Str) := if s.length < 4294967281 ∧ 1 ≤ sep.length then some (splitS s sep) else none
def L_WriteString (b s : Str) : Option (Int × Str) := if b.length + s.length ≤ 140737488355328 then some ((s.length : Int), b ++ s) else none
def L_String (b : Str) : Option Str := some b
def L_IndexByte (s : Str) (c : Int) : Option Int := some (Lib.indexByte s c.toNat.toUInt8)
def L_ReplaceAll (s old new : Str) : Option Str := if s.length < 4294967281 ∧ 1 ≤ old.length ∧ s.length + Lib.countB ⟨⟨s⟩⟩ ⟨⟨old⟩⟩ * new.length ≤ 140737488355328 then some (Lib.replaceAll s old new) else none

end Go.Abs.U45
