/- The library: what its functions compute. -/
import Derived.Test.YtibmhmnhiflmjaaDoorT1
import Derived.Lib.Join
import Derived.Lib.Split
import Derived.Lib.IndexMore
namespace Go.Abs.U05
open Go

def L_Join (xs : List Str) (sep : Str) : Option Str := if (Lib.join xs sep).length ≤ 140737488355328 ∧ xs.length ≤ 140737488355328 then some (Lib.join xs sep) else none
def splitS (s sep : Str) : List Str := (Lib.splitB ⟨⟨sep⟩⟩ 0 (Lib.countB ⟨⟨s⟩⟩ ⟨⟨sep⟩⟩) ⟨⟨s⟩⟩).map (·.data.toList)
def L_Split (s sep : Str) : Option (List Str) := if s.length < 4294967281 ∧ 1 ≤ sep.length then some (splitS s sep) else none
def L_Cut (s sep : Str) : Option (Str × Str × Bool) := if s.length < 4294967281 then some (Lib.cut s sep) else none
def L_Contains (xs : List Str) (s : Str) : Option Bool := some (xs.any fun m => decide (m = s))
def L_Clone (xs : List Str) : Option (List Str) := if xs.length ≤ 4294967296 then some xs else none
def L_WriteString (b s : Str) : Option (Int × Str) := if b.length + s.length ≤ 140737488355328 then some ((s.length : Int), b ++ s) else none
def L_String (b : Str) : Option Str := some b

end Go.Abs.U05
