/- The library: what its functions compute. -/
import Derived.Test.YthoacjgjmlgaoaaGreatDoorT1
import Derived.Lib.Join
import Derived.Lib.Split
import Derived.Lib.IndexMore
import Derived.Lib.Bytealg
import Derived.Lib.CutLaws
import Derived.Lib.Repeat
import Derived.Lib.AtoiAll
import Derived.Lib.ItoaNum
namespace Go.Abs.U5Z
open Go

def L_Join (xs : List Str) (sep : Str) : Option Str := if (Lib.join xs sep).length ≤ 140737488355328 ∧ xs.length ≤ 140737488355328 then some (Lib.join xs sep) else none
def L_Cut (s sep : Str) : Option (Str × Str × Bool) := if s.length < 4294967281 then some (Lib.cut s sep) else none
def L_WriteString (b s : Str) : Option (Int × Str) := if b.length + s.length ≤ 140737488355328 then some ((s.length : Int), b ++ s) else none
def L_Len (b : Str) : Option Int := some (b.length : Int)
def L_Clone (xs : List Str) : Option (List Str) := if xs.length ≤ 4294967296 then some xs else none
def L_String (b : Str) : Option Str := some b
def L_IndexByte (s : Str) (c : Int) : Option Int := some (Lib.indexByte s c.toNat.toUInt8)
def L_Repeat (s : Str) (n : Int) : Option Str := if 0 ≤ n ∧ n ≤ 9223372036854775807 ∧ s.length * n.toNat ≤ 140737488355328 then some (Lib.repeatL s n.toNat) else none
def L_Atoi (s : Str) : Option (Int × Bool) := if s.length ≤ 281474976710656 then (match Lib.atoiAll s with
  | .ok v => some (v, false)
  | Lib.NumEnd.syntax => some (0, true)
  | .range => some (Lib.atoiSat s, true)) else none
def L_Itoa (n : Int) : Option Str := if -9223372036854775808 ≤ n ∧ n ≤ 9223372036854775807 then some (Lib.itoa n) else none

end Go.Abs.U5Z
