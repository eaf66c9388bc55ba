import Derived.Test.YtkfcehagblhjaaaGreatDoorT1
import Derived.Lib.Join
import Derived.Lib.Split
import Derived.Lib.IndexMore
import Derived.Lib.Replace
import Derived.Lib.Bytealg
import Derived.Lib.Repeat
import Derived.Lib.ItoaNum
set_option linter.unusedVariables false
set_option linter.unusedSimpArgs false
set_option linter.defProp false
namespace Go.Abs.U54
open Go
def L_WriteString(b s:Str):Option (Int×Str):=if b.length+s.length≤140737488355328 then some ((s.length:Int),b++s)else none
def L_WriteByte(b:Str)(c:Int):Option Str:=if 0≤c∧c≤255∧b.length+1≤140737488355328 then some (b++[c.toNat.toUInt8])else none
def L_String(b:Str):Option Str:=some b
def L_IndexByte(s:Str)(c:Int):Option Int:=some (Lib.indexByte s c.toNat.toUInt8)
def L_ReplaceAll(s old new:Str):Option Str:=if s.length<4294967281∧1≤old.length∧s.length+Lib.countB ⟨⟨s⟩⟩ ⟨⟨old⟩⟩ * new.length≤140737488355328 then some (Lib.replaceAll s old new)else none
def L_SContains(s p:Str):Option Bool:=if s.length<4294967281 then some (Lib.contains s p)else none
def L_Repeat(s:Str)(n:Int):Option Str:=if 0≤n∧n≤9223372036854775807∧s.length * n.toNat≤140737488355328 then some (Lib.repeatL s n.toNat)else none
def L_Join(xs:List Str)(sep:Str):Option Str:=if (Lib.join xs sep).length≤140737488355328∧xs.length≤140737488355328 then some (Lib.join xs sep)else none
def L_Clone(xs:List Str):Option (List Str):=if xs.length≤4294967296 then some xs else none
def L_CloneA(xs:List Attr):Option (List Attr):=if xs.length≤1000000 then some xs else none
def L_CloneI(xs:List Int):Option (List Int):=if xs.length≤1000000 then some xs else none
def L_CloneQ(xs:List Qid):Option (List Qid):=if xs.length≤1000000 then some xs else none
def splitN(s sep:Str)(n:Int):List Str:=(Lib.splitB ⟨⟨sep⟩⟩ 0 (min n.toNat (s.length+1)-1) ⟨⟨s⟩⟩).map (·.data.toList)
def L_SplitN(s sep:Str)(n:Int):Option (List Str):=if s.length<4294967281∧1≤sep.length∧1≤n∧n≤9223372036854775807 then some (splitN s sep n)else none
def L_FormatInt(n b:Int):Option Str:=if b=10∧-9223372036854775808≤n∧n≤9223372036854775807 then some (Lib.itoa n)else none
def L_Compare(a b:Str):Option Int:=some (Lib.compareBytes a b)
def L_Len64(x:Int):Option Int:=if 0≤x∧x≤18446744073709551615 then some (Lib.bitLen x.toNat:Nat)else none
end Go.Abs.U54
