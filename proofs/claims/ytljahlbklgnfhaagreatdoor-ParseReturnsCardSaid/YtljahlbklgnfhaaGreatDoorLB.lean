import Derived.Test.YtljahlbklgnfhaaGreatDoorT1
import Derived.Lib.Join
import Derived.Lib.Split
import Derived.Lib.IndexMore
import Derived.Lib.Replace
import Derived.Lib.Bytealg
import Derived.Lib.CutLaws
import Derived.Lib.Repeat
import Derived.Lib.AtoiAll
import Derived.Lib.ItoaNum
set_option linter.unusedVariables false
set_option linter.defProp false
namespace Go.Abs.U48
open Go
def Q1n(b s:Str):Option (Int×Str):=if b.length+s.length<=140737488355328 then some ((s.length:Int),b++s)else none
def Q2g(b:Str)(c:Int):Option Str:=if 0<=c/\c<=255/\b.length+1<=140737488355328 then some (b++[c.toNat.toUInt8])else none
def Q4i(b:Str):Option Str:=some b
def Q0h(s:Str)(c:Int):Option Int:=some (Lib.indexByte s c.toNat.toUInt8)
def Q2p(s old a:Str):Option Str:=if s.length<4294967281/\1<=old.length/\s.length+Lib.countB ⟨⟨s⟩⟩ ⟨⟨old⟩⟩ * a.length<=140737488355328 then some (Lib.replaceAll s old a)else none
def Z0r(s a:Str):List Str:=(Lib.splitB ⟨⟨a⟩⟩ 0 (Lib.countB ⟨⟨s⟩⟩ ⟨⟨a⟩⟩) ⟨⟨s⟩⟩).map (·.data.toList)
def Z4i(s a:Str):Option (List Str):=if s.length<4294967281/\1<=a.length then some (Z0r s a)else none
def Z0h(xs:List Str)(s:Str):Option Bool:=some (xs.any λm=>decide (m=s))
def Q6b(s p:Str):Option Bool:=if s.length<4294967281 then some (Lib.contains s p)else none
def Q2u(s:Str)(n:Int):Option Str:=if 0<=n/\n<=9223372036854775807/\s.length * n.toNat<=140737488355328 then some (Lib.repeatL s n.toNat)else none
def Q4z(n:Int):Option Str:=if 0<=n/\n<100 then some (Lib.decDigits n.toNat)else none
def J6z(xs:List Str)(a:Str):Option Str:=if (Lib.join xs a).length<=140737488355328/\xs.length<=140737488355328 then some (Lib.join xs a)else none
def Z9k(s a:Str):Option (Str×Str×Bool):=if s.length<4294967281 then some (Lib.cut s a)else none
def Z3g(s:Str):Option (Int×Bool):=if s.length<=281474976710656 then(match Lib.atoiAll s with
 | .ok v=>some (v,false)
 | Lib.NumEnd.syntax=>some (0,true)
 | .range=>some (Lib.atoiSat s,true))else none
end Go.Abs.U48
