/- The library: what its functions compute. -/
import Derived.Test.YtkiajanddmgmnaaGreatDoorT1
import Derived.Lib.Join
import Derived.Lib.Split
import Derived.Lib.IndexMore
import Derived.Lib.Bytealg
import Derived.Lib.Repeat
namespace Go.Abs.U2Z
open Go

def L_Join (xs : List Str) (sep : Str) : Option Str := if (Lib.join xs sep).length ≤ 140737488355328 ∧ xs.length ≤ 140737488355328 then some (Lib.join xs sep) else none
def splitS (s sep : Str) : List Str := (Lib.splitB ⟨⟨sep⟩⟩ 0 (Lib.countB ⟨⟨s⟩⟩ ⟨⟨sep⟩⟩) ⟨⟨s⟩⟩).map (·.data.toList)
def L_Split (s sep : Str) : Option (List Str) := if s.length < 4294967281 ∧ 1 ≤ sep.length then some (splitS s sep) else none
def L_Clone (xs : List Str) : Option (List Str) := if xs.length ≤ 4294967296 then some xs else none
def L_Repeat (s : Str) (n : Int) : Option Str := if 0 ≤ n ∧ n ≤ 9223372036854775807 ∧ s.length * n.toNat ≤ 140737488355328 then some (Lib.repeatL s n.toNat) else none
def L_SContains (s p : Str) : Option Bool := if s.length < 4294967281 then some (Lib.contains s p) else none
def L_Count (s p : Str) : Option Int := if s.length < 4294967281 ∧ 1 ≤ p.length then some ((Lib.countB ⟨⟨s⟩⟩ ⟨⟨p⟩⟩ : Nat) : Int) else none
def L_CloneE (xs : List GEnv) : Option (List GEnv) := if xs.length ≤ 1000000 then some xs else none
def L_CloneV (xs : List Var) : Option (List Var) := if xs.length ≤ 1000000 then some xs else none
/-- slices.Delete of one element: what comes back, and what the row holds. -/
def L_DeleteV (xs : List Var) (i j : Int) : Option (List Var × List Var) :=
  if 0 ≤ i ∧ i.toNat < xs.length ∧ j = i + 1 ∧ xs.length ≤ 1000000 then some (xs.eraseIdx i.toNat, xs.eraseIdx i.toNat ++ [⟨0, [], []⟩]) else none
/-- slices.Insert of one element. -/
def L_InsertE (xs : List GEnv) (i : Int) (v : List GEnv) : Option (List GEnv) := if 0 ≤ i ∧ i.toNat ≤ xs.length ∧ v.length = 1 ∧ xs.length ≤ 1000000 then some (xs.take i.toNat ++ v ++ xs.drop i.toNat) else none

end Go.Abs.U2Z
