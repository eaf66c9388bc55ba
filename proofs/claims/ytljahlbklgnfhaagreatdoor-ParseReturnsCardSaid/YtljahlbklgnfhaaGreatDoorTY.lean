import Derived.Test.YtljahlbklgnfhaaGreatDoorA35
import Derived.Test.YtljahlbklgnfhaaGreatDoorT1
set_option linter.unusedVariables false
set_option linter.unusedSimpArgs false
set_option maxRecDepth 100000
namespace Go.Abs.U48
open Go Go.Proofs
open Go.Proofs.Tryz
theorem ty_3(n:Nat){p:PV}(h:Q1w prog (n+1) 3 p):∃x:Int,p=(.int .i64 x)/\inK .i64 x:=by
 rw[Q1w]at h
 simp only[underlying3]at h
 obtain⟨x,rfl,a⟩:=h
 exact⟨x,rfl,a⟩
theorem ty_9(n:Nat){p:PV}(h:Q1w prog (n+1) 9 p):∃x:Str,p=(.str x)/\List.length x<=maxLen:=by
 rw[Q1w]at h
 simp only[underlying9]at h
 obtain⟨x,rfl,a⟩:=h
 exact⟨x,rfl,a⟩
theorem ty_4(n:Nat){p:PV}(h:Q1w prog (n+1) 4 p):∃x:Bool,p=(.bool x)/\True:=by
 rw[Q1w]at h
 simp only[underlying4]at h
 obtain⟨x,rfl⟩:=h
 exact⟨x,rfl,trivial⟩
end Go.Abs.U48
