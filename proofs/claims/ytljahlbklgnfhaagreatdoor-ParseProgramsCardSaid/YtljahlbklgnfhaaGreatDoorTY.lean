import Derived.Test.YtljahlbklgnfhaaGreatDoorA39
import Derived.Test.YtljahlbklgnfhaaGreatDoorA28
import Derived.Test.YtljahlbklgnfhaaGreatDoorT1
set_option linter.unusedVariables false
set_option linter.unusedSimpArgs false
set_option maxRecDepth 100000
namespace Go.Abs.U48
open Go Go.Proofs
theorem ty_9(n:Nat){p:PV}(h:Q6v Tryz.prog (n+1) 9 p):∃x:Str,p=(.str x)/\List.length x<=maxLen:=by
 rw[Q6v]at h
 simp only[Tryz.underlying9]at h
 obtain⟨x,rfl,a⟩:=h
 exact⟨x,rfl,a⟩
end Go.Abs.U48
