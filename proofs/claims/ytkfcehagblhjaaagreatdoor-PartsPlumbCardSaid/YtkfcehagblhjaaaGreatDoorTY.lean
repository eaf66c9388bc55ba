/- A typed argument of PartsPlumb is a message with the bounds of its type; no condition. -/
import Derived.Test.YtkfcehagblhjaaaGreatDoorA39
import Derived.Test.YtkfcehagblhjaaaGreatDoorT1
set_option linter.unusedVariables false
set_option linter.unusedSimpArgs false
set_option linter.defProp false
set_option maxRecDepth 100000
namespace Go.Abs.U54
open Go Go.Proofs
theorem ty_9(n:Nat){p:PV}(h:Typed Tryz.prog (n+1) 9 p):∃x:Str,p=(.str x)∧List.length x≤maxLen:=by
 rw[Typed]at h
 simp only[Tryz.underlying9]at h
 obtain⟨x,rfl,hw⟩:=h
 exact⟨x,rfl,hw⟩
theorem ty_4(n:Nat){p:PV}(h:Typed Tryz.prog (n+1) 4 p):∃x:Bool,p=(.bool x)∧True:=by
 rw[Typed]at h
 simp only[Tryz.underlying4]at h
 obtain⟨x,rfl⟩:=h
 exact⟨x,rfl,trivial⟩
def w_137(x:Attr):Prop:=List.length x.name_≤maxLen∧List.length x.value_≤maxLen∧True
theorem ty_137(n:Nat){p:PV}(h:Typed Tryz.prog (n+2) 137 p):∃x:Attr,p=(.agg [.str x.name_,.str x.value_,.bool x.query_])∧w_137 x:=by
 rw[Typed]at h
 simp only[Tryz.underlying137]at h
 obtain⟨qs,rfl,hl,hq⟩:=h
 match qs,hl with
 | [q0,q1,q2],_=>
   have e0:=hq 0 _ q0 rfl rfl
   obtain⟨x0,h0,w0⟩:=ty_9 (n+0) e0
   subst h0
   have e1:=hq 1 _ q1 rfl rfl
   obtain⟨x1,h1,w1⟩:=ty_9 (n+0) e1
   subst h1
   have e2:=hq 2 _ q2 rfl rfl
   obtain⟨x2,h2,w2⟩:=ty_4 (n+0) e2
   subst h2
   exact⟨⟨x0,x1,x2⟩,rfl,w0,w1,w2⟩
def w_22(xs:List Attr):Prop:=xs.length≤maxLen∧∀x∈xs,w_137 x
theorem ty_22(n:Nat){p:PV}(h:Typed Tryz.prog (n+3) 22 p):∃x:List Attr,p=(.slice (List.map Attr.pv x))∧w_22 x:=by
 rw[Typed]at h
 simp only[Tryz.underlying22]at h
 obtain⟨xs,rfl,hl,hx⟩:=h
 obtain⟨ys,rfl,hw⟩:=ex_map (f:=Attr.pv) (W:=fun x=>w_137 x) fun x hm=>ty_137 (n+0) (hx x hm).1
 exact⟨ys,rfl,by rw[List.length_map]at hl;exact hl,hw⟩
def w_24(x:Plumb):Prop:=List.length x.src_≤maxLen∧List.length x.dst_≤maxLen∧List.length x.dir_≤maxLen∧List.length x.type_≤maxLen∧w_22 x.attrs_∧List.length x.data_≤maxLen
theorem ty_24(n:Nat){p:PV}(h:Typed Tryz.prog (n+4) 24 p):∃x:Plumb,p=(.agg [.str x.src_,.str x.dst_,.str x.dir_,.str x.type_,.slice (List.map Attr.pv x.attrs_),.str x.data_])∧w_24 x:=by
 rw[Typed]at h
 simp only[Tryz.underlying24]at h
 obtain⟨qs,rfl,hl,hq⟩:=h
 match qs,hl with
 | [q0,q1,q2,q3,q4,q5],_=>
   have e0:=hq 0 _ q0 rfl rfl
   obtain⟨x0,h0,w0⟩:=ty_9 (n+2) e0
   subst h0
   have e1:=hq 1 _ q1 rfl rfl
   obtain⟨x1,h1,w1⟩:=ty_9 (n+2) e1
   subst h1
   have e2:=hq 2 _ q2 rfl rfl
   obtain⟨x2,h2,w2⟩:=ty_9 (n+2) e2
   subst h2
   have e3:=hq 3 _ q3 rfl rfl
   obtain⟨x3,h3,w3⟩:=ty_9 (n+2) e3
   subst h3
   have e4:=hq 4 _ q4 rfl rfl
   obtain⟨x4,h4,w4⟩:=ty_22 (n+0) e4
   subst h4
   have e5:=hq 5 _ q5 rfl rfl
   obtain⟨x5,h5,w5⟩:=ty_9 (n+2) e5
   subst h5
   exact⟨⟨x0,x1,x2,x3,x4,x5⟩,rfl,w0,w1,w2,w3,w4,w5⟩
end Go.Abs.U54
