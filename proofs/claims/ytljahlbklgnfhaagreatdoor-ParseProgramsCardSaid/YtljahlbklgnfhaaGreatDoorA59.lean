import Derived.Test.YtljahlbklgnfhaaGreatDoorA54
import Derived.Test.YtljahlbklgnfhaaGreatDoorA39
import Derived.Test.YtljahlbklgnfhaaGreatDoorA45
import Derived.LoopN
set_option linter.unusedVariables false
set_option linter.unusedSimpArgs false
set_option linter.defProp false
namespace Go.Abs
open Go.RowKit
def Q0a(E:Env)(S:Spec):Prop:=K0n E S∧Z4x E S.f
def X0r(L:List Spec)(f:FuncId):Option Spec:=L.find? fun S=>S.f==f
open Classical in
noncomputable def cL(E:Env)(L:List Spec)(f:FuncId)(args:List AV)(H:List AObj):Option Out:=
 match X0r L f with
 | some S=>if Q0a E S then S.c args H else none
 | none=>none
noncomputable def oL(E:Env)(pf:FuncId→Bool)(L:List Spec):Orc:={ C:=fun f args H=>match cL E L f args H with|some (.ret rs H')=>some (rs,H')|_=>none,pf:=pf }
noncomputable def xL(E:Env)(L:List Spec):XO:=fun f args H=>match cL E L f args H with|some (.boom v)=>some v|_=>none
def AllG(E:Env):List Spec→Prop
 | []=>True
 | S::L=>Q0a E S∧AllG E L
def Kn(O:Orc)(X:XO)(f:FuncId)(S:Spec):Prop:=∀x r,S.F x=some r→Says O X f (S.A x).1 (S.A x).2 (S.R x r)
def Q0z(L:List Spec)(i f:Nat):Option Spec:=match L[i]? with
 | some S=>if S.f==f&&(L.take i).all (fun T=>!(T.f==f))then some S else none
 | none=>none
section
variable {E:Env}{L:List Spec}{pf:FuncId→Bool}
theorem X1e{f:FuncId}{args:List AV}{H:List AObj}{o:Out}(h:cL E L f args H=some o):J3a E f args H o∧Z4x E f:=by
 unfold cL X0r at h
 split at h
 ·rename_i S hS
  have hf:S.f=f:=by simpa using List.find?_some hS
  split at h
  ·rename_i hg
   subst hf
   exact⟨hg.1.c args H o h,hg.2⟩
  cases h
 cases h
theorem X3v:Q1m E (oL E pf L):=by
 intro f args H rs H' hc
 simp only[oL]at hc
 split at hc
 ·rename_i rs' Hs hl
  simp only[Option.some.injEq,Prod.mk.injEq]at hc
  obtain⟨rfl,rfl⟩:=hc
  exact X1e hl
 cases hc
theorem X3c:Q6c E (xL E L):=by
 intro f args H v hc
 simp only[xL]at hc
 split at hc
 ·rename_i u hl
  injection hc with hc
  subst hc
  exact X1e hl
 cases hc
theorem J4p:∀ {L:List Spec} {i:Nat} {S:Spec},AllG E L→L[i]?=some S→Q0a E S
 | _::_,0,_,h,hi=>by
   simp only[List.getElem?_cons_zero,Option.some.injEq]at hi
   subst hi
   exact h.1
 | _::L,i+1,_,h,hi=>J4p (L:=L) (i:=i) h.2 (by simpa using hi)
theorem Z6m{f:Nat}{S:Spec}(hS:(S.f==f)=true):∀ {L:List Spec} {i:Nat},L[i]?=some S→(L.take i).all (fun T=>!(T.f==f))=true→X0r L f=some S
 | T::L,0,hi,_=>by
   simp only[List.getElem?_cons_zero,Option.some.injEq]at hi
   subst hi
   unfold X0r
   rw[List.find?_cons,hS]
 | T::L,i+1,hi,ha=>by
   simp only[List.take_succ_cons,List.all_cons,Bool.and_eq_true,Bool.not_eq_true']at ha
   unfold X0r
   rw[List.find?_cons,ha.1]
   exact Z6m hS (L:=L) (i:=i) (by simpa using hi) ha.2
theorem orcs(hg:AllG E L):∃ (O:Orc) (X:XO),Q1m E O∧Q6c E X∧O.pf=pf∧∀ (i f:Nat) {S:Spec},Q0z L i f=some S→Kn O X f S:=by
 refine⟨oL E pf L,xL E L,X3v,X3c,rfl,fun i f S hi x r hr=>?_⟩
 unfold Q0z at hi
 split at hi
 ·rename_i S' hS'
  split at hi
  ·rename_i hc
   simp only[Option.some.injEq]at hi
   subst hi
   simp only[Bool.and_eq_true]at hc
   have hG:=J4p hg hS'
   have hc':cL E L f (S'.A x).1 (S'.A x).2=some (S'.R x r):=by
    unfold cL
    rw[Z6m hc.1 hS' hc.2]
    simp only
    rw[if_pos hG,S'.c_at,hr]
    rfl
   generalize hR:S'.R x r=o at hc'
   cases o with
   | ret rs H'=>simp only[Says,oL,hc']
   | boom v=>simp only[Says,xL,hc']
  cases hi
 cases hi
theorem Kn.ret{O:Orc}{X:XO}{f:FuncId}{S:Spec}(k:Kn O X f S)(x:S.α){r:S.ρ}(q:S.F x=some r){args:List AV}{H:List AObj}{rs:List AV}{H':List AObj}(e1:S.A x=(args,H))(e2:S.R x r=.ret rs H'):O.C f args H=some (rs,H'):=by
 have h:=k x r q
 rw[e1,e2]at h
 exact h
theorem Kn.boom{O:Orc}{X:XO}{f:FuncId}{S:Spec}(k:Kn O X f S)(x:S.α){r:S.ρ}(q:S.F x=some r){args:List AV}{H:List AObj}{v:Value}(e1:S.A x=(args,H))(e2:S.R x r=.boom v):X f args H=some v:=by
 have h:=k x r q
 rw[e1,e2]at h
 exact h
theorem pft{O:Orc}(h:O.pf=pf)(f:FuncId){b:Bool}(e:pf f=b):O.pf f=b:=by rw[h];exact e
theorem J3a.startE{f:FuncId}{fn:Func}{c:Code}(hf:E.P.funcs[f]?=some fn)(hb:fn.body=some c){args:List AV}{H:List AObj}{out:Out}(hn:args.length≤fn.ntmps)(extra:List Nat)(hd0:E.dfs=[])
 (h:AW E H.length c (retB E fn H.length extra H out) ⟨Z2e args,fn.ntmps,H⟩):J3a E f args H out:=by
 cases out with
 | ret rs H'=>exact Good.of_body hf hb hn extra hd0 h
 | boom v=>exact Z8v.of_body hf hb hn hd0 h
theorem GH{S:Spec}{fn:Func}{c:Code}(hf:E.P.funcs[S.f]?=some fn)(hnm:(fn.name=="runtime.NumGoroutine")=false)(hb:fn.body=some c)(N:Nat)(hN:fn.ntmps=N)(extra:List Nat)(hd0:E.dfs=[])
 (h:∀ (x:S.α) (r:S.ρ),S.F x=some r→∀m,(S.A x).2.length=m→(decide ((S.A x).1.length≤N)=true∧AW E m c (retB E fn m extra (S.A x).2 (S.R x r)) ⟨sl (enum 0 (S.A x).1),N,(S.A x).2⟩)):Q0a E S:=by
 refine⟨fun x r hr=>?_,fn,hf,(by rw[hb];rfl),hnm⟩
 obtain⟨h1,h2⟩:=h x r hr _ rfl
 subst hN
 refine J3a.startE hf hb (of_decide_eq_true h1) extra hd0 ?_
 rw[Z4j]
 exact h2
theorem GHs{S:Spec}{x:S.α}{r:S.ρ}{m N:Nat}{fn:Func}{c:Code}{extra:List Nat}{args:List AV}{H:List AObj}{out:Out}(e1:S.A x=(args,H))(e2:S.R x r=out)(em:(S.A x).2.length=m){M:Nat}(eM:H.length=M)(hn:decide (args.length≤N)=true){L:List (Nat×AV)}(hL:enum 0 args=L)
 (h:AW E M c (retB E fn M extra H out) ⟨sl L,N,H⟩):decide ((S.A x).1.length≤N)=true∧AW E m c (retB E fn m extra (S.A x).2 (S.R x r)) ⟨sl (enum 0 (S.A x).1),N,(S.A x).2⟩:=by
 subst em
 rw[e1,e2]
 subst hL eM
 exact⟨hn,h⟩
theorem GH0{S:Spec}(hb:Z4x E S.f)(h:∀x,S.F x=none):Q0a E S:=
 ⟨fun x r hr=>absurd hr (by rw[h x];exact nofun),hb⟩
def pick:List Nat→(Nat→AV)→List (Nat×AV)
 | [],_=>[]
 | k::ks,t=>(k,t k)::pick ks t
theorem Q3h(t:Nat→AV):pick [] t=[]:=rfl
theorem Q2m(k:Nat)(ks:List Nat)(t:Nat→AV):pick (k::ks) t=(k,t k)::pick ks t:=rfl
theorem Q8i{t:Nat→AV}:∀ks,Q7k t (pick ks t)
 | []=>trivial
 | _::ks=>⟨rfl,Q8i ks⟩
def Q1x(ks:List Nat)(L:List (Nat×AV))(h':List AObj):Option St→Prop
 | some σ=>pick ks σ.t=L∧σ.h=h'
 | none=>False
theorem Q2b(ks:List Nat)(L:List (Nat×AV))(h':List AObj)(σ:St):Q1x ks L h' (some σ)=(pick ks σ.t=L∧σ.h=h'):=rfl
theorem Q1x.of{ks:List Nat}{L:List (Nat×AV)}{h':List AObj}{x:Option St}(h:Q1x ks L h' x):Leaves L h' x:=by
 cases x with
 | none=>exact h.elim
 | some σ=>
   obtain⟨h1,h2⟩:=h
   subst h1
   exact⟨Q8i ks,h2⟩
variable {k:Nat}{Q:Exit→St→Prop}{O:Orc}
theorem AW.rg(hS:Q1m E O)(ks:List Nat){id n:Nat}{t:Nat→AV}{h:List AObj}{ops:Array Oper}{L:List (Nat×AV)}{h':List AObj}(hr:Q1x ks L h' (arun E O ops ops.toList ⟨t,n,h⟩))(hQ:Q .normal ⟨sl L,n,h'⟩):AW E k (.region id ops false) Q ⟨t,n,h⟩:=
 AW.reg hS L h' hr.of hQ
theorem AW.dgk(hP:E.P.follows .mixedOrders=true)(hS:Q1m E O)(ks:List Nat){id n:Nat}{t:Nat→AV}{h:List AObj}{ops:Array Oper}(ho:Z3y O.pf ops=true){L:List (Nat×AV)}{h':List AObj}(hr:Q1x ks L h' (arun E O ops ops.toList ⟨t,n,h⟩))(hQ:Q .normal ⟨sl L,n,h'⟩):AW E k (.region id ops true) Q ⟨t,n,h⟩:=
 AW.dreg hP hS ho L h' hr.of hQ
theorem AW.dgB(hP:E.P.follows .mixedOrders=true)(hS:Q1m E O)(B:Q9r)(ks:List Nat){id n:Nat}{t:Nat→AV}{h:List AObj}{ops:Array Oper}(hB:(B.all fun p=>Z8q (t p.1) p.2)=true)(ho:Q3j O.pf B ops=true){L:List (Nat×AV)}{h':List AObj}(hr:Q1x ks L h' (arun E O ops ops.toList ⟨t,n,h⟩))(hQ:Q .normal ⟨sl L,n,h'⟩):AW E k (.region id ops true) Q ⟨t,n,h⟩:=
 AW.dregB hP hS B hB ho L h' hr.of hQ
theorem AW.st{c:Code}{L:List (Nat×AV)}{n:Nat}{h:List AObj}(hh:AW E k c Q ⟨sl L,n,h⟩):AW E k c Q ⟨sl L,n,h⟩:=hh
theorem AW.lp{α:Type}(S:α→St)(p:α→Prop)(μ:α→Nat){c:Code}(a₀:α){σ:St}(hw:Weak E k σ (S a₀))(h0:p a₀)(hr:∀a,p a→AW E k c (Q9v (fun σ'=>∃a',p a'∧Weak E k σ' (S a')∧μ a'<μ a) Q) (S a)):AW E k (.loop c) Q σ:=
 AW.weak hw (AW.loopI S p μ a₀ h0 hr)
theorem AW.iff_{α:Type}{r:α}{b b':Bool}{u v:Option α}(h:(bif b then u else v)=some r){c:Operand}{x y:Code}{σ:St}(hc:ev σ.t c=.pv (.bool b'))(hb:b'=b)(ht:b=true→u=some r→AW E k x Q σ)(hf:b=false→v=some r→AW E k y Q σ):AW E k (.cond c x y) Q σ:=by
 subst hb
 exact AW.cond hc (fun hb=>ht hb (K0b hb h)) (fun hb=>hf hb (K0c hb h))
theorem X3z{α:Type}(f:α→PV){s t:List α}{lo hi:Int}(h:J0j s lo hi=some t):List.take (hi.toNat-lo.toNat) (List.drop lo.toNat (List.map f s))=List.map f t∧List.take (hi.toNat-lo.toNat) (List.drop lo.toNat s)=t:=by
 have h2:=(Z0f h).2.2.2.2
 exact⟨by rw[h2,List.map_take,List.map_drop],h2.symm⟩
theorem Q8u{E:Env}{H:List AObj}{ty e a b c:Nat}{z:Option (List PV)}{k1 k2:IntKind}{n:Int}(h1:E.T ty=some ⟨.slice e,a,b,z⟩)(h2:E.T e=some ⟨.str,1,c,some [.str []]⟩)(h0:0≤n)(hb:n.toNat * c≤140737488355328)(hc:c≠0):
 Q4b E H ty (.pv (.int k1 n)) (.pv (.int k2 n))=some (.vec H.length n.toNat,H++[.row e 1 (List.replicate n.toNat (.str [])) false]):=by
 unfold Q4b
 simp only[h1,h2,J3m]
 rw[if_pos ⟨h0,Int.le_refl _,hb,hc,by decide,rfl⟩]
theorem J9p{α:Type}{s t:List α}{lo hi:Int}(h:J0j s lo hi=some t):(0≤lo)=True∧(0≤hi)=True∧(lo.toNat≤hi.toNat)=True∧(hi.toNat≤s.length)=True:=
 ⟨(Z0f h).1,(Z0f h).2.1,(Z0f h).2.2.1,(Z0f h).2.2.2.1⟩
theorem V1t{α:Type}{sz:Nat}{xs ys v:List α}(h:appO sz xs ys=some v):v.length=xs.length+ys.length:=by
 rw[(X1j h).2,List.length_append]
theorem V1u{α:Type}(f:α→PV){sz:Nat}{xs ys v:List α}(h:appO sz xs ys=some v):List.map f xs++List.map f ys=List.map f v:=by
 rw[(X1j h).2,List.map_append]
end
end Go.Abs
namespace Go.Abs
open Go.RowKit
section
variable {E:Env}{O:Orc}{X:XO}{γ₀ γ:List Gh}{H H₀:List AObj}{Φ₀ Φ:Nat→Nat→Prop}{w w₀:World}{σ:St}{a:Act}
def Q6b(X:XO)(o:Oper)(t:Nat→AV)(h:List AObj)(v:Value)(H':List AObj):Prop:=
 o.guard=none∧((∃f args ats,o.op=.call ⟨.value (.func f),args,ats⟩∧Z5p X h f (args.toList.map (ev t))=some (v,H'))∨(∃x ty k m,o.op=.panic x∧ev t x=.ifc ty (.int k m)∧v=.iface ty (.int k m)∧H'=h))
theorem Q6b.call{o:Oper}{t:Nat→AV}{h:List AObj}{v:Value}{H':List AObj}{f:FuncId}{args:Array Operand}{ats:Array TypeId}(hg:o.guard=none)(ho:o.op=.call ⟨.value (.func f),args,ats⟩)(hx:Z5p X h f (args.toList.map (ev t))=some (v,H')):Q6b X o t h v H':=
 ⟨hg,.inl ⟨f,args,ats,ho,hx⟩⟩
theorem Q6b.panic{o:Oper}{t:Nat→AV}{h:List AObj}{ty:TypeId}{k:IntKind}{m:Int}{x:Operand}(hg:o.guard=none)(ho:o.op=.panic x)(hx:ev t x=.ifc ty (.int k m)):Q6b X o t h (.iface ty (.int k m)) h:=
 ⟨hg,.inr ⟨x,ty,k,m,ho,hx,rfl,rfl⟩⟩
theorem J4l{t t':Nat→AV}{ops:Array Oper}{o:Oper}(h:∀d∈o.looksAt ops,t d=t' d):∀x∈o.op.operands,ev t x=ev t' x:=by
 intro x hx
 cases x with
 | tmp d=>exact h d (List.mem_append_left _ (List.mem_filterMap.2 ⟨.tmp d,by simpa using hx,rfl⟩))
 | _=>rfl
theorem J3r(hX:Q6c E X){ops:Array Oper}{o:Oper}{t:Nat→AV}{v:Value}{H':List AObj}{Q:Exit→Act→World→Prop}(hs:Q6b X o t σ.h v H')(hag:∀d∈o.looksAt ops,σ.t d=t d)(hR:Rel E γ₀ H₀ Φ₀ w₀ σ a w)
 (hQ:∀a' w',Rel E γ₀ H₀ Φ₀ w₀ ⟨fun _=>.any,σ.n,H'⟩ a' w'→Q (.panic [{ v:=v,recovered:=false }]) a' w') (K:Act→World→Prop):Region.wanted o (yielded ops a.tmps)=true∧o.wp E.P a w K Q:=by
 obtain⟨hg,hs⟩:=hs
 refine⟨by simp[Region.wanted,hg],?_⟩
 obtain⟨⟨γ,Φ,hok,hsl⟩,hsz,hd,hl0⟩:=hR
 rcases hs with⟨f,args,ats,ho,hx⟩|⟨x,ty,kk,m,ho,hx,rfl,rfl⟩
 ·have hargs:args.toList.map (ev σ.t)=args.toList.map (ev t):=by
   refine List.map_congr_left fun x hx=>J4l hag x ?_
   have hx':x∈args:=by simpa using hx
   simp[ho,Op.operands,Call.operands,hx']
  rw[←hargs]at hx
  have hcl:(args.toList.map a.eval).length=(args.toList.map (ev σ.t)).length:=by simp
  have harr:(⟨args.toList.map a.eval⟩:Array Value)=args.map a.eval:=by
   apply Array.ext'
   simp
  obtain⟨⟨fn,hf,hb,hnm⟩,hcalls⟩:=Z3h hX hok.inv hcl (Q6s hsl args) hx
  unfold Oper.wp
  rw[Z2x ho hf hb hnm]
  rw[harr]at hcalls
  refine hcalls.mono ?_
  rintro e w'' ⟨γ',Φ',rfl,hok'⟩
  exact hQ _ _ ⟨⟨γ',Φ',hok.trans hok',fun i=>.any _⟩,hsz,hd,hl0⟩
 have hr:=Q0q hsl x
 rw[J4l hag x (by simp[ho,Op.operands]),hx]at hr
 have he:a.eval x=.iface ty (.int kk m):=by
  generalize a.eval x=u at hr
  cases hr with
  | ifc t u p hp=>
    cases hp
    rfl
 unfold Oper.wp execOp
 simp only[ho,he,Instr.panic]
 exact hQ _ _ ⟨⟨γ,Φ,hok,fun i=>.any _⟩,hsz,hd,hl0⟩
variable {k:Nat}{Q:Exit→St→Prop}
def J2z(X:XO)(o:Oper)(v:Value)(H':List AObj):Option St→Prop
 | some σ=>Q6b X o σ.t σ.h v H'
 | none=>False
theorem Z2a(o:Oper)(v:Value)(H':List AObj)(σ:St):J2z X o v H' (some σ)=Q6b X o σ.t σ.h v H':=rfl
theorem AW.regS(hS:Q1m E O)(hX:Q6c E X){id n:Nat}{t:Nat→AV}{h:List AObj}{ops:Array Oper}(i:Nat){o:Oper}{post:List Oper}{v:Value}{H':List AObj}(hops:ops.toList.drop i=o::post)
 (hr:J2z X o v H' (arun E O ops (ops.toList.take i) ⟨t,n,h⟩)) (hQ:Q (.panic [{ v:=v,recovered:=false }]) ⟨fun _=>.any,n,H'⟩):AW E k (.region id ops false) Q ⟨t,n,h⟩:=by
 generalize hx:arun E O ops (ops.toList.take i) ⟨t,n,h⟩=x at hr
 cases x with
 | none=>exact hr.elim
 | some σ'=>
   have hn:=Z6v hx
   intro γ₀ H₀ Φ₀ w₀ a w hl hR
   refine wp_region_list ?_
   rw[←List.take_append_drop i ops.toList]
   refine Q9h hS _ _ a w hx hR (fun a' w' hR'=>?_)
   rw[hops]
   refine wpList_step fun K hK=>?_
   obtain⟨h1,h2⟩:=J3r (Q:=fun e a' w'=>∃σ',Rel E γ₀ H₀ Φ₀ w₀ σ' a' w'∧Q e σ') hX hr (ops:=ops) (fun _ _=>rfl) hR' (fun a2 w2 hR2=>⟨_,by rw[hn]at hR2;exact hR2,hQ⟩) K
   rw[if_pos h1]
   exact h2
def J8f(ops:Array Oper)(n j0:Nat)(js:List Nat):Bool:=
 J0d ops n [] ((List.range ops.size).map fun j=>(j,0))&&decide (j0<ops.size)&&(List.range ops.size).all fun j=>j==j0||((ancs ops ops.size).getD j []).contains j0||js.contains j
theorem AW.dregS(hP:E.P.follows .mixedOrders=true)(hS:Q1m E O)(hX:Q6c E X){id n:Nat}{L0:List (Nat×AV)}{h:List AObj}{ops:Array Oper}(j0:Nat)(js:List Nat)(val:List AV)(LF:List (Nat×AV))(hLF:Q3p ops val++L0=LF)(hok:J8f ops n j0 js=true)
 {o:Oper} (ho:ops[j0]?=some o) (hf:Q3z E O ops (sl LF) n val [h] [] (js.map fun j=>(j,0))) {v:Value} {H':List AObj} (hst:Q6b X o (sl LF) h v H') (hQ:Q (.panic [{ v:=v,recovered:=false }]) ⟨fun _=>.any,n,H'⟩):
 AW E k (.region id ops true) Q ⟨sl L0,n,h⟩:=by
 subst hLF
 unfold J8f at hok
 simp only[Bool.and_eq_true,decide_eq_true_eq]at hok
 obtain⟨⟨hplan,hj0⟩,hcov⟩:=hok
 intro γ₀ H₀ Φ₀ w₀ a w hl hR
 refine wp_region_any hP ?_
 have htodo:todo ops (Array.replicate ops.size false)=List.range ops.size:=by
  refine List.filter_eq_self.2 fun i hi=>?_
  simp[List.mem_range.1 hi]
 have hnone:∀i,(Array.replicate ops.size false).getD i false=false:=by
  intro i
  by_cases hi:i<ops.size
  ·simp[hi]
  simp[hi]
 refine Z2f (val:=val) (hs:=[h]) hS (Z3w hplan) (fun j=>j==j0) (fun j p o' hp hx hm ho'=>?_) (γ₀:=γ₀) (H₀:=H₀) (Φ₀:=Φ₀) (w₀:=w₀) (fun j o' hj ho' σ a' w' K hn hh hag hR'=>?_) (fun j e _ he=>by cases he) (fun hno a' w' hR'=>?_) ops.size _ ⟨sl L0,n,h⟩ a _ 0 (by simp) (by rw[htodo];simp) (fun j hj=>by rw[hnone]at hj;cases hj) (Nat.zero_le _) (fun e he=>by simp at he) (fun e _=>hnone e) rfl rfl
  (fun j d hj=>by rw[hnone]at hj;cases hj) (fun i _=>rfl) (fun j _=>hnone j) ?_
 ·have hjs:j<ops.size:=(Array.getElem?_eq_some_iff.1 ho').1
  have hc:=List.all_eq_true.1 hcov j (List.mem_range.2 hjs)
  simp only[Bool.or_eq_true]at hc
  obtain⟨q,hq,hqe⟩:=List.mem_map.1 hm
  simp only[Prod.mk.injEq]at hqe
  obtain⟨rfl,rfl⟩:=hqe
  rcases hc with(hc|hc)|hc
  ·rw[hc]at hp
   cases hp
  ·exact absurd (by simpa using hc) (hx j0 (by simp))
  exact hf.at (List.mem_map.2 ⟨q,by simpa using hc,rfl⟩) ho'
 ·simp only[beq_iff_eq]at hj
  subst hj
  rw[ho]at ho'
  injection ho' with ho'
  subst ho'
  obtain⟨t,m,g⟩:=σ
  simp only[List.length_nil,List.getD_cons_zero]at hn hh hag
  subst hn hh
  exact J3r (Q:=fun e a' w'=>∃σ',Rel E γ₀ H₀ Φ₀ w₀ σ' a' w'∧Q e σ') hX hst (ops:=ops) hag hR' (fun a2 w2 hR2=>⟨_,hR2,hQ⟩) K
 ·have:=hno j0 hj0
  simp at this
 obtain⟨⟨γ,Φ,hok',hs'⟩,hsz,hd,h0'⟩:=hR
 have hk:Ok E γ h Φ w γ h Φ { w with drawn:=w.drawn+1 }:=hok'.inv.grow (fun _ _=>rfl) (Nat.le_refl _) rfl rfl rfl (fun _ _ h=>h) (fun _ _ h _=>h) hok'.inv.phi
 exact⟨⟨γ,Φ,hok'.trans hk,fun i=>(hs' i).mono hk.evo⟩,hsz,hd,h0'⟩
def Q8o:List AV→Bool
 | []=>true
 | .pv _::r=>Q8o r
 | _=>false
def arg0:List AV→Bool
 | .ref 0 _::r=>Q8o r
 | _=>false
def obj0:AObj→Bool
 | .var cs=>Q8o cs
 | .gone=>true
 | _=>false
theorem Z0y{H:List AObj}:∀ {az:List AV},Q8o az=true→Q1i H az=[]
 | [],_=>rfl
 | .pv p::r,h=>by
   simp only[Q1i,toPV]
   rw[Z0y (az:=r) h]
   rfl
theorem Q6j:∀ {az:List AV},Q8o az=true→Q3x az=[]
 | [],_=>rfl
 | .pv p::r,h=>by
   simp only[Q3x]
   exact Q6j (az:=r) h
theorem Z3v{H:List AObj}{f:Nat→Option Nat}:∀ {az:List AV},Q8o az=true→Q0s H f az=some az
 | [],_=>rfl
 | .pv p::r,h=>by
   simp only[Q0s,toPV]
   rw[Z3v (az:=r) h]
theorem Z0x{f:Nat→Option Nat}:∀ {az:List AV},Q8o az=true→renL f az=some az
 | [],_=>rfl
 | .pv p::r,h=>by
   simp only[renL,AV.ren]
   rw[Z0x (az:=r) h]
theorem Q4h{f:Nat→Nat}:∀ {az:List AV},Q8o az=true→az.map (AV.mapL f)=az
 | [],_=>rfl
 | .pv p::r,h=>by
   simp only[List.map_cons,AV.mapL]
   rw[Q4h (az:=r) h]
theorem J4b{f:Nat→Option Nat}{o:AObj}(h:obj0 o=true):o.ren f=some o:=by
 cases o with
 | var cs=>simp only[AObj.ren,Z0x (az:=cs) h,Option.map_some]
 | gone=>rfl
 | _=>cases h
theorem X3u{f:Nat→Nat}{o:AObj}(h:obj0 o=true):o.mapL f=o:=by
 cases o with
 | var cs=>simp only[AObj.mapL,Q4h (az:=cs) h]
 | gone=>rfl
 | _=>cases h
theorem Z6h{o:AObj}{rest:List AObj}(h:obj0 o=true):Q1h (o::rest) [0]=[]:=by
 cases o with
 | var cs=>simp only[Q1h,List.getElem?_cons_zero,Q6j (az:=cs) h,List.append_nil]
 | gone=>rfl
 | _=>cases h
theorem back0{o o':AObj}{rest:List AObj}(h:obj0 o'=true):Q0n (o::rest) [0] [o']=o'::rest:=by
 unfold Q0n
 rw[show List.drop [0].length [o']=[] from rfl,List.map_nil,List.append_nil]
 refine List.ext_getElem (by simp) fun k h1 h2=>?_
 rw[List.getElem_map,List.getElem_range]
 cases k with
 | zero=>exact X3u h
 | succ k=>
   have:idx [0] (k+1)=none:=by
    simp[idx]
   rw[this]
   have hk:k<rest.length:=by simpa using h2
   simp[hk]
theorem Q2y{O:Orc}{f:FuncId}{args:List AV}{o o':AObj}{rs:List AV}(h:O.C f args [o]=some (rs,[o']))(ha:arg0 args=true)(ho:obj0 o=true)(hr:Q8o rs=true)(ho':obj0 o'=true)(rest:List AObj):Q0v O (o::rest) f args=some (Q1a rs,o'::rest):=by
 match args,ha with
 | .ref 0 k::az,ha=>
   have h1:Q1i (o::rest) (.ref 0 k::az)=[0]:=by
    simp only[Q1i,toPV]
    rw[Z0y (az:=az) ha]
    rfl
   unfold Q0v
   simp only[h1,Z6h ho,List.append_nil]
   have h2:Q4w [0]=[0]:=rfl
   simp only[h2,Q0y,List.getElem?_cons_zero,Option.bind_some,J4b ho,Q0s,toPV,AV.ren,idx,if_true,Option.map_some,Z3v (az:=az) ha,h,List.length_cons,List.length_nil,Nat.le_refl,back0 ho',Q4h hr]
theorem Q4x{X:XO}{f:FuncId}{args:List AV}{o:AObj}{v:Value}(h:X f args [o]=some v)(ha:arg0 args=true)(ho:obj0 o=true)(rest:List AObj):Z5p X (o::rest) f args=some (v,xg o::rest):=by
 match args,ha with
 | .ref 0 k::az,ha=>
   have h1:Q1i (o::rest) (.ref 0 k::az)=[0]:=by
    simp only[Q1i,toPV]
    rw[Z0y (az:=az) ha]
    rfl
   have hx:obj0 (xg o)=true:=by cases o<;>first|rfl|exact ho
   unfold Z5p
   simp only[h1,Z6h ho,List.append_nil]
   have h2:Q4w [0]=[0]:=rfl
   simp only[h2,Q0y,List.getElem?_cons_zero,Option.bind_some,J4b ho,Q0s,toPV,AV.ren,idx,if_true,Option.map_some,Z3v (az:=az) ha,h,List.map_cons,List.map_nil,back0 hx]
theorem J2u{A B C:Prop}(a:A)(b:B)(c:C):A∧B∧C:=⟨a,b,c⟩
theorem ordp{pf:FuncId→Bool}(h:O.pf=pf){ops:Array Oper}(e:Z3y pf ops=true):Z3y O.pf ops=true:=by rw[h];exact e
theorem ordB{pf:FuncId→Bool}(h:O.pf=pf){B:Q9r}{ops:Array Oper}(e:Q3j pf B ops=true):Q3j O.pf B ops=true:=by rw[h];exact e
end
end Go.Abs
namespace Go.Abs
open Go Go.RowKit
section
variable {P:Program}{c:Code}{Q:Exit→Act→World→Prop}
theorem Z5v(b:Frame)(k:List Item)(cs:List Frame):∀n a w,Code.rounds P c Q n a w→∃e a' w',Q e a' w'∧Arrives P (lone (b.at a (.code c::.inLoop c::k)) cs w) b k cs e a' w':=by
 intro n
 induction n with
 | zero=>intro a w h;exact h.elim
 | succ n ih=>
   intro a w h
   obtain⟨e,a₁,w₁,hq,harr⟩:=h b (.inLoop c::k) cs
   cases e with
   | normal=>
     obtain⟨e₂,a₂,w₂,hq₂,harr₂⟩:=ih a₁ w₁ hq
     exact⟨e₂,a₂,w₂,hq₂,.of_steps (Steps.trans harr (.one step_inLoop)) harr₂⟩
   | exit id=>exact⟨_,a₁,w₁,hq,.pass (x:=.inLoop c) rfl (fun _ _=>.inl (by simp)) harr⟩
   | goto l=>exact⟨_,a₁,w₁,hq,.pass (x:=.inLoop c) rfl (fun _ _=>.inl (by simp)) harr⟩
   | ret=>exact⟨_,a₁,w₁,hq,.pass (x:=.inLoop c) rfl (fun _ _=>.inl (by simp)) harr⟩
   | panic ch=>exact⟨_,a₁,w₁,hq,.pass (x:=.inLoop c) rfl (fun _ _=>.inl (by simp)) harr⟩
   | outgrown=>exact⟨_,a₁,w₁,hq,.pass (x:=.inLoop c) rfl (fun _ _=>.inl (by simp)) harr⟩
theorem Z7n{a:Act}{w:World}(h:c.wp P (Exit.then (fun a' w'=>∃n,Code.rounds P c Q n a' w') Q) a w):(Code.loop c).wp P Q a w:=by
 intro b k cs
 obtain⟨e,a₁,w₁,hq,harr⟩:=h b (.inLoop c::k) cs
 cases e with
 | normal=>
   obtain⟨n,hn⟩:=hq
   obtain⟨e₂,a₂,w₂,hq₂,harr₂⟩:=Z5v b k cs n a₁ w₁ hn
   exact⟨e₂,a₂,w₂,hq₂,.of_steps (.one step_loop) (.of_steps (Steps.trans harr (.one step_inLoop)) harr₂)⟩
 | exit id=>exact⟨_,a₁,w₁,hq,.of_steps (.one step_loop) (.pass (x:=.inLoop c) rfl (fun _ _=>.inl (by simp)) harr)⟩
 | goto l=>exact⟨_,a₁,w₁,hq,.of_steps (.one step_loop) (.pass (x:=.inLoop c) rfl (fun _ _=>.inl (by simp)) harr)⟩
 | ret=>exact⟨_,a₁,w₁,hq,.of_steps (.one step_loop) (.pass (x:=.inLoop c) rfl (fun _ _=>.inl (by simp)) harr)⟩
 | panic ch=>exact⟨_,a₁,w₁,hq,.of_steps (.one step_loop) (.pass (x:=.inLoop c) rfl (fun _ _=>.inl (by simp)) harr)⟩
 | outgrown=>exact⟨_,a₁,w₁,hq,.of_steps (b:=b) (k:=k) (cs:=cs) (e:=.outgrown) (.one step_loop) (.pass (x:=.inLoop c) rfl (fun _ _=>.inl (by simp)) harr)⟩
end
section
variable {E:Env}{k:Nat}{Q:Exit→St→Prop}
theorem AW.lp1{α:Type}(S:α→St)(p:α→Prop)(μ:α→Nat){c:Code}{σ:St}(h1:AW E k c (Q9v (fun σ'=>∃a',p a'∧Weak E k σ' (S a')) Q) σ)
 (hr:∀a,p a→AW E k c (Q9v (fun σ'=>∃a',p a'∧Weak E k σ' (S a')∧μ a'<μ a) Q) (S a)):AW E k (.loop c) Q σ:=by
 intro γ₀ H₀ Φ₀ w₀ a w hl hR
 have rounds:∀n x a w,μ x<n→p x→Rel E γ₀ H₀ Φ₀ w₀ (S x) a w→Code.rounds E.P c (fun e a' w'=>∃σ',Rel E γ₀ H₀ Φ₀ w₀ σ' a' w'∧Q e σ') n a w:=by
  intro n
  induction n with
  | zero=>intro x a w h;omega
  | succ n ih=>
    intro x a w hm hp hR
    rw[rounds_succ]
    refine wp_mono (hr x hp γ₀ H₀ Φ₀ w₀ a w hl hR) (fun e a' w' ⟨σ',hR',hQ⟩=>?_)
    cases e with
    | normal=>
      obtain⟨x',hp',hw,hlt⟩:=hQ
      exact ih x' a' w' (by omega) hp' (hw γ₀ H₀ Φ₀ w₀ a' w' hl hR')
    | _=>exact⟨σ',hR',hQ⟩
 refine Z7n (wp_mono (h1 γ₀ H₀ Φ₀ w₀ a w hl hR) (fun e a' w' ⟨σ',hR',hQ⟩=>?_))
 cases e with
 | normal=>
   obtain⟨x',hp',hw⟩:=hQ
   exact⟨μ x'+1,rounds _ x' a' w' (by omega) hp' (hw γ₀ H₀ Φ₀ w₀ a' w' hl hR')⟩
 | _=>exact⟨σ',hR',hQ⟩
end
end Go.Abs
namespace Go.Abs
open Go Go.RowKit
def b8(n:Int):UInt8:=UInt8.ofNat n.toNat
end Go.Abs
