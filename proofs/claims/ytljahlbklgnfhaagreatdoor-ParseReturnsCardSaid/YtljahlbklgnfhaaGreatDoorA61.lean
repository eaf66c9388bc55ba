import Derived.Test.YtljahlbklgnfhaaGreatDoorA50
import Derived.Test.YtljahlbklgnfhaaGreatDoorA35
import Derived.Test.YtljahlbklgnfhaaGreatDoorA45
import Derived.LoopN
import Derived.Test.YtljahlbklgnfhaaGreatDoorA17
set_option linter.unusedVariables false
set_option linter.unusedSimpArgs false
set_option linter.defProp false
namespace Go.Abs
open Go.RowKit
def Q0c(E:Env)(S:Spec):Prop:=V2u E S/\Z9l E S.f
def X9n(L:List Spec)(f:FuncId):Option Spec:=L.find? λS=>S.f==f
open Classical in
noncomputable def cL(E:Env)(L:List Spec)(f:FuncId)(args:List AV)(H:List AObj):Option Out:=
 match X9n L f with
 | some S=>if Q0c E S then S.c args H else none
 | none=>none
noncomputable def oL(E:Env)(pf:FuncId->Bool)(L:List Spec):Orc:={ C:=λf args H=>match cL E L f args H with|some (.ret rs H')=>some (rs,H')|_=>none,pf:=pf }
noncomputable def xL(E:Env)(L:List Spec):XO:=λf args H=>match cL E L f args H with|some (.boom v)=>some v|_=>none
def AllG(E:Env):List Spec->Prop
 | []=>True
 | S::L=>Q0c E S/\AllG E L
def Kn(O:Orc)(X:XO)(f:FuncId)(S:Spec):Prop:=∀x r,S.F x=some r->Says O X f (S.A x).1 (S.A x).2 (S.R x r)
def Q1d(L:List Spec)(i f:Nat):Option Spec:=match L[i]? with
 | some S=>if S.f==f&&(L.take i).all (λT=>!(T.f==f))then some S else none
 | none=>none
section
variable {E:Env}{L:List Spec}{pf:FuncId->Bool}
theorem K0j{f:FuncId}{args:List AV}{H:List AObj}{o:Out}(h:cL E L f args H=some o):J9n E f args H o/\Z9l E f:=by
 unfold cL X9n at h
 split at h
 ·rename_i S hS
  have d:S.f=f:=by simpa using G8o hS
  split at h
  ·rename_i b
   subst d
   exact⟨b.1.c args H o h,b.2⟩
  cases h
 cases h
theorem K3t:Q2d E (oL E pf L):=by
 intro f args H rs H' b
 simp only[oL]at b
 split at b
 ·rename_i e Hs d
  simp only[G0c,G1k]at b
  obtain⟨rfl,rfl⟩:=b
  exact K0j d
 cases b
theorem K2p:Q7l E (xL E L):=by
 intro f args H v b
 simp only[xL]at b
 split at b
 ·rename_i u d
  injection b with b
  subst b
  exact K0j d
 cases b
theorem X2s:∀ {L:List Spec} {i:Nat} {S:Spec},AllG E L->L[i]?=some S->Q0c E S
 | _::_,0,_,h,b=>by
   simp only[G0s,G0c]at b
   subst b
   exact h.1
 | _::L,i+1,_,h,b=>X2s (L:=L) (i:=i) h.2 (by simpa using b)
theorem J1k{f:Nat}{S:Spec}(hS:(S.f==f)=true):∀ {L:List Spec} {i:Nat},L[i]?=some S->(L.take i).all (λT=>!(T.f==f))=true->X9n L f=some S
 | T::L,0,b,_=>by
   simp only[G0s,G0c]at b
   subst b
   unfold X9n
   rw[List.find?_cons,hS]
 | T::L,i+1,b,d=>by
   simp only[G3w,G2m,G0d,G5c]at d
   unfold X9n
   rw[List.find?_cons,d.1]
   exact J1k hS (L:=L) (i:=i) (by simpa using b) d.2
theorem orcs(l:AllG E L):∃ (O:Orc) (X:XO),Q2d E O/\Q7l E X/\O.pf=pf/\∀ (i f:Nat) {S:Spec},Q1d L i f=some S->Kn O X f S:=by
 refine⟨oL E pf L,xL E L,K3t,K2p,rfl,λi f S b x r m=>?_⟩
 unfold Q1d at b
 split at b
 ·rename_i d j
  split at b
  ·rename_i e
   simp only[G0c]at b
   subst b
   simp only[G0d]at e
   have hG:=X2s l j
   have g:cL E L f (d.A x).1 (d.A x).2=some (d.R x r):=by
    unfold cL
    rw[J1k e.1 j e.2]
    simp only
    rw[if_pos hG,d.c_at,m]
    rfl
   generalize n:d.R x r=o at g
   cases o with
   | ret rs H'=>simp only[Says,oL,g]
   | boom v=>simp only[Says,xL,g]
  cases b
 cases b
theorem Kn.ret{O:Orc}{X:XO}{f:FuncId}{S:Spec}(k:Kn O X f S)(x:S.α){r:S.ρ}(q:S.F x=some r){args:List AV}{H:List AObj}{rs:List AV}{H':List AObj}(b:S.A x=(args,H))(d:S.R x r=.ret rs H'):O.C f args H=some (rs,H'):=by
 have h:=k x r q
 rw[b,d]at h
 exact h
theorem Kn.boom{O:Orc}{X:XO}{f:FuncId}{S:Spec}(k:Kn O X f S)(x:S.α){r:S.ρ}(q:S.F x=some r){args:List AV}{H:List AObj}{v:Value}(b:S.A x=(args,H))(d:S.R x r=.boom v):X f args H=some v:=by
 have h:=k x r q
 rw[b,d]at h
 exact h
theorem pft{O:Orc}(h:O.pf=pf)(f:FuncId){b:Bool}(e:pf f=b):O.pf f=b:=by rw[h];exact e
theorem J9n.startE{f:FuncId}{fn:Func}{c:Code}(b:E.P.funcs[f]?=some fn)(hb:fn.body=some c){args:List AV}{H:List AObj}{out:Out}(d:args.length<=fn.ntmps)(e:List Nat)(hd0:E.dfs=[])
 (h:AW E H.length c (retB E fn H.length e H out) ⟨Z5n args,fn.ntmps,H⟩):J9n E f args H out:=by
 cases out with
 | ret rs H'=>exact Good.of_body b hb d e hd0 h
 | boom v=>exact J4e.of_body b hb d hd0 h
theorem GH{S:Spec}{fn:Func}{c:Code}(b:E.P.funcs[S.f]?=some fn)(e:(fn.name=="runtime.NumGoroutine")=false)(hb:fn.body=some c)(N:Nat)(f:fn.ntmps=N)(d:List Nat)(hd0:E.dfs=[])
 (h:∀ (x:S.α) (r:S.ρ),S.F x=some r->∀m,(S.A x).2.length=m->(decide ((S.A x).1.length<=N)=true/\AW E m c (retB E fn m d (S.A x).2 (S.R x r)) ⟨sl (enum 0 (S.A x).1),N,(S.A x).2⟩)):Q0c E S:=by
 refine⟨λx r g=>?_,fn,b,(by rw[hb];rfl),e⟩
 obtain⟨i,j⟩:=h x r g _ rfl
 subst f
 refine J9n.startE b hb (G3e i) d hd0 ?_
 rw[Z8o]
 exact j
theorem GHs{S:Spec}{x:S.α}{r:S.ρ}{m N:Nat}{fn:Func}{c:Code}{b:List Nat}{args:List AV}{H:List AObj}{out:Out}(d:S.A x=(args,H))(e:S.R x r=out)(em:(S.A x).2.length=m){M:Nat}(f:H.length=M)(g:decide (args.length<=N)=true){L:List (Nat×AV)}(i:enum 0 args=L)
 (h:AW E M c (retB E fn M b H out) ⟨sl L,N,H⟩):decide ((S.A x).1.length<=N)=true/\AW E m c (retB E fn m b (S.A x).2 (S.R x r)) ⟨sl (enum 0 (S.A x).1),N,(S.A x).2⟩:=by
 subst em
 rw[d,e]
 subst i f
 exact⟨g,h⟩
theorem GH0{S:Spec}(hb:Z9l E S.f)(h:∀x,S.F x=none):Q0c E S:=
 ⟨λx r b=>absurd b (by rw[h x];exact nofun),hb⟩
def pick:List Nat->(Nat->AV)->List (Nat×AV)
 | [],_=>[]
 | k::ks,t=>(k,t k)::pick ks t
theorem Q6k(t:Nat->AV):pick [] t=[]:=rfl
theorem Q4o(k:Nat)(ks:List Nat)(t:Nat->AV):pick (k::ks) t=(k,t k)::pick ks t:=rfl
theorem Z0e{t:Nat->AV}:∀ks,Q8x t (pick ks t)
 | []=>trivial
 | _::ks=>⟨rfl,Z0e ks⟩
def Q3h(ks:List Nat)(L:List (Nat×AV))(h':List AObj):Option St->Prop
 | some σ=>pick ks σ.t=L/\σ.h=h'
 | none=>False
theorem Q4q(ks:List Nat)(L:List (Nat×AV))(h':List AObj)(σ:St):Q3h ks L h' (some σ)=(pick ks σ.t=L/\σ.h=h'):=rfl
theorem Q3h.of{ks:List Nat}{L:List (Nat×AV)}{h':List AObj}{x:Option St}(h:Q3h ks L h' x):Leaves L h' x:=by
 cases x with
 | none=>exact h.elim
 | some σ=>
   obtain⟨b,d⟩:=h
   subst b
   exact⟨Z0e ks,d⟩
variable {k:Nat}{Q:Exit->St->Prop}{O:Orc}
theorem AW.rg(hS:Q2d E O)(ks:List Nat){id n:Nat}{t:Nat->AV}{h:List AObj}{ops:Array Oper}{L:List (Nat×AV)}{h':List AObj}(b:Q3h ks L h' (arun E O ops ops.toList ⟨t,n,h⟩))(d:Q .normal ⟨sl L,n,h'⟩):AW E k (.region id ops false) Q ⟨t,n,h⟩:=
 AW.reg hS L h' b.of d
theorem AW.dgk(b:E.P.follows .mixedOrders=true)(hS:Q2d E O)(ks:List Nat){id n:Nat}{t:Nat->AV}{h:List AObj}{ops:Array Oper}(d:Z8c O.pf ops=true){L:List (Nat×AV)}{h':List AObj}(e:Q3h ks L h' (arun E O ops ops.toList ⟨t,n,h⟩))(f:Q .normal ⟨sl L,n,h'⟩):AW E k (.region id ops true) Q ⟨t,n,h⟩:=
 AW.dreg b hS d L h' e.of f
theorem AW.dgB(b:E.P.follows .mixedOrders=true)(hS:Q2d E O)(B:Z1z)(ks:List Nat){id n:Nat}{t:Nat->AV}{h:List AObj}{ops:Array Oper}(d:(B.all λp=>J3y (t p.1) p.2)=true)(e:Q4e O.pf B ops=true){L:List (Nat×AV)}{h':List AObj}(f:Q3h ks L h' (arun E O ops ops.toList ⟨t,n,h⟩))(g:Q .normal ⟨sl L,n,h'⟩):AW E k (.region id ops true) Q ⟨t,n,h⟩:=
 AW.dregB b hS B d e L h' f.of g
theorem AW.st{c:Code}{L:List (Nat×AV)}{n:Nat}{h:List AObj}(b:AW E k c Q ⟨sl L,n,h⟩):AW E k c Q ⟨sl L,n,h⟩:=b
theorem AW.lp{α:Type}(S:α->St)(p:α->Prop)(b:α->Nat){c:Code}(d:α){σ:St}(f:Weak E k σ (S d))(g:p d)(i:∀a,p a->AW E k c (Z2e (λσ'=>∃e,p e/\Weak E k σ' (S e)/\b e<b a) Q) (S a)):AW E k (.loop c) Q σ:=
 AW.weak f (AW.loopI S p b d g i)
theorem AW.iff_{α:Type}{r:α}{b b':Bool}{u v:Option α}(h:(bif b then u else v)=some r){c:Operand}{x y:Code}{σ:St}(d:ev σ.t c=.pv (.bool b'))(hb:b'=b)(e:b=true->u=some r->AW E k x Q σ)(f:b=false->v=some r->AW E k y Q σ):AW E k (.cond c x y) Q σ:=by
 subst hb
 exact AW.cond d (λhb=>e hb (Y1f hb h)) (λhb=>f hb (Y1g hb h))
theorem Z6s{α:Type}(f:α->PV){s t:List α}{b d:Int}(h:Q3n s b d=some t):List.take (d.toNat-b.toNat) (List.drop b.toNat (List.map f s))=List.map f t/\List.take (d.toNat-b.toNat) (List.drop b.toNat s)=t:=by
 have e:=(Q4g h).2.2.2.2
 exact⟨by rw[e,List.map_take,List.map_drop],e.symm⟩
theorem J5z{α:Type}(f:α->PV){g:Bool}{s t:List α}{b d:Int}(h:g=true->Q3n s b d=some t):g=true->List.take (d.toNat-b.toNat) (List.drop b.toNat (List.map f s))=List.map f t/\List.take (d.toNat-b.toNat) (List.drop b.toNat s)=t:=
 λe=>Z6s f (h e)
theorem J0f{E:Env}{H:List AObj}{d e a b c:Nat}{z:Option (List PV)}{k1 k2:IntKind}{n:Int}(f:E.T d=some ⟨.slice e,a,b,z⟩)(g:E.T e=some ⟨.str,1,c,some [.str []]⟩)(i:0<=n)(hb:n.toNat * c<=140737488355328)(j:c≠0):
 Q5i E H d (.pv (.int k1 n)) (.pv (.int k2 n))=some (.vec H.length n.toNat,H++[.row e 1 (List.replicate n.toNat (.str [])) false]):=by
 unfold Q5i
 simp only[f,g,X0k]
 rw[if_pos ⟨i,G4w _,hb,j,by decide,rfl⟩]
theorem Z8f{α:Type}{s t:List α}{d b:Int}(h:Q3n s d b=some t):(0<=d)=True/\(0<=b)=True/\(d.toNat<=b.toNat)=True/\(b.toNat<=s.length)=True:=
 ⟨(Q4g h).1,(Q4g h).2.1,(Q4g h).2.2.1,(Q4g h).2.2.2.1⟩
theorem J5y{α:Type}{g:Bool}{s t:List α}{d b:Int}(h:g=true->Q3n s d b=some t):(g=true->0<=d)/\(g=true->0<=b)/\(g=true->d.toNat<=b.toNat)/\(g=true->b.toNat<=s.length):=
 ⟨(Z6t h).1,(Z6t h).2.1,(Z6t h).2.2.1,(Z6t h).2.2.2.1⟩
theorem Y1m{α:Type}{sz:Nat}{xs ys v:List α}(h:appO sz xs ys=some v):v.length=xs.length+ys.length:=by
 rw[(K0p h).2,G0g]
theorem Y1n{α:Type}(f:α->PV){sz:Nat}{xs ys v:List α}(h:appO sz xs ys=some v):List.map f xs++List.map f ys=List.map f v:=by
 rw[(K0p h).2,G7r]
end
section
variable {E:Env}{O:Orc}{X:XO}{γ₀ γ:List Gh}{H H₀:List AObj}{Φ₀ Φ:Nat->Nat->Prop}{w w₀:World}{σ:St}{a:Act}
def Q7k(X:XO)(o:Oper)(t:Nat->AV)(h:List AObj)(v:Value)(H':List AObj):Prop:=
 o.guard=none/\((∃f args d,o.op=.call ⟨.value (.func f),args,d⟩/\Z9y X h f (args.toList.map (ev t))=some (v,H'))\/(∃x b k m,o.op=.panic x/\ev t x=.ifc b (.int k m)/\v=.iface b (.int k m)/\H'=h))
theorem Q7k.call{o:Oper}{t:Nat->AV}{h:List AObj}{v:Value}{H':List AObj}{f:FuncId}{args:Array Operand}{b:Array TypeId}(d:o.guard=none)(e:o.op=.call ⟨.value (.func f),args,b⟩)(g:Z9y X h f (args.toList.map (ev t))=some (v,H')):Q7k X o t h v H':=
 ⟨d,.inl ⟨f,args,b,e,g⟩⟩
theorem Q7k.panic{o:Oper}{t:Nat->AV}{h:List AObj}{b:TypeId}{k:IntKind}{m:Int}{x:Operand}(d:o.guard=none)(e:o.op=.panic x)(f:ev t x=.ifc b (.int k m)):Q7k X o t h (.iface b (.int k m)) h:=
 ⟨d,.inr ⟨x,b,k,m,e,f,rfl,rfl⟩⟩
theorem X2h{t b:Nat->AV}{ops:Array Oper}{o:Oper}(h:∀d∈o.looksAt ops,t d=b d):∀x∈o.op.operands,ev t x=ev b x:=by
 intro x e
 cases x with
 | tmp d=>exact h d (G5p _ (G4u.2 ⟨.tmp d,by simpa using e,rfl⟩))
 | _=>rfl
theorem X0v(hX:Q7l E X){ops:Array Oper}{o:Oper}{t:Nat->AV}{v:Value}{H':List AObj}{Q:Exit->Act->World->Prop}(hs:Q7k X o t σ.h v H')(n:∀d∈o.looksAt ops,σ.t d=t d)(D:Rel E γ₀ H₀ Φ₀ w₀ σ a w)
 (q:∀r w',Rel E γ₀ H₀ Φ₀ w₀ ⟨λ_=>.any,σ.n,H'⟩ r w'->Q (.panic [{ v:=v,recovered:=false }]) r w') (K:Act->World->Prop):Region.wanted o (yielded ops a.tmps)=true/\o.wp E.P a w K Q:=by
 obtain⟨F,hs⟩:=hs
 refine⟨by simp[Region.wanted,F],?_⟩
 obtain⟨⟨γ,Φ,j,y⟩,z,hd,A⟩:=D
 rcases hs with⟨f,args,ad,g,b⟩|⟨x,I,J,m,g,b,rfl,rfl⟩
 ·have M:args.toList.map (ev σ.t)=args.toList.map (ev t):=by
   refine G5f λx b=>X2h n x ?_
   have N:x∈args:=by simpa using b
   simp[g,Op.operands,Call.operands,N]
  rw[<-M]at b
  have S:(args.toList.map a.eval).length=(args.toList.map (ev σ.t)).length:=by simp
  have T:(⟨args.toList.map a.eval⟩:Array Value)=args.map a.eval:=by
   apply G6h
   simp
  obtain⟨⟨fn,U,hb,V⟩,C⟩:=Z7g hX j.inv S (Q8e y args) b
  unfold Oper.wp
  rw[Z6k g U hb V]
  rw[T]at C
  refine C.mono ?_
  rintro e ae ⟨W,Φ',rfl,Y⟩
  exact q _ _ ⟨⟨W,Φ',j.trans Y,λi=>.any _⟩,z,hd,A⟩
 have l:=Q0u y x
 rw[X2h n x (by simp[g,Op.operands]),b]at l
 have he:a.eval x=.iface I (.int J m):=by
  generalize a.eval x=u at l
  cases l with
  | ifc t u p hp=>
    cases hp
    rfl
 unfold Oper.wp execOp
 simp only[g,he,Instr.panic]
 exact q _ _ ⟨⟨γ,Φ,j,λi=>.any _⟩,z,hd,A⟩
variable {k:Nat}{Q:Exit->St->Prop}
def J9m(X:XO)(o:Oper)(v:Value)(H':List AObj):Option St->Prop
 | some σ=>Q7k X o σ.t σ.h v H'
 | none=>False
theorem Z5j(o:Oper)(v:Value)(H':List AObj)(σ:St):J9m X o v H' (some σ)=Q7k X o σ.t σ.h v H':=rfl
theorem AW.regS(hS:Q2d E O)(hX:Q7l E X){id n:Nat}{t:Nat->AV}{h:List AObj}{ops:Array Oper}(i:Nat){o:Oper}{j:List Oper}{v:Value}{H':List AObj}(l:ops.toList.drop i=o::j)
 (b:J9m X o v H' (arun E O ops (ops.toList.take i) ⟨t,n,h⟩)) (m:Q (.panic [{ v:=v,recovered:=false }]) ⟨λ_=>.any,n,H'⟩):AW E k (.region id ops false) Q ⟨t,n,h⟩:=by
 generalize d:arun E O ops (ops.toList.take i) ⟨t,n,h⟩=x at b
 cases x with
 | none=>exact b.elim
 | some σ'=>
   have p:=J1q d
   intro γ₀ H₀ Φ₀ w₀ a w z q
   refine G8b ?_
   rw[<-G2t i ops.toList]
   refine Z1o hS _ _ a w d q (λf w' r=>?_)
   rw[l]
   refine G7o λK A=>?_
   obtain⟨u,y⟩:=X0v (Q:=λe f w'=>∃σ',Rel E γ₀ H₀ Φ₀ w₀ σ' f w'/\Q e σ') hX b (ops:=ops) (λ_ _=>rfl) r (λC D g=>⟨_,by rw[p]at g;exact g,m⟩) K
   rw[if_pos u]
   exact y
def X6t(ops:Array Oper)(n b:Nat)(d:List Nat):Bool:=Z3s ops n [] [[]] 0 (toF [] (d.map λj=>(j,0))) [b]&&decide (b<ops.size)
theorem AW.dregS(x:E.P.follows .mixedOrders=true)(hS:Q2d E O)(hX:Q7l E X){id n:Nat}{L0:List (Nat×AV)}{h:List AObj}{ops:Array Oper}(d:Nat)(i:List Nat)(l:List AV)(LF:List (Nat×AV))(y:Q7g ops l++L0=LF)(f:X6t ops n d i=true)
 {o:Oper} (z:ops[d]?=some o) (A:Q5f E O ops (sl LF) n l [h] [] (i.map λj=>(j,0))) {v:Value} {H':List AObj} (C:Q7k X o (sl LF) h v H') (D:Q (.panic [{ v:=v,recovered:=false }]) ⟨λ_=>.any,n,H'⟩):
 AW E k (.region id ops true) Q ⟨sl L0,n,h⟩:=by
 subst y
 unfold X6t at f
 simp only[G0d,G0l]at f
 refine AW.dregX x hS f.1 rfl A.two (λj o' F b γ₀ H₀ Φ₀ w₀ σ p w' K q r u I=>?_) (λJ=>absurd (J d (G1g ..)) (by omega))
 rw[G1p.1 F,z]at b
 injection b with b
 subst b
 obtain⟨t,m,g⟩:=σ
 simp only[G5i]at q r u
 subst q r
 exact X0v (Q:=λe p w'=>∃σ',Rel E γ₀ H₀ Φ₀ w₀ σ' p w'/\Q e σ') hX C (ops:=ops) u I (λN S M=>⟨_,M,D⟩) K
def Z0j:List AV->Bool
 | []=>true
 | .pv _::r=>Z0j r
 | _=>false
def arg0:List AV->Bool
 | .ref 0 _::r=>Z0j r
 | _=>false
def obj0:AObj->Bool
 | .var cs=>Z0j cs
 | .gone=>true
 | _=>false
theorem Z3q{H:List AObj}:∀ {az:List AV},Z0j az=true->Q1t H az=[]
 | [],_=>rfl
 | .pv p::r,h=>by
   simp only[Q1t,toPV]
   rw[Z3q (az:=r) h]
   rfl
theorem Q7r:∀ {az:List AV},Z0j az=true->Q5c az=[]
 | [],_=>rfl
 | .pv p::r,h=>by
   simp only[Q5c]
   exact Q7r (az:=r) h
theorem Z7u{H:List AObj}{f:Nat->Option Nat}:∀ {az:List AV},Z0j az=true->Q1a H f az=some az
 | [],_=>rfl
 | .pv p::r,h=>by
   simp only[Q1a,toPV]
   rw[Z7u (az:=r) h]
theorem Z3p{f:Nat->Option Nat}:∀ {az:List AV},Z0j az=true->renL f az=some az
 | [],_=>rfl
 | .pv p::r,h=>by
   simp only[renL,AV.ren]
   rw[Z3p (az:=r) h]
theorem Q5r{f:Nat->Nat}:∀ {az:List AV},Z0j az=true->az.map (AV.mapL f)=az
 | [],_=>rfl
 | .pv p::r,h=>by
   simp only[G2i,AV.mapL]
   rw[Q5r (az:=r) h]
theorem X1q{f:Nat->Option Nat}{o:AObj}(h:obj0 o=true):o.ren f=some o:=by
 cases o with
 | var cs=>simp only[AObj.ren,Z3p (az:=cs) h,G1s]
 | gone=>rfl
 | _=>cases h
theorem K3s{f:Nat->Nat}{o:AObj}(h:obj0 o=true):o.mapL f=o:=by
 cases o with
 | var cs=>simp only[AObj.mapL,Q5r (az:=cs) h]
 | gone=>rfl
 | _=>cases h
theorem J1c{o:AObj}{rest:List AObj}(h:obj0 o=true):Q1k (o::rest) [0]=[]:=by
 cases o with
 | var cs=>simp only[Q1k,G0s,Q7r (az:=cs) h,G0n]
 | gone=>rfl
 | _=>cases h
theorem back0{o o':AObj}{rest:List AObj}(h:obj0 o'=true):Q0r (o::rest) [0] [o']=o'::rest:=by
 unfold Q0r
 rw[show List.drop [0].length [o']=[] from rfl,G3q,G0n]
 refine G5x (by simp) λk d b=>?_
 rw[G6n,G5z]
 cases k with
 | zero=>exact K3s h
 | succ k=>
   have:idx [0] (k+1)=none:=by
    simp[idx]
   rw[this]
   have hk:k<rest.length:=by simpa using b
   simp[hk]
theorem Q9d{O:Orc}{f:FuncId}{args:List AV}{o o':AObj}{rs:List AV}(h:O.C f args [o]=some (rs,[o']))(b:arg0 args=true)(d:obj0 o=true)(e:Z0j rs=true)(g:obj0 o'=true)(rest:List AObj):Q4u O (o::rest) f args=some (Q6w rs,o'::rest):=by
 match args,b with
 | .ref 0 k::az,b=>
   have i:Q1t (o::rest) (.ref 0 k::az)=[0]:=by
    simp only[Q1t,toPV]
    rw[Z3q (az:=az) b]
    rfl
   unfold Q4u
   simp only[i,J1c d,G0n]
   have j:Q6f [0]=[0]:=rfl
   simp only[j,Q1c,G0s,G0a,X1q d,Q1a,toPV,AV.ren,idx,if_true,G1s,Z7u (az:=az) b,h,G0i,G0z,G0r,back0 g,Q5r e]
theorem Q6g{X:XO}{f:FuncId}{args:List AV}{o:AObj}{v:Value}(h:X f args [o]=some v)(b:arg0 args=true)(d:obj0 o=true)(rest:List AObj):Z9y X (o::rest) f args=some (v,xg o::rest):=by
 match args,b with
 | .ref 0 k::az,b=>
   have e:Q1t (o::rest) (.ref 0 k::az)=[0]:=by
    simp only[Q1t,toPV]
    rw[Z3q (az:=az) b]
    rfl
   have g:obj0 (xg o)=true:=by cases o<;>first|rfl|exact d
   unfold Z9y
   simp only[e,J1c d,G0n]
   have i:Q6f [0]=[0]:=rfl
   simp only[i,Q1c,G0s,G0a,X1q d,Q1a,toPV,AV.ren,idx,if_true,G1s,Z7u (az:=az) b,h,G2i,G3q,back0 g]
theorem J9f{A B C:Prop}(a:A)(b:B)(c:C):A/\B/\C:=⟨a,b,c⟩
theorem ordp{pf:FuncId->Bool}(h:O.pf=pf){ops:Array Oper}(e:Z8c pf ops=true):Z8c O.pf ops=true:=by rw[h];exact e
theorem ordB{pf:FuncId->Bool}(h:O.pf=pf){B:Z1z}{ops:Array Oper}(e:Q4e pf B ops=true):Q4e O.pf B ops=true:=by rw[h];exact e
end
end Go.Abs
namespace Go.Abs
open Go Go.RowKit
section
variable {P:Program}{c:Code}{Q:Exit->Act->World->Prop}
theorem J0i(b:Frame)(k:List Item)(cs:List Frame):∀n a w,Code.rounds P c Q n a w->∃e i w',Q e i w'/\Arrives P (lone (b.at a (.code c::.inLoop c::k)) cs w) b k cs e i w':=by
 intro n
 induction n with
 | zero=>intro a w h;exact h.elim
 | succ n j=>
   intro a w h
   obtain⟨e,d,f,hq,g⟩:=h b (.inLoop c::k) cs
   cases e with
   | normal=>
     obtain⟨m,o,w₂,hq₂,p⟩:=j d f hq
     exact⟨m,o,w₂,hq₂,.of_steps (Steps.trans g (.one step_inLoop)) p⟩
   | exit id=>exact⟨_,d,f,hq,.pass (x:=.inLoop c) rfl (λ_ _=>.inl (by simp)) g⟩
   | goto l=>exact⟨_,d,f,hq,.pass (x:=.inLoop c) rfl (λ_ _=>.inl (by simp)) g⟩
   | ret=>exact⟨_,d,f,hq,.pass (x:=.inLoop c) rfl (λ_ _=>.inl (by simp)) g⟩
   | panic q=>exact⟨_,d,f,hq,.pass (x:=.inLoop c) rfl (λ_ _=>.inl (by simp)) g⟩
   | outgrown=>exact⟨_,d,f,hq,.pass (x:=.inLoop c) rfl (λ_ _=>.inl (by simp)) g⟩
theorem J2l{a:Act}{w:World}(h:c.wp P (Exit.then (λi w'=>∃n,Code.rounds P c Q n i w') Q) a w):(Code.loop c).wp P Q a w:=by
 intro b k cs
 obtain⟨e,d,f,hq,g⟩:=h b (.inLoop c::k) cs
 cases e with
 | normal=>
   obtain⟨n,j⟩:=hq
   obtain⟨m,o,w₂,hq₂,p⟩:=J0i b k cs n d f j
   exact⟨m,o,w₂,hq₂,.of_steps (.one G8r) (.of_steps (Steps.trans g (.one step_inLoop)) p)⟩
 | exit id=>exact⟨_,d,f,hq,.of_steps (.one G8r) (.pass (x:=.inLoop c) rfl (λ_ _=>.inl (by simp)) g)⟩
 | goto l=>exact⟨_,d,f,hq,.of_steps (.one G8r) (.pass (x:=.inLoop c) rfl (λ_ _=>.inl (by simp)) g)⟩
 | ret=>exact⟨_,d,f,hq,.of_steps (.one G8r) (.pass (x:=.inLoop c) rfl (λ_ _=>.inl (by simp)) g)⟩
 | panic q=>exact⟨_,d,f,hq,.of_steps (.one G8r) (.pass (x:=.inLoop c) rfl (λ_ _=>.inl (by simp)) g)⟩
 | outgrown=>exact⟨_,d,f,hq,.of_steps (b:=b) (k:=k) (cs:=cs) (e:=.outgrown) (.one G8r) (.pass (x:=.inLoop c) rfl (λ_ _=>.inl (by simp)) g)⟩
end
section
variable {E:Env}{k:Nat}{Q:Exit->St->Prop}
theorem AW.lp1{α:Type}(S:α->St)(p:α->Prop)(g:α->Nat){c:Code}{σ:St}(q:AW E k c (Z2e (λσ'=>∃b,p b/\Weak E k σ' (S b)) Q) σ)
 (r:∀a,p a->AW E k c (Z2e (λσ'=>∃b,p b/\Weak E k σ' (S b)/\g b<g a) Q) (S a)):AW E k (.loop c) Q σ:=by
 intro γ₀ H₀ Φ₀ w₀ a w i l
 have t:∀n x a w,g x<n->p x->Rel E γ₀ H₀ Φ₀ w₀ (S x) a w->Code.rounds E.P c (λe b w'=>∃σ',Rel E γ₀ H₀ Φ₀ w₀ σ' b w'/\Q e σ') n a w:=by
  intro n
  induction n with
  | zero=>intro x a w h;omega
  | succ n u=>
    intro x a w z y l
    rw[rounds_succ]
    refine wp_mono (r x y γ₀ H₀ Φ₀ w₀ a w i l) (λe b w' ⟨σ',d,f⟩=>?_)
    cases e with
    | normal=>
      obtain⟨j,m,o,A⟩:=f
      exact u j b w' (by omega) m (o γ₀ H₀ Φ₀ w₀ b w' i d)
    | _=>exact⟨σ',d,f⟩
 refine J2l (wp_mono (q γ₀ H₀ Φ₀ w₀ a w i l) (λe b w' ⟨σ',d,f⟩=>?_))
 cases e with
 | normal=>
   obtain⟨j,m,o⟩:=f
   exact⟨g j+1,t _ j b w' (by omega) m (o γ₀ H₀ Φ₀ w₀ b w' i d)⟩
 | _=>exact⟨σ',d,f⟩
end
def b8(n:Int):UInt8:=UInt8.ofNat n.toNat
section
variable {E:Env}{σ:St}{k:Nat}
theorem Weak.explode(l:Nat){n o:TypeId}{s:List UInt8}{sz:Nat}{xs:List PV}(S:σ.h[l]?=some (.prn n s o sz xs)):
 Weak E k σ ⟨σ.t,σ.n,σ.h.set l (.var [.selfp l,.vec σ.h.length s.length,.vec (σ.h.length+1) xs.length])++[.brow n s,.row o sz xs true]⟩:=by
 intro γ₀ H₀ Φ₀ w₀ a' w _ hR
 obtain⟨⟨γ,Φ,V,hs⟩,W,hd,ar⟩:=hR
 have D:=V.inv
 obtain⟨g,F,hO⟩:=D.gh S
 obtain⟨b,v0,v1,j,I,J,aw,hb,h0,az,Y,aA,aa⟩:=hO
 have ac:l<γ.length:=(G0j.1 F).1
 have ad:l<σ.h.length:=(G0j.1 S).1
 have K:=D.len
 have G0:(γ.set l ⟨g.v,[b]⟩++[⟨v1,v1.ownBlock.toList⟩,⟨j,j.ownBlock.toList⟩])[l]?=some ⟨g.v,[b]⟩:=by
  rw[G0q (by simpa using ac),G1u ac]
 have G1:(γ.set l ⟨g.v,[b]⟩++[⟨v1,v1.ownBlock.toList⟩,⟨j,j.ownBlock.toList⟩]:List Gh)[γ.length]?=some ⟨v1,v1.ownBlock.toList⟩:=by
  rw[G0w (by simp)]
  simp
 have G2:(γ.set l ⟨g.v,[b]⟩++[⟨v1,v1.ownBlock.toList⟩,⟨j,j.ownBlock.toList⟩]:List Gh)[γ.length+1]?=some ⟨j,j.ownBlock.toList⟩:=by
  rw[G0w (by simp)]
  simp
 have O0:(σ.h.set l (.var [.selfp l,.vec σ.h.length s.length,.vec (σ.h.length+1) xs.length])++[.brow n s,.row o sz xs true])[l]?=some (.var [.selfp l,.vec σ.h.length s.length,.vec (σ.h.length+1) xs.length]):=by
  rw[G0q (by simpa using ad),G1u ad]
 have O1:(σ.h.set l (.var [.selfp l,.vec σ.h.length s.length,.vec (σ.h.length+1) xs.length])++[.brow n s,.row o sz xs true]:List AObj)[σ.h.length]?=some (.brow n s):=by
  rw[G0w (by simp)]
  simp
 have O2:(σ.h.set l (.var [.selfp l,.vec σ.h.length s.length,.vec (σ.h.length+1) xs.length])++[.brow n s,.row o sz xs true]:List AObj)[σ.h.length+1]?=some (.row o sz xs true):=by
  rw[G0w (by simp)]
  simp
 have x:∀ {q:Nat} {r:Gh},γ.length<=q->(γ.set l ⟨g.v,[b]⟩++[⟨v1,v1.ownBlock.toList⟩,⟨j,j.ownBlock.toList⟩]:List Gh)[q]?=some r->(q=γ.length/\r=⟨v1,v1.ownBlock.toList⟩)\/(q=γ.length+1/\r=⟨j,j.ownBlock.toList⟩):=by
  intro q r hq d
  have h1:=(G0j.1 d).1
  simp only[G0g,G3y,G0i,G0z]at h1
  rcases(by omega:q=γ.length\/q=γ.length+1)with rfl|rfl
  ·rw[G1]at d
   injection d with d
   exact .inl ⟨rfl,d.symm⟩
  rw[G2]at d
  injection d with d
  exact .inr ⟨rfl,d.symm⟩
 have m0:b∈g.own:=by rw[J];simp
 have m1:∀c∈v1.ownBlock.toList,c∈g.own:=λc f=>by rw[J];exact G1l _ (G5p _ f)
 have m2:∀c∈j.ownBlock.toList,c∈g.own:=λc f=>by rw[J];exact G1l _ (G8s _ f)
 have ae:=aw
 rw[J]at ae
 obtain⟨nb,aG⟩:=G5r.1 ae
 obtain⟨_,_,ag⟩:=G6x.1 aG
 have ah:b∉v1.ownBlock.toList:=λh=>nb (G5p _ h)
 have ak:b∉j.ownBlock.toList:=λh=>nb (G8s _ h)
 have hk:Ok E γ σ.h Φ w (γ.set l ⟨g.v,[b]⟩++[⟨v1,v1.ownBlock.toList⟩,⟨j,j.ownBlock.toList⟩]) (σ.h.set l (.var [.selfp l,.vec σ.h.length s.length,.vec (σ.h.length+1) xs.length])++[.brow n s,.row o sz xs true]) Φ w:=by
  refine Ok.of D (λq=>q=l\/γ.length<=q) (by simp[K]) (by simp) (λq hq=>.inr hq) (λq hq=>?_) (λc=>c∈g.own) (λc=>⟨λf=>⟨l,g,.inl rfl,F,f⟩,λf=>?_⟩)
   (λ_ _ _=>rfl) (G0r _) rfl rfl rfl (λ_ _ h=>h) (λb q h _ W=>h) (λb q h=>D.phi b q h) (λ_ _ _ _=>rfl) (λq r hq d c f=>?_) (λp q gp r M hq y d T c f=>?_) (λq u hq A=>?_) (λq n a2 n1 hq N=>?_) (λhE q oq r hq m d=>?_)
  ·simp only[not_or,Nat.not_le]at hq
   exact⟨by rw[G0q (by simpa using hq.2),G2b (Ne.symm hq.1)],by rw[G0q (by simp;omega),G2b (Ne.symm hq.1)]⟩
  ·obtain⟨q,r,hq,d,aH⟩:=f
   rcases hq with rfl|hq
   ·rw[F]at d;injection d with d;subst d;exact aH
   rw[G2c hq]at d;cases d
  ·have am:c∈g.own:=by
    rcases hq with rfl|hq
    ·rw[G0]at d
     injection d with d
     subst d
     rw[G1p.1 f]
     exact m0
    rcases x hq d with⟨_,rfl⟩|⟨_,rfl⟩
    ·exact m1 c f
    exact m2 c f
   exact⟨.inl am,(D.own l g F c am).2⟩
  ·intro C
   rcases M with rfl|M<;>rcases hq with rfl|hq
   ·exact T rfl
   ·rw[G0]at y
    injection y with y
    subst y
    rw[G1p.1 f]at C
    rcases x hq d with⟨_,rfl⟩|⟨_,rfl⟩
    ·exact ah C
    exact ak C
   ·rw[G0]at d
    injection d with d
    subst d
    rw[G1p.1 C]at f
    rcases x M y with⟨_,rfl⟩|⟨_,rfl⟩
    ·exact ah f
    exact ak f
   rcases x M y with⟨rfl,rfl⟩|⟨rfl,rfl⟩<;>rcases x hq d with⟨rfl,rfl⟩|⟨rfl,rfl⟩
   ·exact T rfl
   ·exact ag c f c C rfl
   ·exact ag c C c f rfl
   exact T rfl
  ·refine .inl ?_
   rcases hq with rfl|hq
   ·unfold gv at A |-;rw[G0];rw[F]at A;exact A
   unfold gv at A;rw[G2c hq]at A;cases A
  ·rcases hq with rfl|hq
   ·unfold rowAt at N
    rw[S]at N
    cases N
   have:=Q9z N
   omega
  rcases hq with rfl|hq
  ·rw[O0]at m
   injection m with m
   subst m
   rw[G0]at d
   injection d with d
   subst d
   have G1':=G1
   have G2':=G2
   rw[K]at G1' G2'
   obtain⟨A1,c1,aL,aM⟩:=Q4d Y
   obtain⟨ao,U,_⟩:=aa
   obtain⟨A2,c2,aN,aO⟩:=Q5b U
   have aP:j=.slice A2 xs.length c2:=aN
   subst aL aP
   refine⟨b,_,[v0,_,_],I,rfl,hb,rfl,λi v c t f=>?_,az,λ_ _ _=>rfl⟩
   rcases i with _|_|_|i
   ·simp only[G0s,G0c]at t f
    subst t f
    rcases h0 with rfl|rfl
    ·exact⟨rfl,.selfp none q (λa e=>by cases e)⟩
    refine⟨rfl,.selfp _ q (λa e=>?_)⟩
    injection e with e
    subst e
    unfold gv
    rw[G0,<-I]
    rfl
   ·simp only[G0s,G1f,G0c]at t f
    subst t f
    refine⟨rfl,.vec A1 _ _ c1 n 1 s.length (by unfold rowAt;rw[O1];rfl) (G0r _) aM (λ_=>?_)⟩
    unfold gv
    rw[G1']
    rfl
   ·simp only[G0s,G1f,G0c]at t f
    subst t f
    refine⟨rfl,.vec A2 _ _ c2 o sz xs.length (Q3l (fz:=true) O2) (G0r _) aO (λ_=>?_)⟩
    unfold gv
    rw[G2']
    rfl
   simp at t
  rcases x hq d with⟨rfl,rfl⟩|⟨rfl,rfl⟩
  ·rw[K,O1]at m
   injection m with m
   subst m
   exact⟨Y,rfl,aA⟩
  rw[K,O2]at m
  injection m with m
  subst m
  obtain⟨ao,U,q2,q3,q4,q5,q6,q7,q8⟩:=aa
  exact⟨ao,U,q2,λz v c I f=>(q3 z v c I f).mono hE.phi hE.cell,q4,q5,q6,q7,q8⟩
 exact⟨⟨_,_,V.trans hk,λi=>(hs i).mono hk.evo⟩,W,hd,ar⟩
theorem Weak.implode(l i j:Nat){D S:TypeId}{s:List UInt8}{sz m1 m2:Nat}{xs:List PV}(hl:σ.h[l]?=some (.var [.selfp l,.vec i m1,.vec j m2]))
 (W:σ.h[i]?=some (.brow D s)) (U:σ.h[j]?=some (.row S sz xs true)) (bg:s.length=m1) (bh:xs.length=m2):
 Weak E k σ ⟨σ.t,σ.n,((σ.h.set l (.prn D s S sz xs)).set i (.moved D 1 s.length)).set j (.moved S sz xs.length)⟩:=by
 intro γ₀ H₀ Φ₀ w₀ a' w _ hR
 obtain⟨⟨γ,Φ,aw,hs⟩,hn,hd,aP⟩:=hR
 have t:=aw.inv
 obtain⟨g,F,hO⟩:=t.gh hl
 obtain⟨o,I,aS⟩:=t.gh W
 obtain⟨m,J,ay⟩:=t.gh U
 have az:l≠i:=λe=>by subst e;rw[hl]at W;cases W
 have aA:l≠j:=λe=>by subst e;rw[hl]at U;cases U
 have aB:i≠j:=λe=>by subst e;rw[W]at U;cases U
 obtain⟨b,T,vs,hv,ag,hb,aU,al,aD⟩:=hO
 obtain⟨Y,v1,v2,rfl⟩:∃Y v1 v2,vs=[Y,v1,v2]:=by
  rcases vs with _|⟨Y,_|⟨v1,_|⟨v2,_|⟨v3,r⟩⟩⟩⟩<;>simp at aU
  exact⟨Y,v1,v2,rfl⟩
 have r0:=(al 0 Y (.selfp l) rfl rfl).2
 obtain rfl:T=E.pT.getD 0:=aD.2 (.selfp l) (by simp) rfl
 have r1:v1=o.v:=by
  cases(al 1 v1 _ rfl rfl).2 with
  | vec A _ _ cap e aX len am hn hA ao=>
    have hre:rowAt σ.h i=some (D,1,s.length):=by unfold rowAt;rw[W];rfl
    rw[am]at hre
    injection hre with hre
    injection hre with _ hre
    injection hre with _ hre
    have:=ao (by omega)
    unfold gv at this
    rw[I]at this
    injection this with this
    exact this.symm
 have r2:v2=m.v:=by
  cases(al 2 v2 _ rfl rfl).2 with
  | vec A _ _ cap e aX len am hn hA ao=>
    have hre:=Q3l U
    rw[am]at hre
    injection hre with hre
    injection hre with _ hre
    injection hre with _ hre
    have:=ao (by omega)
    unfold gv at this
    rw[J]at this
    injection this with this
    exact this.symm
 subst r1 r2
 obtain⟨a0,ah,a1⟩:=aS
 have ak:m.own=m.v.ownBlock.toList:=by
  obtain⟨_,_,_,_,_,_,h,_⟩:=ay
  exact h
 have bk:l<γ.length:=(G0j.1 F).1
 have bl:i<γ.length:=(G0j.1 I).1
 have bm:j<γ.length:=(G0j.1 J).1
 have aE:=t.len
 have aF:∀ {α:Type} (X:List α) (x y z:α) (q:Nat),X.length=γ.length->(((X.set l x).set i y).set j z)[q]?=if q=l then some x else if q=i then some y else if q=j then some z else X[q]?:=by
  intro α X x y z q hX
  by_cases V:q=l
  ·subst V
   rw[if_pos rfl,G2b (Ne.symm aA),G2b (Ne.symm az),G1u (by omega)]
  rw[if_neg V]
  by_cases K:q=i
  ·subst K
   rw[if_pos rfl,G2b (Ne.symm aB),G1u (by simp;omega)]
  rw[if_neg K]
  by_cases h3:q=j
  ·subst h3
   rw[if_pos rfl,G1u (by simp;omega)]
  rw[if_neg h3,G2b (Ne.symm h3),G2b (Ne.symm K),G2b (Ne.symm V)]
 have GG:=λq=>aF γ ⟨g.v,b::(o.v.ownBlock.toList++m.v.ownBlock.toList)⟩ ⟨o.v,[]⟩ ⟨m.v,[]⟩ q rfl
 have HH:=λq=>aF σ.h (.prn D s S sz xs) (.moved D 1 s.length) (.moved S sz xs.length) q aE.symm
 have d1:=t.disj l i g o F I az
 have d2:=t.disj l j g m F J aA
 have d3:=t.disj i j o m I J aB
 rw[ag,ah]at d1
 rw[ag,ak]at d2
 rw[ah,ak]at d3
 have nd:∀v:Value,v.ownBlock.toList.Nodup:=λv=>by cases v.ownBlock<;>simp
 have a2:(b::(o.v.ownBlock.toList++m.v.ownBlock.toList)).Nodup:=by
  refine G5r.2 ⟨λh=>?_,G6x.2 ⟨nd _,nd _,λx hx y hy e=>d3 x hx (e▸hy)⟩⟩
  rcases G2z.1 h with h|h
  ·exact d1 b (by simp) h
  exact d2 b (by simp) h
 have hk:Ok E γ σ.h Φ w (((γ.set l ⟨g.v,b::(o.v.ownBlock.toList++m.v.ownBlock.toList)⟩).set i ⟨o.v,[]⟩).set j ⟨m.v,[]⟩) (((σ.h.set l (.prn D s S sz xs)).set i (.moved D 1 s.length)).set j (.moved S sz xs.length)) Φ w:=by
  refine Ok.of t (λq=>q=l\/q=i\/q=j\/γ.length<=q) (by simp[aE]) (by simp) (λq hq=>.inr (.inr (.inr hq))) (λq hq=>?_) (λc=>c∈g.own\/c∈o.own\/c∈m.own) (λc=>⟨λf=>?_,λf=>?_⟩)
   (λ_ _ _=>rfl) (G0r _) rfl rfl rfl (λ_ _ h=>h) (λb q h _ hn=>h) (λb q h=>t.phi b q h) (λ_ _ _ _=>rfl) (λq gq hq d c f=>?_) (λp q gp gq hp hq C d a6 c f=>?_) (λq u hq M=>?_) (λq D bo n1 hq N=>?_) (λhE q oq gq hq n d=>?_)
  ·simp only[not_or]at hq
   rw[GG,HH,if_neg hq.1,if_neg hq.2.1,if_neg hq.2.2.1,if_neg hq.1,if_neg hq.2.1,if_neg hq.2.2.1]
   exact⟨rfl,rfl⟩
  ·rcases f with f|f|f
   ·exact⟨l,g,.inl rfl,F,f⟩
   ·exact⟨i,o,.inr (.inl rfl),I,f⟩
   exact⟨j,m,.inr (.inr (.inl rfl)),J,f⟩
  ·obtain⟨q,gq,hq,d,ar⟩:=f
   rcases hq with rfl|rfl|rfl|hq
   ·rw[F]at d;injection d with d;subst d;exact .inl ar
   ·rw[I]at d;injection d with d;subst d;exact .inr (.inl ar)
   ·rw[J]at d;injection d with d;subst d;exact .inr (.inr ar)
   rw[G2c hq]at d;cases d
  ·rw[GG]at d
   split at d
   ·injection d with d
    subst d
    rcases G1j.1 f with rfl|f
    ·exact⟨.inl (.inl (by rw[ag];simp)),(t.own l g F c (by rw[ag];simp)).2⟩
    rcases G2z.1 f with f|f
    ·exact⟨.inl (.inr (.inl (by rw[ah];exact f))),(t.own i o I c (by rw[ah];exact f)).2⟩
    exact⟨.inl (.inr (.inr (by rw[ak];exact f))),(t.own j m J c (by rw[ak];exact f)).2⟩
   split at d
   ·injection d with d;subst d;cases f
   split at d
   ·injection d with d;subst d;cases f
   rcases hq with h|h|h|h
   ·contradiction
   ·contradiction
   ·contradiction
   rw[G2c h]at d;cases d
  ·rw[GG]at C d
   intro aN
   split at C
   ·split at d
    ·rename_i V K
     exact a6 (V.trans K.symm)
    split at d
    ·injection d with d;subst d;cases aN
    split at d
    ·injection d with d;subst d;cases aN
    rcases hq with h|h|h|h
    ·contradiction
    ·contradiction
    ·contradiction
    rw[G2c h]at d;cases d
   split at C
   ·injection C with C;subst C;cases f
   split at C
   ·injection C with C;subst C;cases f
   rcases hp with h|h|h|h
   ·contradiction
   ·contradiction
   ·contradiction
   rw[G2c h]at C;cases C
  ·refine .inl ?_
   unfold gv at M |-
   rw[GG]
   split
   ·rename_i h;subst h;rw[F]at M;exact M
   split
   ·rename_i h;subst h;rw[I]at M;exact M
   split
   ·rename_i h;subst h;rw[J]at M;exact M
   exact M
  ·have same:gv (((γ.set l ⟨g.v,b::(o.v.ownBlock.toList++m.v.ownBlock.toList)⟩).set i ⟨o.v,[]⟩).set j ⟨m.v,[]⟩) q=gv γ q:=by
    unfold gv
    rw[GG]
    split
    ·rename_i h;subst h;rw[F];rfl
    split
    ·rename_i h;subst h;rw[I];rfl
    split
    ·rename_i h;subst h;rw[J];rfl
    rfl
   refine⟨n1,?_,G0r _,λ_=>same⟩
   unfold rowAt at N |-
   rw[HH]
   split
   ·rename_i h;subst h;rw[hl]at N;cases N
   split
   ·rename_i h;subst h;rw[W]at N;exact N
   split
   ·rename_i h;subst h;rw[U]at N;exact N
   exact N
  rw[GG]at d
  rw[HH]at n
  split at d
  ·rename_i h
   rw[if_pos h]at n
   injection d with d
   injection n with n
   subst d n
   refine⟨b,Y,o.v,m.v,hv,rfl,a2,hb,?_,aD.1,a0,a1,?_⟩
   ·cases r0 with
    | selfp A _ h=>
      cases A with
      | none=>exact .inl rfl
      | some a=>
        have:=h a rfl
        unfold gv at this
        rw[F,G1s,hv]at this
        injection this with this
        exact .inr this.symm
   obtain⟨a8,q1,q2,q3,q4,q5,q6,q7,q8⟩:=ay
   exact⟨a8,q1,q2,λz v c hv f=>(q3 z v c hv f).mono hE.phi hE.cell,q4,q5,rfl,q7,q8⟩
  rename_i V
  rw[if_neg V]at n
  split at d
  ·rename_i K
   rw[if_pos K]at n
   injection n with n
   subst n
   trivial
  rename_i K
  rw[if_neg K]at n
  split at d
  ·rename_i h3
   rw[if_pos h3]at n
   injection n with n
   subst n
   trivial
  rcases hq with h|h|h|h
  ·contradiction
  ·contradiction
  ·contradiction
  rw[G2c h]at d;cases d
 exact⟨⟨_,_,aw.trans hk,λi=>(hs i).mono hk.evo⟩,hn,hd,aP⟩
theorem Weak.slotPV(i:Nat){a:AV}{p:PV}(d:σ.t i=a)(e:toPV σ.h a=some p):Weak E k σ ⟨upd σ.t i (.pv p),σ.n,σ.h⟩:=by
 intro γ₀ H₀ Φ₀ w₀ l w _ f
 obtain⟨⟨γ,Φ,b,hs⟩,g,hd,j⟩:=f
 refine⟨⟨γ,Φ,b,λq=>?_⟩,g,hd,j⟩
 by_cases hq:q=i
 ·subst hq
  have h:=hs q
  rw[d]at h
  simp only[upd,if_true]
  exact .pv (Q2b b.inv h e)
 simp only[upd,if_neg hq]
 exact hs q
end
def apS(b s:List UInt8):Option (List UInt8):=if b.length+s.length<=140737488355328 then some (b++s)else none
theorem Y8p{b s v:List UInt8}(h:apS b s=some v):v=b++s:=by
 unfold apS at h
 split at h
 ·injection h with h
  exact h.symm
 cases h
theorem X5e{E:Env}{H:List AObj}{d f e:TypeId}{l g i j m:Nat}{n o:Option (List PV)}{b s v:List UInt8}(p:E.T d=some ⟨.slice e,g,i,n⟩)(q:E.T f=some ⟨.str,j,m,o⟩)(r:E.T e=some ⟨.int .u8,1,1,some [.int .u8 0]⟩)
 {H':List AObj} (t:H[l]?=some (.brow e b)) (u:H.set l (.brow e v)=H') (h:apS b s=some v):Q6p E H d f (.vec l b.length) (.pv (.str s))=some (.vec l v.length,H'):=by
 unfold apS at h
 split at h
 ·rename_i x
  injection h with h
  subst h
  simp only[Q6p,p,q,r,t]
  rw[if_pos ⟨trivial,trivial,x⟩,G0g,u]
 cases h
end Go.Abs
