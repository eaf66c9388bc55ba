import Derived.Test.YtljahlbklgnfhaaGreatDoorA54
import Derived.Test.YtljahlbklgnfhaaGreatDoorA39
import Derived.Test.YtljahlbklgnfhaaGreatDoorA45
import Derived.LoopN
set_option linter.unusedVariables false
set_option linter.unusedSimpArgs false
set_option linter.defProp false
namespace Go.Abs
open Go.RowKit
def Q0c(E:Env)(S:Spec):Prop:=K4m E S/\Z6t E S.f
def X3u(L:List Spec)(f:FuncId):Option Spec:=L.find? λS=>S.f==f
open Classical in
noncomputable def cL(E:Env)(L:List Spec)(f:FuncId)(args:List AV)(H:List AObj):Option Out:=
 match X3u L f with
 | some S=>if Q0c E S then S.c args H else none
 | none=>none
noncomputable def oL(E:Env)(pf:FuncId->Bool)(L:List Spec):Orc:={ C:=λf args H=>match cL E L f args H with|some (.ret rs H')=>some (rs,H')|_=>none,pf:=pf }
noncomputable def xL(E:Env)(L:List Spec):XO:=λf args H=>match cL E L f args H with|some (.boom v)=>some v|_=>none
def AllG(E:Env):List Spec->Prop
 | []=>True
 | S::L=>Q0c E S/\AllG E L
def Kn(O:Orc)(X:XO)(f:FuncId)(S:Spec):Prop:=∀x r,S.F x=some r->Says O X f (S.A x).1 (S.A x).2 (S.R x r)
def Q1b(L:List Spec)(i f:Nat):Option Spec:=match L[i]? with
 | some S=>if S.f==f&&(L.take i).all (λT=>!(T.f==f))then some S else none
 | none=>none
section
variable {E:Env}{L:List Spec}{pf:FuncId->Bool}
theorem X4k{f:FuncId}{args:List AV}{H:List AObj}{o:Out}(h:cL E L f args H=some o):J5p E f args H o/\Z6t E f:=by
 unfold cL X3u at h
 split at h
 ·rename_i S hS
  have d:S.f=f:=by simpa using G7a hS
  split at h
  ·rename_i b
   subst d
   exact⟨b.1.c args H o h,b.2⟩
  cases h
 cases h
theorem X7f:Q1p E (oL E pf L):=by
 intro f args H rs H' b
 simp only[oL]at b
 split at b
 ·rename_i e Hs d
  simp only[G0b,G1d]at b
  obtain⟨rfl,rfl⟩:=b
  exact X4k d
 cases b
theorem X6k:Q6x E (xL E L):=by
 intro f args H v b
 simp only[xL]at b
 split at b
 ·rename_i u d
  injection b with b
  subst b
  exact X4k d
 cases b
theorem J7q:∀ {L:List Spec} {i:Nat} {S:Spec},AllG E L->L[i]?=some S->Q0c E S
 | _::_,0,_,h,b=>by
   simp only[G0n,G0b]at b
   subst b
   exact h.1
 | _::L,i+1,_,h,b=>J7q (L:=L) (i:=i) h.2 (by simpa using b)
theorem Z8m{f:Nat}{S:Spec}(hS:(S.f==f)=true):∀ {L:List Spec} {i:Nat},L[i]?=some S->(L.take i).all (λT=>!(T.f==f))=true->X3u L f=some S
 | T::L,0,b,_=>by
   simp only[G0n,G0b]at b
   subst b
   unfold X3u
   rw[List.find?_cons,hS]
 | T::L,i+1,b,d=>by
   simp only[G3r,G7f,G0k,G4q]at d
   unfold X3u
   rw[List.find?_cons,d.1]
   exact Z8m hS (L:=L) (i:=i) (by simpa using b) d.2
theorem orcs(l:AllG E L):∃ (O:Orc) (X:XO),Q1p E O/\Q6x E X/\O.pf=pf/\∀ (i f:Nat) {S:Spec},Q1b L i f=some S->Kn O X f S:=by
 refine⟨oL E pf L,xL E L,X7f,X6k,rfl,λi f S b x r m=>?_⟩
 unfold Q1b at b
 split at b
 ·rename_i d j
  split at b
  ·rename_i e
   simp only[G0b]at b
   subst b
   simp only[G0k]at e
   have hG:=J7q l j
   have g:cL E L f (d.A x).1 (d.A x).2=some (d.R x r):=by
    unfold cL
    rw[Z8m e.1 j e.2]
    simp only
    rw[if_pos hG,d.c_at,m]
    rfl
   generalize n:d.R x r=o at g
   cases o with
   | ret rs H'=>simp only[Says,oL,g]
   | boom v=>simp only[Says,xL,g]
  cases b
 cases b
theorem Kn.ret{O:Orc}{X:XO}{f:FuncId}{S:Spec}(k:Kn O X f S)(x:S.α){r:S.ρ}(q:S.F x=some r){args:List AV}{H:List AObj}{rs:List AV}{H':List AObj}(b:S.A x=(args,H))(d:S.R x r=.ret rs H'):O.C f args H=some (rs,H'):=by
 have h:=k x r q
 rw[b,d]at h
 exact h
theorem Kn.boom{O:Orc}{X:XO}{f:FuncId}{S:Spec}(k:Kn O X f S)(x:S.α){r:S.ρ}(q:S.F x=some r){args:List AV}{H:List AObj}{v:Value}(b:S.A x=(args,H))(d:S.R x r=.boom v):X f args H=some v:=by
 have h:=k x r q
 rw[b,d]at h
 exact h
theorem pft{O:Orc}(h:O.pf=pf)(f:FuncId){b:Bool}(e:pf f=b):O.pf f=b:=by rw[h];exact e
theorem J5p.startE{f:FuncId}{fn:Func}{c:Code}(b:E.P.funcs[f]?=some fn)(hb:fn.body=some c){args:List AV}{H:List AObj}{out:Out}(d:args.length<=fn.ntmps)(e:List Nat)(hd0:E.dfs=[])
 (h:AW E H.length c (retB E fn H.length e H out) ⟨Z3p args,fn.ntmps,H⟩):J5p E f args H out:=by
 cases out with
 | ret rs H'=>exact Good.of_body b hb d e hd0 h
 | boom v=>exact J1e.of_body b hb d hd0 h
theorem GH{S:Spec}{fn:Func}{c:Code}(b:E.P.funcs[S.f]?=some fn)(e:(fn.name=="runtime.NumGoroutine")=false)(hb:fn.body=some c)(N:Nat)(f:fn.ntmps=N)(d:List Nat)(hd0:E.dfs=[])
 (h:∀ (x:S.α) (r:S.ρ),S.F x=some r->∀m,(S.A x).2.length=m->(decide ((S.A x).1.length<=N)=true/\AW E m c (retB E fn m d (S.A x).2 (S.R x r)) ⟨sl (enum 0 (S.A x).1),N,(S.A x).2⟩)):Q0c E S:=by
 refine⟨λx r g=>?_,fn,b,(by rw[hb];rfl),e⟩
 obtain⟨i,j⟩:=h x r g _ rfl
 subst f
 refine J5p.startE b hb (G3y i) d hd0 ?_
 rw[Z6f]
 exact j
theorem GHs{S:Spec}{x:S.α}{r:S.ρ}{m N:Nat}{fn:Func}{c:Code}{b:List Nat}{args:List AV}{H:List AObj}{out:Out}(d:S.A x=(args,H))(e:S.R x r=out)(f:(S.A x).2.length=m){M:Nat}(g:H.length=M)(i:decide (args.length<=N)=true){L:List (Nat×AV)}(j:enum 0 args=L)
 (h:AW E M c (retB E fn M b H out) ⟨sl L,N,H⟩):decide ((S.A x).1.length<=N)=true/\AW E m c (retB E fn m b (S.A x).2 (S.R x r)) ⟨sl (enum 0 (S.A x).1),N,(S.A x).2⟩:=by
 subst f
 rw[d,e]
 subst j g
 exact⟨i,h⟩
theorem GH0{S:Spec}(hb:Z6t E S.f)(h:∀x,S.F x=none):Q0c E S:=
 ⟨λx r b=>absurd b (by rw[h x];exact nofun),hb⟩
def pick:List Nat->(Nat->AV)->List (Nat×AV)
 | [],_=>[]
 | k::ks,t=>(k,t k)::pick ks t
theorem Q3v(t:Nat->AV):pick [] t=[]:=rfl
theorem Q2w(k:Nat)(ks:List Nat)(t:Nat->AV):pick (k::ks) t=(k,t k)::pick ks t:=rfl
theorem Q9k{t:Nat->AV}:∀ks,Q8l t (pick ks t)
 | []=>trivial
 | _::ks=>⟨rfl,Q9k ks⟩
def Q2e(ks:List Nat)(L:List (Nat×AV))(h':List AObj):Option St->Prop
 | some σ=>pick ks σ.t=L/\σ.h=h'
 | none=>False
theorem Q2i(ks:List Nat)(L:List (Nat×AV))(h':List AObj)(σ:St):Q2e ks L h' (some σ)=(pick ks σ.t=L/\σ.h=h'):=rfl
theorem Q2e.of{ks:List Nat}{L:List (Nat×AV)}{h':List AObj}{x:Option St}(h:Q2e ks L h' x):Leaves L h' x:=by
 cases x with
 | none=>exact h.elim
 | some σ=>
   obtain⟨b,d⟩:=h
   subst b
   exact⟨Q9k ks,d⟩
variable {k:Nat}{Q:Exit->St->Prop}{O:Orc}
theorem AW.rg(hS:Q1p E O)(ks:List Nat){id n:Nat}{t:Nat->AV}{h:List AObj}{ops:Array Oper}{L:List (Nat×AV)}{h':List AObj}(b:Q2e ks L h' (arun E O ops ops.toList ⟨t,n,h⟩))(d:Q .normal ⟨sl L,n,h'⟩):AW E k (.region id ops false) Q ⟨t,n,h⟩:=
 AW.reg hS L h' b.of d
theorem AW.dgk(b:E.P.follows .mixedOrders=true)(hS:Q1p E O)(ks:List Nat){id n:Nat}{t:Nat->AV}{h:List AObj}{ops:Array Oper}(d:Z5s O.pf ops=true){L:List (Nat×AV)}{h':List AObj}(e:Q2e ks L h' (arun E O ops ops.toList ⟨t,n,h⟩))(f:Q .normal ⟨sl L,n,h'⟩):AW E k (.region id ops true) Q ⟨t,n,h⟩:=
 AW.dreg b hS d L h' e.of f
theorem AW.dgB(b:E.P.follows .mixedOrders=true)(hS:Q1p E O)(B:Z0w)(ks:List Nat){id n:Nat}{t:Nat->AV}{h:List AObj}{ops:Array Oper}(d:(B.all λp=>J0y (t p.1) p.2)=true)(e:Q3x O.pf B ops=true){L:List (Nat×AV)}{h':List AObj}(f:Q2e ks L h' (arun E O ops ops.toList ⟨t,n,h⟩))(g:Q .normal ⟨sl L,n,h'⟩):AW E k (.region id ops true) Q ⟨t,n,h⟩:=
 AW.dregB b hS B d e L h' f.of g
theorem AW.st{c:Code}{L:List (Nat×AV)}{n:Nat}{h:List AObj}(b:AW E k c Q ⟨sl L,n,h⟩):AW E k c Q ⟨sl L,n,h⟩:=b
theorem AW.lp{α:Type}(S:α->St)(p:α->Prop)(b:α->Nat){c:Code}(d:α){σ:St}(f:Weak E k σ (S d))(g:p d)(i:∀a,p a->AW E k c (Z1b (λσ'=>∃e,p e/\Weak E k σ' (S e)/\b e<b a) Q) (S a)):AW E k (.loop c) Q σ:=
 AW.weak f (AW.loopI S p b d g i)
theorem AW.iff_{α:Type}{r:α}{b b':Bool}{u v:Option α}(h:(bif b then u else v)=some r){c:Operand}{x y:Code}{σ:St}(d:ev σ.t c=.pv (.bool b'))(hb:b'=b)(e:b=true->u=some r->AW E k x Q σ)(f:b=false->v=some r->AW E k y Q σ):AW E k (.cond c x y) Q σ:=by
 subst hb
 exact AW.cond d (λhb=>e hb (K3z hb h)) (λhb=>f hb (K4a hb h))
theorem X7k{α:Type}(f:α->PV){s t:List α}{b d:Int}(h:Z5u s b d=some t):List.take (d.toNat-b.toNat) (List.drop b.toNat (List.map f s))=List.map f t/\List.take (d.toNat-b.toNat) (List.drop b.toNat s)=t:=by
 have e:=(Z1k h).2.2.2.2
 exact⟨by rw[e,List.map_take,List.map_drop],e.symm⟩
theorem Q9v{E:Env}{H:List AObj}{d e a b c:Nat}{z:Option (List PV)}{k1 k2:IntKind}{n:Int}(f:E.T d=some ⟨.slice e,a,b,z⟩)(g:E.T e=some ⟨.str,1,c,some [.str []]⟩)(i:0<=n)(hb:n.toNat * c<=140737488355328)(j:c≠0):
 Q4s E H d (.pv (.int k1 n)) (.pv (.int k2 n))=some (.vec H.length n.toNat,H++[.row e 1 (List.replicate n.toNat (.str [])) false]):=by
 unfold Q4s
 simp only[f,g,J6f]
 rw[if_pos ⟨i,G5e _,hb,j,by decide,rfl⟩]
theorem X2k{α:Type}{s t:List α}{d b:Int}(h:Z5u s d b=some t):(0<=d)=True/\(0<=b)=True/\(d.toNat<=b.toNat)=True/\(b.toNat<=s.length)=True:=
 ⟨(Z1k h).1,(Z1k h).2.1,(Z1k h).2.2.1,(Z1k h).2.2.2.1⟩
theorem V6k{α:Type}{sz:Nat}{xs ys v:List α}(h:appO sz xs ys=some v):v.length=xs.length+ys.length:=by
 rw[(X4p h).2,G0i]
theorem V6l{α:Type}(f:α->PV){sz:Nat}{xs ys v:List α}(h:appO sz xs ys=some v):List.map f xs++List.map f ys=List.map f v:=by
 rw[(X4p h).2,List.map_append]
end
end Go.Abs
namespace Go.Abs
open Go.RowKit
section
variable {E:Env}{O:Orc}{X:XO}{γ₀ γ:List Gh}{H H₀:List AObj}{Φ₀ Φ:Nat->Nat->Prop}{w w₀:World}{σ:St}{a:Act}
def Q6w(X:XO)(o:Oper)(t:Nat->AV)(h:List AObj)(v:Value)(H':List AObj):Prop:=
 o.guard=none/\((∃f args d,o.op=.call ⟨.value (.func f),args,d⟩/\Z7q X h f (args.toList.map (ev t))=some (v,H'))\/(∃x b k m,o.op=.panic x/\ev t x=.ifc b (.int k m)/\v=.iface b (.int k m)/\H'=h))
theorem Q6w.call{o:Oper}{t:Nat->AV}{h:List AObj}{v:Value}{H':List AObj}{f:FuncId}{args:Array Operand}{b:Array TypeId}(d:o.guard=none)(e:o.op=.call ⟨.value (.func f),args,b⟩)(g:Z7q X h f (args.toList.map (ev t))=some (v,H')):Q6w X o t h v H':=
 ⟨d,.inl ⟨f,args,b,e,g⟩⟩
theorem Q6w.panic{o:Oper}{t:Nat->AV}{h:List AObj}{b:TypeId}{k:IntKind}{m:Int}{x:Operand}(d:o.guard=none)(e:o.op=.panic x)(f:ev t x=.ifc b (.int k m)):Q6w X o t h (.iface b (.int k m)) h:=
 ⟨d,.inr ⟨x,b,k,m,e,f,rfl,rfl⟩⟩
theorem J7k{t b:Nat->AV}{ops:Array Oper}{o:Oper}(h:∀d∈o.looksAt ops,t d=b d):∀x∈o.op.operands,ev t x=ev b x:=by
 intro x e
 cases x with
 | tmp d=>exact h d (G4o _ (G3m.2 ⟨.tmp d,by simpa using e,rfl⟩))
 | _=>rfl
theorem J6p(hX:Q6x E X){ops:Array Oper}{o:Oper}{t:Nat->AV}{v:Value}{H':List AObj}{Q:Exit->Act->World->Prop}(hs:Q6w X o t σ.h v H')(n:∀d∈o.looksAt ops,σ.t d=t d)(C:Rel E γ₀ H₀ Φ₀ w₀ σ a w)
 (q:∀r w',Rel E γ₀ H₀ Φ₀ w₀ ⟨λ_=>.any,σ.n,H'⟩ r w'->Q (.panic [{ v:=v,recovered:=false }]) r w') (K:Act->World->Prop):Region.wanted o (yielded ops a.tmps)=true/\o.wp E.P a w K Q:=by
 obtain⟨D,hs⟩:=hs
 refine⟨by simp[Region.wanted,D],?_⟩
 obtain⟨⟨γ,Φ,j,s⟩,y,hd,z⟩:=C
 rcases hs with⟨f,args,ac,g,b⟩|⟨x,F,I,m,g,b,rfl,rfl⟩
 ·have J:args.toList.map (ev σ.t)=args.toList.map (ev t):=by
   refine G4j λx b=>J7k n x ?_
   have M:x∈args:=by simpa using b
   simp[g,Op.operands,Call.operands,M]
  rw[<-J]at b
  have N:(args.toList.map a.eval).length=(args.toList.map (ev σ.t)).length:=by simp
  have S:(⟨args.toList.map a.eval⟩:Array Value)=args.map a.eval:=by
   apply G5h
   simp
  obtain⟨⟨fn,T,hb,U⟩,A⟩:=Z5b hX j.inv N (Q7q s args) b
  unfold Oper.wp
  rw[Z4p g T hb U]
  rw[S]at A
  refine A.mono ?_
  rintro e ad ⟨V,Φ',rfl,W⟩
  exact q _ _ ⟨⟨V,Φ',j.trans W,λi=>.any _⟩,y,hd,z⟩
 have l:=Q0s s x
 rw[J7k n x (by simp[g,Op.operands]),b]at l
 have Y:a.eval x=.iface F (.int I m):=by
  generalize a.eval x=u at l
  cases l with
  | ifc t u p hp=>
    cases hp
    rfl
 unfold Oper.wp execOp
 simp only[g,Y,Instr.panic]
 exact q _ _ ⟨⟨γ,Φ,j,λi=>.any _⟩,y,hd,z⟩
variable {k:Nat}{Q:Exit->St->Prop}
def J5o(X:XO)(o:Oper)(v:Value)(H':List AObj):Option St->Prop
 | some σ=>Q6w X o σ.t σ.h v H'
 | none=>False
theorem Z3k(o:Oper)(v:Value)(H':List AObj)(σ:St):J5o X o v H' (some σ)=Q6w X o σ.t σ.h v H':=rfl
theorem AW.regS(hS:Q1p E O)(hX:Q6x E X){id n:Nat}{t:Nat->AV}{h:List AObj}{ops:Array Oper}(i:Nat){o:Oper}{j:List Oper}{v:Value}{H':List AObj}(l:ops.toList.drop i=o::j)
 (b:J5o X o v H' (arun E O ops (ops.toList.take i) ⟨t,n,h⟩)) (m:Q (.panic [{ v:=v,recovered:=false }]) ⟨λ_=>.any,n,H'⟩):AW E k (.region id ops false) Q ⟨t,n,h⟩:=by
 generalize d:arun E O ops (ops.toList.take i) ⟨t,n,h⟩=x at b
 cases x with
 | none=>exact b.elim
 | some σ'=>
   have p:=Z8v d
   intro γ₀ H₀ Φ₀ w₀ a w y q
   refine wp_region_list ?_
   rw[<-G1v i ops.toList]
   refine Z0m hS _ _ a w d q (λf w' r=>?_)
   rw[l]
   refine wpList_step λK z=>?_
   obtain⟨s,u⟩:=J6p (Q:=λe f w'=>∃σ',Rel E γ₀ H₀ Φ₀ w₀ σ' f w'/\Q e σ') hX b (ops:=ops) (λ_ _=>rfl) r (λa2 A g=>⟨_,by rw[p]at g;exact g,m⟩) K
   rw[if_pos s]
   exact u
def X0w(ops:Array Oper)(n b:Nat)(d:List Nat):Bool:=
 J2o ops n [] ((List.range ops.size).map λj=>(j,0))&&decide (b<ops.size)&&(List.range ops.size).all λj=>j==b||((ancs ops ops.size).getD j []).contains b||d.contains j
theorem AW.dregS(S:E.P.follows .mixedOrders=true)(hS:Q1p E O)(hX:Q6x E X){id n:Nat}{L0:List (Nat×AV)}{h:List AObj}{ops:Array Oper}(r:Nat)(C:List Nat)(val:List AV)(LF:List (Nat×AV))(T:Q4f ops val++L0=LF)(x:X0w ops n r C=true)
 {o:Oper} (U:ops[r]?=some o) (V:Q4p E O ops (sl LF) n val [h] [] (C.map λj=>(j,0))) {v:Value} {H':List AObj} (W:Q6w X o (sl LF) h v H') (Y:Q (.panic [{ v:=v,recovered:=false }]) ⟨λ_=>.any,n,H'⟩):
 AW E k (.region id ops true) Q ⟨sl L0,n,h⟩:=by
 subst T
 unfold X0w at x
 simp only[G0k,G0s]at x
 obtain⟨⟨aa,ac⟩,ad⟩:=x
 intro γ₀ H₀ Φ₀ w₀ a w hl hR
 refine wp_region_any S ?_
 have af:todo ops (Array.replicate ops.size false)=List.range ops.size:=by
  refine G5n.2 λi s=>?_
  simp[G1k.1 s]
 have u:∀i,(Array.replicate ops.size false).getD i false=false:=by
  intro i
  by_cases s:i<ops.size
  ·simp[s]
  simp[s]
 refine Z3q (val:=val) (hs:=[h]) hS (Z5q aa) (λj=>j==r) (λj p o' D hx hm l=>?_) (γ₀:=γ₀) (H₀:=H₀) (Φ₀:=Φ₀) (w₀:=w₀) (λj o' b l σ y w' K F I J M=>?_) (λj e _ z=>by cases z) (λaj y w' M=>?_) ops.size _ ⟨sl L0,n,h⟩ a _ 0 (by simp) (by rw[af];simp) (λj b=>by rw[u]at b;cases b) (G2l _) (λe z=>by simp at z) (λe _=>u e) rfl rfl
  (λj d b=>by rw[u]at b;cases b) (λi _=>rfl) (λj _=>u j) ?_
 ·have ak:j<ops.size:=(G1b.1 l).1
  have f:=G0t.1 ad j (G1k.2 ak)
  simp only[G2r]at f
  obtain⟨q,hq,N⟩:=G3i.1 hm
  simp only[G1d]at N
  obtain⟨rfl,rfl⟩:=N
  rcases f with(f|f)|f
  ·rw[f]at D
   cases D
  ·exact absurd (by simpa using f) (hx r (by simp))
  exact V.at (G3i.2 ⟨q,by simpa using f,rfl⟩) l
 ·simp only[G3h]at b
  subst b
  rw[U]at l
  injection l with l
  subst l
  obtain⟨t,m,g⟩:=σ
  simp only[G0j,G4x]at F I J
  subst F I
  exact J6p (Q:=λe y w'=>∃σ',Rel E γ₀ H₀ Φ₀ w₀ σ' y w'/\Q e σ') hX W (ops:=ops) J M (λa2 w2 al=>⟨_,al,Y⟩) K
 ·have:=aj r ac
  simp at this
 obtain⟨⟨γ,Φ,A,am⟩,ao,hd,aq⟩:=hR
 have hk:Ok E γ h Φ w γ h Φ { w with drawn:=w.drawn+1 }:=A.inv.grow (λ_ _=>rfl) (G0o _) rfl rfl rfl (λ_ _ h=>h) (λ_ _ h _=>h) A.inv.phi
 exact⟨⟨γ,Φ,A.trans hk,λi=>(am i).mono hk.evo⟩,ao,hd,aq⟩
def Q9q:List AV->Bool
 | []=>true
 | .pv _::r=>Q9q r
 | _=>false
def arg0:List AV->Bool
 | .ref 0 _::r=>Q9q r
 | _=>false
def obj0:AObj->Bool
 | .var cs=>Q9q cs
 | .gone=>true
 | _=>false
theorem Z2g{H:List AObj}:∀ {az:List AV},Q9q az=true->Q1l H az=[]
 | [],_=>rfl
 | .pv p::r,h=>by
   simp only[Q1l,toPV]
   rw[Z2g (az:=r) h]
   rfl
theorem Q7e:∀ {az:List AV},Q9q az=true->Q4n az=[]
 | [],_=>rfl
 | .pv p::r,h=>by
   simp only[Q4n]
   exact Q7e (az:=r) h
theorem Z5p{H:List AObj}{f:Nat->Option Nat}:∀ {az:List AV},Q9q az=true->Q0v H f az=some az
 | [],_=>rfl
 | .pv p::r,h=>by
   simp only[Q0v,toPV]
   rw[Z5p (az:=r) h]
theorem Z2f{f:Nat->Option Nat}:∀ {az:List AV},Q9q az=true->renL f az=some az
 | [],_=>rfl
 | .pv p::r,h=>by
   simp only[renL,AV.ren]
   rw[Z2f (az:=r) h]
theorem Q4y{f:Nat->Nat}:∀ {az:List AV},Q9q az=true->az.map (AV.mapL f)=az
 | [],_=>rfl
 | .pv p::r,h=>by
   simp only[G2g,AV.mapL]
   rw[Q4y (az:=r) h]
theorem J7a{f:Nat->Option Nat}{o:AObj}(h:obj0 o=true):o.ren f=some o:=by
 cases o with
 | var cs=>simp only[AObj.ren,Z2f (az:=cs) h,G0w]
 | gone=>rfl
 | _=>cases h
theorem X7e{f:Nat->Nat}{o:AObj}(h:obj0 o=true):o.mapL f=o:=by
 cases o with
 | var cs=>simp only[AObj.mapL,Q4y (az:=cs) h]
 | gone=>rfl
 | _=>cases h
theorem Z8g{o:AObj}{rest:List AObj}(h:obj0 o=true):Q1j (o::rest) [0]=[]:=by
 cases o with
 | var cs=>simp only[Q1j,G0n,Q7e (az:=cs) h,G1s]
 | gone=>rfl
 | _=>cases h
theorem back0{o o':AObj}{rest:List AObj}(h:obj0 o'=true):Q0q (o::rest) [0] [o']=o'::rest:=by
 unfold Q0q
 rw[show List.drop [0].length [o']=[] from rfl,G2h,G1s]
 refine G5a (by simp) λk d b=>?_
 rw[G4z,G4l]
 cases k with
 | zero=>exact X7e h
 | succ k=>
   have:idx [0] (k+1)=none:=by
    simp[idx]
   rw[this]
   have hk:k<rest.length:=by simpa using b
   simp[hk]
theorem Q3j{O:Orc}{f:FuncId}{args:List AV}{o o':AObj}{rs:List AV}(h:O.C f args [o]=some (rs,[o']))(b:arg0 args=true)(d:obj0 o=true)(e:Q9q rs=true)(g:obj0 o'=true)(rest:List AObj):Q0x O (o::rest) f args=some (Q1c rs,o'::rest):=by
 match args,b with
 | .ref 0 k::az,b=>
   have i:Q1l (o::rest) (.ref 0 k::az)=[0]:=by
    simp only[Q1l,toPV]
    rw[Z2g (az:=az) b]
    rfl
   unfold Q0x
   simp only[i,Z8g d,G1s]
   have j:Q5p [0]=[0]:=rfl
   simp only[j,Q1a,G0n,G0a,J7a d,Q0v,toPV,AV.ren,idx,if_true,G0w,Z5p (az:=az) b,h,G0h,G0j,G0o,back0 g,Q4y e]
theorem Q5q{X:XO}{f:FuncId}{args:List AV}{o:AObj}{v:Value}(h:X f args [o]=some v)(b:arg0 args=true)(d:obj0 o=true)(rest:List AObj):Z7q X (o::rest) f args=some (v,xg o::rest):=by
 match args,b with
 | .ref 0 k::az,b=>
   have e:Q1l (o::rest) (.ref 0 k::az)=[0]:=by
    simp only[Q1l,toPV]
    rw[Z2g (az:=az) b]
    rfl
   have g:obj0 (xg o)=true:=by cases o<;>first|rfl|exact d
   unfold Z7q
   simp only[e,Z8g d,G1s]
   have i:Q5p [0]=[0]:=rfl
   simp only[i,Q1a,G0n,G0a,J7a d,Q0v,toPV,AV.ren,idx,if_true,G0w,Z5p (az:=az) b,h,G2g,G2h,back0 g]
theorem J5j{A B C:Prop}(a:A)(b:B)(c:C):A/\B/\C:=⟨a,b,c⟩
theorem ordp{pf:FuncId->Bool}(h:O.pf=pf){ops:Array Oper}(e:Z5s pf ops=true):Z5s O.pf ops=true:=by rw[h];exact e
theorem ordB{pf:FuncId->Bool}(h:O.pf=pf){B:Z0w}{ops:Array Oper}(e:Q3x pf B ops=true):Q3x O.pf B ops=true:=by rw[h];exact e
end
end Go.Abs
namespace Go.Abs
open Go Go.RowKit
section
variable {P:Program}{c:Code}{Q:Exit->Act->World->Prop}
theorem Z7w(b:Frame)(k:List Item)(cs:List Frame):∀n a w,Code.rounds P c Q n a w->∃e i w',Q e i w'/\Arrives P (lone (b.at a (.code c::.inLoop c::k)) cs w) b k cs e i w':=by
 intro n
 induction n with
 | zero=>intro a w h;exact h.elim
 | succ n j=>
   intro a w h
   obtain⟨e,d,f,hq,g⟩:=h b (.inLoop c::k) cs
   cases e with
   | normal=>
     obtain⟨m,o,w₂,hq₂,p⟩:=j d f hq
     exact⟨m,o,w₂,hq₂,.of_steps (Steps.trans g (.one step_inLoop)) p⟩
   | exit id=>exact⟨_,d,f,hq,.pass (x:=.inLoop c) rfl (λ_ _=>.inl (by simp)) g⟩
   | goto l=>exact⟨_,d,f,hq,.pass (x:=.inLoop c) rfl (λ_ _=>.inl (by simp)) g⟩
   | ret=>exact⟨_,d,f,hq,.pass (x:=.inLoop c) rfl (λ_ _=>.inl (by simp)) g⟩
   | panic q=>exact⟨_,d,f,hq,.pass (x:=.inLoop c) rfl (λ_ _=>.inl (by simp)) g⟩
   | outgrown=>exact⟨_,d,f,hq,.pass (x:=.inLoop c) rfl (λ_ _=>.inl (by simp)) g⟩
theorem Z9q{a:Act}{w:World}(h:c.wp P (Exit.then (λi w'=>∃n,Code.rounds P c Q n i w') Q) a w):(Code.loop c).wp P Q a w:=by
 intro b k cs
 obtain⟨e,d,f,hq,g⟩:=h b (.inLoop c::k) cs
 cases e with
 | normal=>
   obtain⟨n,j⟩:=hq
   obtain⟨m,o,w₂,hq₂,p⟩:=Z7w b k cs n d f j
   exact⟨m,o,w₂,hq₂,.of_steps (.one step_loop) (.of_steps (Steps.trans g (.one step_inLoop)) p)⟩
 | exit id=>exact⟨_,d,f,hq,.of_steps (.one step_loop) (.pass (x:=.inLoop c) rfl (λ_ _=>.inl (by simp)) g)⟩
 | goto l=>exact⟨_,d,f,hq,.of_steps (.one step_loop) (.pass (x:=.inLoop c) rfl (λ_ _=>.inl (by simp)) g)⟩
 | ret=>exact⟨_,d,f,hq,.of_steps (.one step_loop) (.pass (x:=.inLoop c) rfl (λ_ _=>.inl (by simp)) g)⟩
 | panic q=>exact⟨_,d,f,hq,.of_steps (.one step_loop) (.pass (x:=.inLoop c) rfl (λ_ _=>.inl (by simp)) g)⟩
 | outgrown=>exact⟨_,d,f,hq,.of_steps (b:=b) (k:=k) (cs:=cs) (e:=.outgrown) (.one step_loop) (.pass (x:=.inLoop c) rfl (λ_ _=>.inl (by simp)) g)⟩
end
section
variable {E:Env}{k:Nat}{Q:Exit->St->Prop}
theorem AW.lp1{α:Type}(S:α->St)(p:α->Prop)(g:α->Nat){c:Code}{σ:St}(q:AW E k c (Z1b (λσ'=>∃b,p b/\Weak E k σ' (S b)) Q) σ)
 (r:∀a,p a->AW E k c (Z1b (λσ'=>∃b,p b/\Weak E k σ' (S b)/\g b<g a) Q) (S a)):AW E k (.loop c) Q σ:=by
 intro γ₀ H₀ Φ₀ w₀ a w i l
 have s:∀n x a w,g x<n->p x->Rel E γ₀ H₀ Φ₀ w₀ (S x) a w->Code.rounds E.P c (λe b w'=>∃σ',Rel E γ₀ H₀ Φ₀ w₀ σ' b w'/\Q e σ') n a w:=by
  intro n
  induction n with
  | zero=>intro x a w h;omega
  | succ n t=>
    intro x a w y u l
    rw[rounds_succ]
    refine wp_mono (r x u γ₀ H₀ Φ₀ w₀ a w i l) (λe b w' ⟨σ',d,f⟩=>?_)
    cases e with
    | normal=>
      obtain⟨j,m,o,z⟩:=f
      exact t j b w' (by omega) m (o γ₀ H₀ Φ₀ w₀ b w' i d)
    | _=>exact⟨σ',d,f⟩
 refine Z9q (wp_mono (q γ₀ H₀ Φ₀ w₀ a w i l) (λe b w' ⟨σ',d,f⟩=>?_))
 cases e with
 | normal=>
   obtain⟨j,m,o⟩:=f
   exact⟨g j+1,s _ j b w' (by omega) m (o γ₀ H₀ Φ₀ w₀ b w' i d)⟩
 | _=>exact⟨σ',d,f⟩
end
end Go.Abs
namespace Go.Abs
open Go Go.RowKit
def b8(n:Int):UInt8:=UInt8.ofNat n.toNat
end Go.Abs
