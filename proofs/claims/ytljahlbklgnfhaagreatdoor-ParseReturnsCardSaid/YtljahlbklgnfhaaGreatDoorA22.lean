import Derived.Test.YtljahlbklgnfhaaGreatDoorA21
set_option linter.unusedVariables false
set_option linter.unusedSimpArgs false
set_option linter.defProp false
namespace Go.Abs
open Go.RowKit
theorem Y0y{t:Nat->AV}{d:Nat}{v:AV}{x:Operand}(h:x≠.tmp d):ev (upd t d v) x=ev t x:=by
 cases x with
 | tmp i=>
   show(if i=d then v else t i)=t i
   rw[if_neg (λe=>h (by rw[e]))]
 | _=>rfl
theorem K2u{t:Nat->AV}{d e:Nat}{v u:AV}(h:d≠e):upd (upd t d v) e u=upd (upd t e u) d v:=by
 funext i
 unfold upd
 by_cases a:i=e
 ·subst a
  have:¬ i=d:=λe=>h e.symm
  simp[this]
 simp[a]
section
variable {E:Env}{O:Orc}
theorem X4h{T:Nat->Option TI}{t a:Nat->AV}{H:List AObj}(op:Op)(h:∀x∈op.operands,ev t x=ev a x):qval T t H op=qval T a H op:=by
 have Q7g:∀ps:Array (Nat×Operand),(∀x∈(ps.toList.map (·.2)),ev t x=ev a x)->(ps.toList.map λp=>(p.1,ev t p.2))=(ps.toList.map λp=>(p.1,ev a p.2)):=λps j=>
  G5f λp n=>by rw[j p.2 (G3r.2 ⟨p,n,rfl⟩)]
 cases op<;>simp only[Op.operands]at h<;>simp only[qval]
 case build d ps=>rw[Q7g ps λx e=>h x (by simpa using e)]
 case slice d x lo hi mx=>cases lo<;>cases hi<;>cases mx<;>simp_all
 case call c=>
  obtain⟨callee,args,g⟩:=c
  have i:∀x∈args.toList,ev t x=ev a x:=λx e=>h x (by
   simp only[Call.operands,Array.mem_append]
   exact .inr (by simpa using e))
  cases callee with
  | value f=>rfl
  | invoke r m=>rfl
  | builtin b=>
    cases b with
    | len=>
      show(match args.toList,g.toList with
       | [x],[d]=>qlen T H d (nrm (ev t x))
       | _,_=>none)=(match args.toList,g.toList with
       | [x],[d]=>qlen T H d (nrm (ev a x))
       | _,_=>none)
      generalize args.toList=l at i
      generalize g.toList=m
      split
      ·rw[i _ (by simp)]
      rfl
    | _=>rfl
 case makeFunc fn first caps=>
  cases fn with
  | func f=>
    have o:caps.toList.map (ev t)=caps.toList.map (ev a):=G5f λx e=>h x (by simp;exact .inr (by simpa using e))
    show(if first.size=0 then(Z2i (caps.toList.map (ev t))).map (AV.fn f)else none)=(if first.size=0 then(Z2i (caps.toList.map (ev a))).map (AV.fn f)else none)
    rw[o]
  | _=>rfl
 all_goals(first|rfl|(simp_all;done))
theorem J6r{t a:Nat->AV}{n:Nat}{H:List AObj}(o:Oper)(h:∀x∈o.op.operands,ev t x=ev a x):aop E O ⟨t,n,H⟩ o=aop E O ⟨a,n,H⟩ o:=by
 obtain⟨dst,op,D,pos,after,F⟩:=o
 have hq:=X4h (T:=E.T) (H:=H) op h
 have Q7g:∀ps:Array (Nat×Operand),(∀x∈(ps.toList.map (·.2)),ev t x=ev a x)->(ps.toList.map λp=>(p.1,ev t p.2))=(ps.toList.map λp=>(p.1,ev a p.2)):=λps A=>
  G5f λp g=>by rw[A p.2 (G3r.2 ⟨p,g,rfl⟩)]
 cases op<;>simp only[Op.operands]at h<;>simp only[aop]
 case buildSlice ty len ps=>rw[Q7g ps λx q=>h x (by simpa using q)]
 case build ty ps=>rw[Q7g ps λx q=>h x (by simpa using q),hq]
 case call c=>
  obtain⟨callee,args,j⟩:=c
  have d:∀x∈args.toList,ev t x=ev a x:=λx q=>h x (by
   simp only[Call.operands,Array.mem_append]
   exact .inr (by simpa using q))
  have g:args.toList.map (ev t)=args.toList.map (ev a):=G5f d
  cases callee with
  | value f=>
    cases f with
    | func f=>simp only[g]
    | tmp i=>
      have C:t i=a i:=h (.tmp i) (by simp[Call.operands])
      simp only[g,C]
    | _=>exact G4e (Option.map λr=>(r,H)) hq
  | invoke r m=>exact G4e (Option.map λr=>(r,H)) hq
  | builtin b=>
    cases b with
    | append=>
      show(match args.toList,j.toList with
       | [x,y],[e,u]=>if e=u then Z4d E H e (ev t x) (ev t y)else Q6p E H e u (ev t x) (ev t y)
       | _,_=>none)=(match args.toList,j.toList with
       | [x,y],[e,u]=>if e=u then Z4d E H e (ev a x) (ev a y)else Q6p E H e u (ev a x) (ev a y)
       | _,_=>none)
      generalize args.toList=l at d
      generalize j.toList=m
      split
      ·rw[d _ (by simp),d _ (by simp)]
      rfl
    | min=>simp only[g]
    | max=>simp only[g]
    | unsafeSliceData=>
      show(match args.toList with
       | [x]=>(J0y H (ev t x)).map λr=>(r,H)
       | _=>none)=(match args.toList with
       | [x]=>(J0y H (ev a x)).map λr=>(r,H)
       | _=>none)
      generalize args.toList=l at d
      split
      ·rw[d _ (by simp)]
      rfl
    | unsafeString=>
      show(match args.toList,j.toList with
       | [x,y],[z,_]=>(X4i E H z (ev t x) (ev t y)).map λr=>(r,H)
       | _,_=>none)=(match args.toList,j.toList with
       | [x,y],[z,_]=>(X4i E H z (ev a x) (ev a y)).map λr=>(r,H)
       | _,_=>none)
      generalize args.toList=l at d
      generalize j.toList=m
      split
      ·rw[d _ (by simp),d _ (by simp)]
      rfl
    | _=>exact G4e (Option.map λr=>(r,H)) hq
 all_goals(first|(rw[hq];done)|(simp_all;done))
def Q6e(pf:FuncId->Bool)(o:Oper):Nat:=
 match o.op with
 | .move _|.assign _|.pick _ _ _|.binOp _ _ _ _ _|.unOp _ _ _|.fieldAddr _ _ _|.extract _ _|.nilCheck _|.field _ _ _|.makeInterface _ _=>0
 | .convert _ _ _|.load _ _|.indexAddr _ _ _|.index _ _ _|.slice _ _ _ _ _|.build _ _|.lookup _ _ _ _=>1
 | .call ⟨.builtin .len,_,_⟩=>1
 | .call ⟨.builtin .min,_,_⟩=>0
 | .call ⟨.builtin .max,_,_⟩=>0
 | .call ⟨.value (.func f),_,_⟩=>if pf f then 1 else 3
 | .buildSlice _ len _=>if len==0 then 2 else 1
 | .alloc _|.box _ _|.makeMap _ none|.makeSlice _ _ _=>2
 | _=>3
theorem Y6a{o:Oper}(h:Q6e O.pf o=0){t:Nat->AV}{n:Nat}{H H1:List AObj}{r:AV}(g:aop E O ⟨t,n,H⟩ o=some (r,H1)):H1=H/\∀H2,aop E O ⟨t,n,H2⟩ o=some (r,H2):=by
 obtain⟨dst,op,A,pos,after,C⟩:=o
 have i:∀ (q:List AObj->Option AV),(∀H H',q H=q H')->((q H).map λr=>(r,H))=some (r,H1)->H1=H/\∀H2,((q H2).map λr=>(r,H2))=some (r,H2):=by
  intro q hq l
  obtain⟨x,p,u⟩:=G0k.1 l
  injection u with y z
  subst y z
  exact⟨rfl,λH2=>by rw[hq H2 H,p];rfl⟩
 cases op with
 | call c=>
   obtain⟨callee,args,D⟩:=c
   cases callee with
   | value f=>
     cases f with
     | func f=>
       simp only[Q6e]at h
       split at h<;>cases h
     | _=>cases h
   | invoke r m=>cases h
   | builtin b=>
     cases b with
     | min=>exact i (λ_=>qmm false (args.toList.map (ev t))) (λ_ _=>rfl) g
     | max=>exact i (λ_=>qmm true (args.toList.map (ev t))) (λ_ _=>rfl) g
     | _=>cases h
 | makeMap F r=>cases r<;>cases h
 | move x=>exact i (λH=>qval E.T t H (.move x)) (λ_ _=>rfl) g
 | assign x=>exact i (λH=>qval E.T t H (.assign x)) (λ_ _=>rfl) g
 | pick a b c=>exact i (λH=>qval E.T t H (.pick a b c)) (λ_ _=>rfl) g
 | binOp a b c d e=>
   simp only[aop]at g |-
   cases j:Z8i d with
   | true=>
     simp only[j,if_true]at g |-
     exact i (λ_=>J5l E.T a b (ev t c)) (λ_ _=>rfl) g
   | false=>
     simp only[j,G3a,G2v]at g |-
     cases hq:E.eqT b with
     | some ks=>
       simp only[hq]at g |-
       exact i (λ_=>qeq ks a (ev t c) (ev t d)) (λ_ _=>rfl) g
     | none=>
       simp only[hq]at g |-
       exact i (λ_=>qbin E.T a b (ev t c) (ev t d)) (λ_ _=>rfl) g
 | unOp a b c=>exact i (λH=>qval E.T t H (.unOp a b c)) (λ_ _=>rfl) g
 | fieldAddr a b c=>exact i (λH=>qval E.T t H (.fieldAddr a b c)) (λ_ _=>rfl) g
 | extract a b=>exact i (λH=>qval E.T t H (.extract a b)) (λ_ _=>rfl) g
 | nilCheck a=>exact i (λH=>qval E.T t H (.nilCheck a)) (λ_ _=>rfl) g
 | field a b c=>exact i (λ_=>Z0s E a c (ev t b)) (λ_ _=>rfl) g
 | makeInterface a b=>exact i (λ_=>qmkI E a (ev t b)) (λ_ _=>rfl) g
 | buildSlice a b c=>
   simp only[Q6e]at h
   split at h<;>cases h
 | _=>cases h
theorem Q0k{o:Oper}(h:Q6e O.pf o=1){t:Nat->AV}{n:Nat}{H H1:List AObj}{r:AV}(g:aop E O ⟨t,n,H⟩ o=some (r,H1)):H1=H:=by
 obtain⟨dst,op,A,pos,after,C⟩:=o
 have i:∀ (q:Option AV),(q.map λr=>(r,H))=some (r,H1)->H1=H:=by
  intro q j
  obtain⟨x,D,l⟩:=G0k.1 j
  injection l with F p
  exact p.symm
 cases op with
 | call c=>
   obtain⟨callee,args,u⟩:=c
   cases callee with
   | value f=>
     cases f with
     | func f=>
       simp only[Q6e]at h
       split at h
       ·rename_i y
        simp only[aop,y,if_true]at g
        exact i _ g
       cases h
     | _=>cases h
   | invoke r m=>cases h
   | builtin b=>
     cases b with
     | len=>exact i (qval E.T t H (.call ⟨.builtin .len,args,u⟩)) g
     | _=>cases h
 | makeMap I r=>cases r<;>cases h
 | convert a b c=>exact i (qval E.T t H (.convert a b c)) g
 | load a b=>exact i (qval E.T t H (.load a b)) g
 | indexAddr a b c=>exact i (qval E.T t H (.indexAddr a b c)) g
 | index a b c=>exact i (qval E.T t H (.index a b c)) g
 | slice a b c d e=>exact i (qval E.T t H (.slice a b c d e)) g
 | buildSlice a b c=>
   have hb:(b==0)=false:=by
    cases hb:b==0 with
    | false=>rfl
    | true=>simp[Q6e,hb]at h
   simp only[aop,hb,G3b,G3a,G2v,Q3f]at g
   split at g
   ·split at g
    ·split at g
     ·split at g
      ·injection g with g
       injection g with J z
       exact z.symm
      cases g
     cases g
    cases g
   cases g
 | build a b=>
   simp only[aop]at g
   split at g
   ·exact i _ g
   exact i _ g
 | lookup a b c d=>cases g
 | _=>cases h
def Goes(H H':List AObj):Prop:=∀ (l:Nat) o,H[l]?=some o->H'[l]?=some o
def Z0q(H H':List AObj):Prop:=∀ (l:Nat) o,H[l]?=some o->H'[l]?=some o\/∃cs,o=.var cs
theorem Goes.v{H H':List AObj}(h:Goes H H'):Z0q H H':=λl o a=>.inl (h l o a)
theorem Goes.append(H X:List AObj):Goes H (H++X):=λl o h=>by
 rw[G0q (G0j.1 h).1]
 exact h
variable {T:Nat->Option TI}{H H':List AObj}
theorem Z2b(d:Z0q H H'){a:AV}{p:PV}(h:toPV H a=some p):toPV H' a=some p:=by
 cases a with
 | vec l n=>
   simp only[toPV]at h |-
   cases b:H[l]? with
   | none=>simp[b]at h
   | some o=>
     rw[b]at h
     rcases d l o b with e|⟨cs,rfl⟩
     ·rw[e]
      exact h
     simp at h
 | _=>exact h
theorem X4k(b:Z0q H H'){t:TypeId}{x r:AV}(d:∀l o,x=.ref l o->H'[l]?=H[l]?)(h:Z7o T H t x=some r):Z7o T H' t x=some r:=by
 unfold Z7o at h |-
 cases hT:T t with
 | none=>simp[hT]at h
 | some ti=>
   rw[hT]at h
   cases x with
   | ref l o=>
     simp only at h |-
     rw[d l o rfl]
     exact h
   | vptr l n i o=>
     simp only at h |-
     cases a:H[l]? with
     | none=>simp[a]at h
     | some o'=>
       rw[a]at h
       rcases b l o' a with e|⟨cs,rfl⟩
       ·rw[e]
        exact h
       simp at h
   | _=>exact h
theorem Z7p(d:Z0q H H'){t:TypeId}{x i r:AV}(h:Q3j T H t x i=some r):Q3j T H' t x i=some r:=by
 unfold Q3j at h |-
 split at h
 ·split at h
  ·rename_i hT _ _ m o _ q
   split at h
   ·rename_i f
    rw[if_pos f]
    cases x with
    | vec l n=>
      cases a:rowAt H l with
      | none=>simp[a]at h
      | some p=>
        obtain⟨o',g,b⟩:=Q5h a
        rcases d l o' g with e|⟨cs,rfl⟩
        ·have j:rowAt H' l=some p:=by
          unfold rowAt
          rw[e]
          exact b
         simp only[j]
         simp only[a]at h
         exact h
        cases b
    | pv p=>cases p<;>exact h
    | _=>exact h
   cases h
  cases h
 cases h
theorem J7y(f:Z0q H H'){s d:TypeId}{x r:AV}(h:J1a T H s d x=some r):J1a T H' s d x=some r:=by
 cases x with
 | vec l n=>
   simp only[J1a]at h |-
   unfold X1g at h |-
   cases a:H[l]? with
   | none=>rw[a]at h;split at h<;>first|cases h|(rename_i b;cases b)
   | some o=>
     rw[a]at h
     rcases f l o a with e|⟨cs,rfl⟩
     ·rw[e]
      exact h
     split at h<;>first|cases h|(rename_i b;cases b)
 | _=>exact h
theorem J7u(d:Z0q H H'){t:TypeId}{x r:AV}{a b:Option AV}(h:Z5g T H t x a b=some r):Z5g T H' t x a b=some r:=by
 unfold Z5g at h |-
 split at h
 ·exact h
 ·split at h
  ·rename_i e f
   simp only[e,Z2b d f]
   exact h
  cases h
 cases h
theorem J0z(e:Z0q H H'){a:List (Nat×Nat)}:∀ {Q0l:List (Nat×AV)} {cs r:List PV},J0a H a cs Q0l=some r->J0a H' a cs Q0l=some r
 | [],cs,r,h=>h
 | (i,v)::rest,cs,r,h=>by
   simp only[J0a]at h |-
   cases b:a[i]? with
   | none=>simp[b]at h
   | some p=>
     cases d:toPV H v with
     | none=>simp[b,d]at h
     | some q=>
       rw[b,d]at h
       rw[Z2b e d]
       simp only at h |-
       split at h
       ·rename_i f
        rw[if_pos f]
        exact J0z e h
       cases h
theorem J8a(a:Z0q H H'){t:TypeId}{Q0l:List (Nat×AV)}{r:AV}(h:Z7t T H t Q0l=some r):Z7t T H' t Q0l=some r:=by
 unfold Z7t at h |-
 split at h
 ·obtain⟨cs,b,rfl⟩:=G0k.1 h
  rw[J0z a b]
  rfl
 cases h
theorem X7o(a:Z0q H H'){t:TypeId}{x r:AV}(h:qlen T H t x=some r):qlen T H' t x=some r:=by
 unfold qlen at h |-
 split at h
 ·exact h
 ·exact h
 cases h
theorem Z1q(b:Z0q H H'):∀ {az:List AV} {ps:List PV},Q6t H az=some ps->Q6t H' az=some ps
 | [],ps,h=>h
 | a::az,ps,h=>by
   simp only[Q6t]at h |-
   split at h
   ·rename_i p s d hs
    rw[Z2b b d,Z1q b hs]
    exact h
   cases h
theorem X3q(b:Z0q H H'){a:AV}{p:PV}(h:Z0i H a=some p):Z0i H' a=some p:=by
 cases a with
 | agg vs=>
   simp only[Z0i]at h |-
   obtain⟨ps,d,rfl⟩:=G0k.1 h
   rw[Z1q b d]
   rfl
 | vec l n=>exact Z2b (a:=.vec l n) b h
 | pv _=>exact h
 | nils=>exact h
 | full _=>exact h
 | _=>simp[Z0i]at h
theorem Z8n(a:Z0q H H'){sz:Nat}:∀ {Q0l:List (Nat×AV)} {i:Nat} {r:List PV},Q9b H sz i Q0l=some r->Q9b H' sz i Q0l=some r
 | [],i,r,h=>h
 | (j,v)::rest,i,r,h=>by
   simp only[Q9b]at h |-
   split at h
   ·rename_i b
    rw[if_pos b]
    split at h
    ·rename_i p d
     rw[X3q a d]
     simp only
     split at h
     ·rename_i e
      rw[if_pos e]
      obtain⟨xs,f,rfl⟩:=G0k.1 h
      rw[Z8n a f]
      rfl
     cases h
    cases h
   cases h
theorem X4v{o:Oper}(h:Q6e O.pf o=1){t:Nat->AV}{n:Nat}{H1:List AObj}{r:AV}(j:Z0q H H')(g:∀y x l k,o.op=.load y x->ev t x=.ref l k->H'[l]?=H[l]?)(i:aop E O ⟨t,n,H⟩ o=some (r,H1)):aop E O ⟨t,n,H'⟩ o=some (r,H'):=by
 obtain⟨dst,op,P,pos,after,Q⟩:=o
 have D:=g
 clear g
 have u:∀ (q z:Option AV),(∀x,q=some x->z=some x)->(q.map λr=>(r,H))=some (r,H1)->(z.map λr=>(r,H'))=some (r,H'):=by
  intro q z hq j
  obtain⟨x,g,F⟩:=G0k.1 j
  injection F with I S
  subst I
  rw[hq x g]
  rfl
 cases op with
 | call c=>
   obtain⟨callee,args,A⟩:=c
   cases callee with
   | value f=>
     cases f with
     | func f=>
       simp only[Q6e]at h
       split at h
       ·rename_i J
        simp only[aop,J,if_true]at i |-
        refine u _ _ (λx g=>?_) i
        unfold X4m at g |-
        split at g
        ·rename_i ps K
         simp only[Z1q j K]
         exact g
        cases g
       cases h
     | _=>cases h
   | invoke r m=>cases h
   | builtin b=>
     cases b with
     | len=>
       refine u (match args.toList,A.toList with
        | [x],[y]=>qlen E.T H y (nrm (ev t x))
        | _,_=>none) (match args.toList,A.toList with
        | [x],[y]=>qlen E.T H' y (nrm (ev t x))
        | _,_=>none) (λx g=>?_) i
       split at g
       ·exact X7o j g
       cases g
     | _=>cases h
 | makeMap y r=>cases r<;>cases h
 | convert a b c=>exact u (qval E.T t H (.convert a b c)) _ (λx g=>J7y j g) i
 | load a b=>exact u (qval E.T t H (.load a b)) _ (λx g=>X4k j (λl k=>D a b l k rfl) g) i
 | indexAddr a b c=>exact u (qval E.T t H (.indexAddr a b c)) _ (λx g=>Z7p j g) i
 | index a b c=>exact u (qval E.T t H (.index a b c)) _ (λx g=>g) i
 | slice a b c d e=>
   cases e with
   | none=>exact u (qval E.T t H (.slice a b c d none)) _ (λx g=>J7u j g) i
   | some e=>exact u (qval E.T t H (.slice a b c d (some e))) _ (λx g=>g) i
 | build a b=>
   simp only[aop]at i |-
   cases C:E.ownT a with
   | true=>
     simp only[C,if_true]at i |-
     exact u (Z7s E.T a (b.toList.map λp=>(p.1,ev t p.2))) _ (λx g=>g) i
   | false=>
     simp only[C,G3a,G2v]at i |-
     exact u (qval E.T t H (.build a b)) _ (λx g=>J8a j g) i
 | buildSlice a b c=>
   have hb:(b==0)=false:=by
    cases hb:b==0 with
    | false=>rfl
    | true=>simp[Q6e,hb]at h
   simp only[aop,hb,G3b,G3a,G2v,Q3f]at i |-
   split at i
   ·split at i
    ·rename_i hT _ U V
     split at i
     ·rename_i L
      rw[if_pos L]
      split at i
      ·rename_i xs M
       simp only[Z8n j M]
       injection i with i
       injection i with N W
       rw[N]
      cases i
     cases i
    cases i
   cases i
 | lookup a b c d=>cases i
 | _=>cases h
theorem Y5z{o:Oper}(h:Q6e O.pf o=2){t:Nat->AV}{n:Nat}{H1:List AObj}{r:AV}(d:aop E O ⟨t,n,H⟩ o=some (r,H1)):Goes H H1:=by
 obtain⟨dst,op,i,pos,after,j⟩:=o
 cases op with
 | call c=>
   obtain⟨callee,args,p⟩:=c
   cases callee with
   | value f=>
     cases f with
     | func f=>
       simp only[Q6e]at h
       split at h<;>cases h
     | _=>cases h
   | invoke r m=>cases h
   | builtin b=>cases b<;>cases h
 | makeMap g r=>
   cases r with
   | none=>
     cases d
   | some _=>cases h
 | buildSlice a b c=>
   simp only[aop]at d
   split at d
   ·unfold Q9e at d
    repeat' split at d
    all_goals first
     | (cases d;done)
     | (simp only[G0c,G1k]at d;rw[<-d.2];exact .append _ _)
   unfold Q3f at d
   repeat' split at d
   all_goals first
    | (cases d;done)
    | (simp only[G0c,G1k]at d;rw[<-d.2];exact λl o h=>h)
 | alloc g=>
   simp only[aop,J6o]at d
   split at d
   ·simp only[G0c,G1k]at d
    rw[<-d.2]
    exact .append _ _
   split at d
   ·simp only[G0c,G1k]at d
    rw[<-d.2]
    exact .append _ _
   split at d
   ·split at d
    ·simp only[G0c,G1k]at d
     rw[<-d.2]
     exact .append _ _
    cases d
   cases d
 | box e x=>
   simp only[aop,ebox]at d
   split at d<;>try split at d
   all_goals first
    | cases d;done
    | (simp only[G0c,G1k]at d
       rw[<-d.2]
       exact .append _ _)
 | makeSlice a b c=>
   simp only[aop,Q5i]at d
   split at d
   ·split at d
    ·split at d
     ·split at d
      ·simp only[G0c,G1k]at d
       rw[<-d.2]
       exact .append _ _
      cases d
     cases d
    cases d
   cases d
 | _=>cases h
def putT(t:Nat->AV)(r:AV):Option Nat->Nat->AV
 | none=>t
 | some d=>upd t d r
theorem J3b{σ σ':St}{dst:Option Nat}{r:AV}{h:List AObj}(a:put σ dst r h=some σ'):σ'=⟨putT σ.t r dst,σ.n,h⟩/\∀d,dst=some d->d<σ.n:=by
 unfold put at a
 cases dst with
 | none=>
   simp only[G0c]at a
   subst a
   exact⟨rfl,λd hd=>by cases hd⟩
 | some d=>
   simp only at a
   split at a
   ·simp only[G0c]at a
    subst a
    exact⟨rfl,λe b=>by injection b with b;subst b;assumption⟩
   cases a
def gdec(ops:Array Oper)(t:Nat->AV)(o:Oper):Option Bool:=
 match o.guard with
 | none=>some true
 | some (j,a)=>match (ops[j]?).bind (·.dst)with
   | some g=>match t g with
     | .pv (.bool b)=>some (b==a)
     | .tup []=>some false
     | _=>none
   | none=>none
def Q2t(E:Env)(O:Orc)(ops:Array Oper)(σ:St)(o:Oper):Option (AV×List AObj):=
 match gdec ops σ.t o with
 | some true=>aop E O σ o
 | some false=>some (.tup [],σ.h)
 | none=>none
theorem Q7j{ops:Array Oper}{σ:St}{o:Oper}:Q9i E O ops σ o=(Q2t E O ops σ o).bind λr=>put σ o.dst r.1 r.2:=by
 unfold Q9i Q2t gdec
 cases o.guard with
 | none=>rfl
 | some p=>
   obtain⟨j,a⟩:=p
   simp only
   cases(ops[j]?).bind (·.dst)with
   | none=>rfl
   | some g=>
     simp only
     generalize σ.t g=v
     cases v with
     | pv p=>
       cases p with
       | bool b=>
         simp only
         cases hb:b==a with
         | true=>
           rw[if_pos (by simpa using hb)]
         | false=>
           rw[if_neg (by simpa using hb)]
           rfl
       | _=>rfl
     | tup l=>cases l<;>rfl
     | _=>rfl
theorem X5a{ops:Array Oper}{o:Oper}{t:Nat->AV}{d:Nat}{v:AV}(h:d∉o.looksAt ops):gdec ops (upd t d v) o=gdec ops t o:=by
 unfold gdec
 cases a:o.guard with
 | none=>rfl
 | some p=>
   obtain⟨j,f⟩:=p
   simp only
   cases hd:(ops[j]?).bind (·.dst)with
   | none=>rfl
   | some g=>
     have b:g≠d:=λe=>h (by subst e;simp[Oper.looksAt,a,hd])
     simp only[upd,if_neg b]
theorem Z9b{ops:Array Oper}{o:Oper}{t:Nat->AV}{n d:Nat}{v:AV}{X:List AObj}(h:d∉o.looksAt ops):Q2t E O ops ⟨upd t d v,n,X⟩ o=Q2t E O ops ⟨t,n,X⟩ o:=by
 have a:aop E O ⟨upd t d v,n,X⟩ o=aop E O ⟨t,n,X⟩ o:=J6r o (λx b=>Y0y (λe=>h (by
  subst e
  exact G5p _ (G4u.2 ⟨.tmp d,by simpa using b,rfl⟩))))
 unfold Q2t
 simp only[X5a h,a]
def J7n(pf:FuncId->Bool)(x y:Oper):Bool:=
 Q6e pf x==0||Q6e pf y==0||(Q6e pf x==1&&Q6e pf y==1)||(Q6e pf x==1&&Q6e pf y==2)
theorem K7y{ops:Array Oper}{o:Oper}(h:Q6e O.pf o=0){t:Nat->AV}{n:Nat}{H1:List AObj}{r:AV}(a:Q2t E O ops ⟨t,n,H⟩ o=some (r,H1)):H1=H/\∀H2,Q2t E O ops ⟨t,n,H2⟩ o=some (r,H2):=by
 unfold Q2t at a |-
 simp only at a |-
 cases d:gdec ops t o with
 | none=>simp[d]at a
 | some b=>
   rw[d]at a
   cases b with
   | true=>exact Y6a h a
   | false=>
     simp only[G0c,G1k]at a |-
     exact⟨a.2.symm,λH2=>⟨a.1,trivial⟩⟩
theorem X2t{ops:Array Oper}{o:Oper}(h:Q6e O.pf o=1){t:Nat->AV}{n:Nat}{H1:List AObj}{r:AV}(a:Q2t E O ops ⟨t,n,H⟩ o=some (r,H1)):H1=H/\∀H2,Z0q H H2->(∀d x l k,o.op=.load d x->ev t x=.ref l k->gdec ops t o=some true->H2[l]?=H[l]?)->Q2t E O ops ⟨t,n,H2⟩ o=some (r,H2):=by
 unfold Q2t at a |-
 simp only at a |-
 cases e:gdec ops t o with
 | none=>simp[e]at a
 | some b=>
   rw[e]at a
   cases b with
   | true=>exact⟨Q0k h a,λH2 f g=>X4v h f (λd x l k i j=>g d x l k i j rfl) a⟩
   | false=>
     simp only[G0c,G1k]at a |-
     exact⟨a.2.symm,λH2 _ _=>⟨a.1,trivial⟩⟩
theorem K7x{ops:Array Oper}{o:Oper}(h:Q6e O.pf o=2){t:Nat->AV}{n:Nat}{H1:List AObj}{r:AV}(a:Q2t E O ops ⟨t,n,H⟩ o=some (r,H1)):Goes H H1:=by
 unfold Q2t at a
 simp only at a
 cases d:gdec ops t o with
 | none=>simp[d]at a
 | some b=>
   rw[d]at a
   cases b with
   | true=>exact Y5z h a
   | false=>
     simp only[G0c,G1k]at a
     rw[<-a.2]
     exact λl o h=>h
theorem X8k{ops:Array Oper}{o:Oper}{t:Nat->AV}{n:Nat}{H1:List AObj}{r:AV}{e:TypeId}{x:Operand}{l k:Nat}(b:Q2t E O ops ⟨t,n,H⟩ o=some (r,H1))(d:o.op=.load e x)(f:ev t x=.ref l k)(g:gdec ops t o=some true):∃c,H[l]?=some c:=by
 unfold Q2t at b
 simp only[g]at b
 obtain⟨dst,op,j,pos,after,m⟩:=o
 simp only at d
 subst d
 simp only[aop,qval,f]at b
 obtain⟨v,a,_⟩:=G0k.1 b
 unfold Z7o at a
 split at a
 ·cases a
 simp only at a
 split at a
 ·rename_i i
  exact⟨_,i⟩
 cases a
abbrev Z1z:=List (Nat×Option Nat)
def J3y:AV->Option Nat->Bool
 | .any,_=>true
 | .tup [],_=>true
 | .ref l _,some m=>decide (l=m)
 | .ref _ _,none=>false
 | _,none=>true
 | _,some _=>false
def Inv(B:Z1z)(t:Nat->AV):Prop:=∀p∈B,J3y (t p.1) p.2=true
def J1i(B:Z1z)(o:Oper):Bool:=
 match o.dst with
 | none=>true
 | some d=>B.all λp=>p.1 != d||(match o.op with
   | .fieldAddr _ (.tmp j) _=>B.contains (j,p.2)
   | .indexAddr _ _ _=>p.2==none
   | _=>false)
def J7o(pf:FuncId->Bool)(B:Z1z)(x y:Oper):Bool:=
 Q6e pf x==1&&(match y.op with
  | .store _ (.tmp q) _=>B.any λb=>b.1==q&&(match b.2 with
    | some l=>(match x.op with
      | .load _ (.tmp p)=>B.any λc=>c.1==p&&c.2 != some l
      | .load _ _=>false
      | _=>true)
    | none=>false)
  | _=>false)
theorem X2a{B:Z1z}{ops:Array Oper}{o:Oper}(hk:J1i B o=true){σ σ':St}(h:Q9i E O ops σ o=some σ')(x:Inv B σ.t):Inv B σ'.t:=by
 obtain⟨t,n,H⟩:=σ
 rw[Q7j]at h
 obtain⟨⟨r,H1⟩,g,D⟩:=G1x.1 h
 obtain⟨e,hd⟩:=J3b D
 subst e
 intro p y
 have l:=x p y
 simp only at l |-
 cases F:o.dst with
 | none=>exact l
 | some d=>
   show J3y (if p.1=d then r else t p.1) p.2=true
   split
   rotate_left
   ·exact l
   rename_i I
   unfold J1i at hk
   rw[F]at hk
   have i:=G0p.1 hk p y
   simp only[I,bne_self_eq_false,G2k]at i
   unfold Q2t at g
   simp only at g
   cases z:gdec ops t o with
   | none=>simp[z]at g
   | some b=>
     rw[z]at g
     cases b with
     | false=>
       simp only[G0c,G1k]at g
       rw[<-g.1]
       cases p.2<;>rfl
     | true=>
       simp only at g
       obtain⟨dst,op,L,pos,after,M⟩:=o
       simp only at i g
       split at i
       ·rename_i N j f
        have A:=x (j,p.2) (by simpa using i)
        simp only[aop,qval]at g
        obtain⟨v,a,m⟩:=G0k.1 g
        injection m with q J
        subst q
        have K:ev t (.tmp j)=t j:=rfl
        rw[K]at a
        simp only at A
        unfold Q7e at a
        split at a
        ·split at a
         ·split at a
          ·cases a
          generalize t j=u at A a
          cases u<;>simp only[G0c,reduceCtorEq]at a
          ·subst a;cases C:p.2<;>simp_all [J3y]
          ·subst a;cases C:p.2<;>simp_all [J3y]
          subst a;cases C:p.2<;>simp_all [J3y]
         cases a
        cases a
       ·have i:p.2=none:=by simpa using i
        simp only[aop,qval]at g
        obtain⟨v,a,m⟩:=G0k.1 g
        injection m with q J
        subst q
        rw[i]
        unfold Q3j at a
        repeat'(split at a)
        all_goals first
         | (cases a;done)
         | (simp only[G0c]at a;subst a;rfl)
       cases i
theorem X3v{ops:Array Oper}{o:Oper}{t:Nat->AV}{n:Nat}{H2:List AObj}{r:AV}{z:TypeId}{q l:Nat}{x:Operand}(d:Q2t E O ops ⟨t,n,H⟩ o=some (r,H2))(u:o.op=.store z (.tmp q) x)(hq:J3y (t q) (some l)=true):Z0q H H2/\∀l',l'≠l->H2[l']?=H[l']?:=by
 unfold Q2t at d
 simp only at d
 cases y:gdec ops t o with
 | none=>simp[y]at d
 | some b=>
   rw[y]at d
   cases b with
   | false=>
     simp only[G0c,G1k]at d
     rw[<-d.2]
     exact⟨λl o h=>.inl h,λ_ _=>rfl⟩
   | true=>
     simp only at d
     obtain⟨dst,op,I,pos,after,J⟩:=o
     simp only at u
     subst u
     simp only[aop]at d
     obtain⟨h,a,A⟩:=G0k.1 d
     injection A with K C
     subst C
     have D:ev t (.tmp q)=t q:=rfl
     rw[D]at a
     have g:∀ (cs c:List AV),H[l]?=some (.var c)->Z0q H (H.set l (.var cs))/\∀l',l'≠l->(H.set l (.var cs))[l']?=H[l']?:=by
      intro cs c j
      refine⟨λi o f=>?_,λl' F=>G2b (Ne.symm F)⟩
      by_cases e:i=l
      ·subst e
       rw[j]at f
       injection f with f
       exact .inr ⟨c,f.symm⟩
      rw[G2b (Ne.symm e)]
      exact .inl f
     unfold J6l at a
     split at a
     ·cases a
     split at a
     ·rename_i m
      rw[m]at hq
      have j:_=l:=G3e hq
      subst j
      split at a
      ·rename_i cs p
       split at a
       ·split at a
        ·split at a
         ·injection a with a
          subst a
          exact g _ _ p
         cases a
        ·split at a
         ·injection a with a
          subst a
          exact g _ _ p
         cases a
        cases a
       ·cases a
       split at a
       ·injection a with a
        subst a
        exact g _ _ p
       cases a
      cases a
     ·rename_i m
      rw[m]at hq
      simp[J3y]at hq
     cases a
theorem swap{B:Z1z}{ops:Array Oper}{x y:Oper}(aa:x.apart ops y=true)(hk:(J7n O.pf x y||J7o O.pf B x y)=true){σ J σ2:St}(K:Inv B σ.t)(L:Q9i E O ops σ x=some J)(M:Q9i E O ops J y=some σ2):
 ∃N,Q9i E O ops σ y=some N/\Q9i E O ops N x=some σ2:=by
 obtain⟨t,n,H⟩:=σ
 obtain⟨ha,hb,o⟩:=Oper.apart_spec aa
 rw[Q7j]at L M
 obtain⟨⟨P,H1⟩,g,ad⟩:=G1x.1 L
 obtain⟨⟨u,H2⟩,Q,ae⟩:=G1x.1 M
 obtain⟨i,S⟩:=J3b ad
 subst i
 obtain⟨z,U⟩:=J3b ae
 subst z
 simp only at Q S U
 have a:Q2t E O ops ⟨t,n,H1⟩ y=some (u,H2):=by
  rw[<-Q]
  cases f:x.dst with
  | none=>rfl
  | some d=>exact(Z9b (ha d f)).symm
 have af:∀X,Q2t E O ops ⟨putT t u y.dst,n,X⟩ x=Q2t E O ops ⟨t,n,X⟩ x:=by
  intro X
  cases r:y.dst with
  | none=>rfl
  | some d=>exact Z9b (o d r)
 have ag:∃H3,Q2t E O ops ⟨t,n,H⟩ y=some (u,H3)/\Q2t E O ops ⟨t,n,H3⟩ x=some (P,H2):=by
  rcases G2d _ _▸hk with hk|hk
  rotate_left
  ·unfold J7o at hk
   rw[G0d]at hk
   obtain⟨f,hk⟩:=hk
   have f:Q6e O.pf x=1:=by simpa using f
   split at hk
   ·rename_i V q v ah
    obtain⟨b,hb,hk⟩:=G4v.1 hk
    rw[G0d]at hk
    obtain⟨C,hk⟩:=hk
    have C:b.1=q:=by simpa using C
    split at hk
    ·rename_i l ak
     have hq:=K b hb
     simp only[C,ak]at hq
     obtain⟨rfl,j⟩:=X2t f g
     obtain⟨g1,g2⟩:=X3v a ah hq
     refine⟨H2,a,j H2 g1 λV x' D k0 i z W=>g2 D ?_⟩
     split at hk
     ·rename_i ay p aq
      obtain⟨c,o,F⟩:=G4v.1 hk
      simp only[G0d,G3o,G6w,ne_eq]at F
      rw[aq]at i
      injection i with az ar
      subst ar
      have A:=K c o
      have au:t p=.ref D k0:=z
      simp only[F.1,au]at A
      intro e
      subst e
      cases I:c.2 with
      | none=>rw[I]at A;cases A
      | some m=>
        rw[I]at A
        have:D=m:=G3e A
        exact F.2 (by rw[I,this])
     ·cases hk
     rename_i aA av
     exact absurd i (av _ _)
    cases hk
   cases hk
  unfold J7n at hk
  simp only[G2d,G3o,G0d]at hk
  rcases hk with((h|h)|⟨f,hy'⟩)|⟨f,hy'⟩
  ·obtain⟨rfl,j⟩:=K7y h g
   exact⟨H2,a,j H2⟩
  ·obtain⟨rfl,j⟩:=K7y h a
   exact⟨H,j H,g⟩
  ·obtain⟨rfl,_⟩:=X2t f g
   obtain⟨rfl,_⟩:=X2t hy' a
   exact⟨_,a,g⟩
  obtain⟨rfl,j⟩:=X2t f g
  exact⟨H2,a,j H2 (K7x hy' a).v λV x' l k i z W=>by
   obtain⟨c,o⟩:=X8k g i z W
   rw[o]
   exact K7x hy' a l c o⟩
 obtain⟨H3,k1,k2⟩:=ag
 refine⟨⟨putT t u y.dst,n,H3⟩,?_,?_⟩
 ·rw[Q7j,k1]
  show put ⟨t,n,H⟩ y.dst u H3=_
  unfold put
  cases r:y.dst with
  | none=>rfl
  | some d=>simp[U d r,putT]
 rw[Q7j,af,k2]
 show put _ x.dst P H2=_
 unfold put
 cases Y:x.dst with
 | none=>
   cases r:y.dst with
   | none=>rfl
   | some d=>rfl
 | some d=>
   simp only[S d Y,if_true]
   cases r:y.dst with
   | none=>rfl
   | some e=>
     simp only[G0c,St.mk.injEq,G7c]
     exact(K2u (λhe=>hb d Y (by rw[r,he]))).symm
theorem J1r{B:Z1z}{ops:Array Oper}{y:Oper}:∀ (l r:List Oper) (σ σ':St),Inv B σ.t->(∀x∈l,x.apart ops y=true/\(J7n O.pf x y||J7o O.pf B x y)=true/\J1i B x=true)->arun E O ops (l++y::r) σ=some σ'->∃a,Q9i E O ops σ y=some a/\arun E O ops (l++r) a=some σ'
 | [],r,σ,σ',_,_,h=>by
   obtain⟨a,b,e⟩:=G1x.1 h
   exact⟨a,b,e⟩
 | x::l,r,σ,σ',f,d,h=>by
   obtain⟨i,b,e⟩:=G1x.1 h
   obtain⟨a,j,m⟩:=J1r l r i σ' (X2a (d x (by simp)).2.2 b f) (λz n=>d z (by simp[n])) e
   obtain⟨g,o,p⟩:=swap (d x (by simp)).1 (d x (by simp)).2.1 f b j
   refine⟨g,o,?_⟩
   show(Q9i E O ops g x).bind (arun E O ops (l++r))=_
   rw[p]
   exact m
def direct(ops:Array Oper)(j:Nat):List Nat:=
 match ops[j]? with
 | some o=>(o.after.toList.filter (Region.binds .any)).map (·.on)
 | none=>[]
def ancs(ops:Array Oper):Nat->List (List Nat)
 | 0=>[]
 | n+1=>let a:=ancs ops n;a++[Q6f (direct ops n++(direct ops n).flatMap λi=>a.getD i [])]
theorem Z8r{x:Nat}:∀ {l:List Nat},x∈Q6f l->x∈l
 | [],h=>h
 | y::r,h=>by
   unfold Q6f at h
   split at h
   ·exact G1l _ (Z8r h)
   rcases G1j.1 h with h|h
   ·exact G1j.2 (.inl h)
   exact G1l _ (Z8r h)
theorem Q5z(ops:Array Oper):∀n,(ancs ops n).length=n
 | 0=>rfl
 | n+1=>by simp[ancs,Q5z ops n]
theorem Q5y{ops:Array Oper}{L:Nat->Prop}(b:∀j,L j->∀i∈direct ops j,L i):∀ (n j:Nat),(∀i∈direct ops j,L i)->∀i∈(ancs ops n).getD j [],L i
 | 0,j,_,i,a=>by simp[ancs]at a
 | n+1,j,hd,i,a=>by
   simp only[ancs,G0y]at a
   rcases Nat.lt_trichotomy j n with h|h|h
   ·rw[G0q (by rw[Q5z];exact h)]at a
    exact Q5y b n j hd i (by rw[G0y];exact a)
   ·subst h
    rw[G0w (by rw[Q5z];exact G0r _),Q5z,G8l]at a
    simp only[G0s,Option.getD_some]at a
    rcases G2z.1 (Z8r a)with h|h
    ·exact hd i h
    obtain⟨k,hk,d⟩:=G6m.1 h
    exact Q5y b j k (b k (hd k hk)) i (by rw[G0y];exact d)
   rw[G2c (by simp[Q5z];omega)]at a
   simp at a
def Q4e(pf:FuncId->Bool)(B:Z1z)(ops:Array Oper):Bool:=
 let A:=ancs ops ops.size
 (List.range ops.size).all λj=>(direct ops j).all (λi=>decide (i<j))&&((List.range j).all λi=>(A.getD j []).contains i||(match ops[i]?,ops[j]? with
   | some x,some y=>x.apart ops y&&(J7n pf x y||J7o pf B x y)
   | _,_=>true))&&(match ops[j]? with
   | some o=>J1i B o
   | none=>true)
def Z8c(pf:FuncId->Bool)(ops:Array Oper):Bool:=Q4e pf [] ops
theorem J5v{pf:FuncId->Bool}{B:Z1z}{ops:Array Oper}(h:Q4e pf B ops=true){i j:Nat}{x y:Oper}(e:i<j)(f:ops[i]?=some x)(b:ops[j]?=some y)(g:i∉(ancs ops ops.size).getD j []):x.apart ops y=true/\(J7n pf x y||J7o pf B x y)=true:=by
 have l:j<ops.size:=(G1r.1 b).1
 have d:=G0p.1 h j (G1y.2 l)
 rw[G0d,G0d]at d
 have a:=G0p.1 d.1.2 i (G1y.2 e)
 rcases G2d _ _▸a with a|a
 ·exact absurd (by simpa using a) g
 simp only[f,b]at a
 rw[G0d]at a
 exact a
theorem Z2l{pf:FuncId->Bool}{B:Z1z}{ops:Array Oper}(h:Q4e pf B ops=true){j:Nat}{y:Oper}(a:ops[j]?=some y):J1i B y=true:=by
 have e:j<ops.size:=(G1r.1 a).1
 have b:=G0p.1 h j (G1y.2 e)
 rw[G0d]at b
 have d:=b.2
 simp only[a]at d
 exact d
theorem X4r{pf:FuncId->Bool}{B:Z1z}{ops:Array Oper}(h:Q4e pf B ops=true){i j:Nat}(b:j<ops.size)(d:i∈direct ops j):i<j:=by
 have a:=G0p.1 h j (G1y.2 b)
 rw[G0d,G0d]at a
 simpa using G0p.1 a.1.1 i d
def todo(ops:Array Oper)(listed:Array Bool):List Nat:=(List.range ops.size).filter λi=>!listed.getD i true
theorem J0u{ops:Array Oper}{listed:Array Bool}{j:Nat}(q:j∈todo ops listed):∃l r,todo ops listed=l++j::r/\todo ops (listed.setIfInBounds j true)=l++r/\∀i∈l,i<j/\listed.getD i true=false:=by
 have t:∀ (L:List Nat),L.Nodup->j∈L.filter (λi=>!listed.getD i true)->(∀ (a b:List Nat),L=a++j::b->∀i∈a,i<j)->
  ∃l r,L.filter (λi=>!listed.getD i true)=l++j::r/\L.filter (λi=>!(listed.setIfInBounds j true).getD i true)=l++r/\∀i∈l,i<j/\listed.getD i true=false:=by
  intro L g m u
  have y:=(G3d.1 m).1
  obtain⟨a,b,rfl⟩:=List.append_of_mem y
  have d:=(G3d.1 m).2
  have z:listed.getD j true=false:=by simpa using d
  have A:j<listed.size:=by
   rcases G6r j listed.size with h|h
   ·exact h
   simp[G8k h]at z
  have C:j∉a:=λh=>(G6x.1 g).2.2 j h j (by simp) rfl
  have D:j∉b:=(G5r.1 (G6x.1 g).2.1).1
  have o:∀ (x:List Nat),j∉x->x.filter (λi=>!(listed.setIfInBounds j true).getD i true)=x.filter (λi=>!listed.getD i true):=by
   intro x F
   refine List.filter_congr λi f=>?_
   rw[G7p true (λe:j=i=>F (by rw[e];exact f))]
  refine⟨a.filter (λi=>!listed.getD i true),b.filter (λi=>!listed.getD i true),?_,?_,λi f=>?_⟩
  ·rw[List.filter_append,List.filter_cons,if_pos d]
  ·rw[List.filter_append,List.filter_cons,if_neg (by simp[A]),o a C,o b D]
  have p:=G3d.1 f
  exact⟨u a b rfl i p.1,by simpa using p.2⟩
 refine t (List.range ops.size) List.nodup_range q (λa b h i f=>?_)
 have d:=G6v (n:=ops.size)
 rw[h]at d
 exact(List.pairwise_append.1 d).2.2 i f j (by simp)
variable {γ₀:List Gh}{H₀:List AObj}{Φ₀:Nat->Nat->Prop}{w₀:World}
def Z3t(ops:Array Oper)(l:List Nat):List Oper:=l.filterMap λi=>ops[i]?
theorem Z5i(ops:Array Oper)(a b:List Nat):Z3t ops (a++b)=Z3t ops a++Z3t ops b:=List.filterMap_append
theorem J8y(hS:Q2d E O){B:Z1z}{ops:Array Oper}(y:Q4e O.pf B ops=true){Q:Exit->Act->World->Prop}{σ':St}(hQ:∀z w',Rel E γ₀ H₀ Φ₀ w₀ σ' z w'->Q .normal z w'):
 ∀ (m:Nat) (listed:Array Bool) (σ:St) (a:Act) (w:World),listed.size=ops.size->(todo ops listed).length<=m->(∀j,listed.getD j false=true->∀i∈direct ops j,listed.getD i false=true)->Inv B σ.t->
  arun E O ops (Z3t ops (todo ops listed)) σ=some σ'->Rel E γ₀ H₀ Φ₀ w₀ σ a w->wpAny E.P .any ops Q m listed a w:=by
 have al:∀ (listed:Array Bool),listed.size=ops.size->todo ops listed=[]->Region.ready .any ops listed=[]:=by
  intro listed f h
  refine G7g.2 λj q=>?_
  obtain⟨F,o,d,_⟩:=G8p.1 q
  have:j∈todo ops listed:=G3d.2 ⟨G1y.2 (G1r.1 d).1,by simp[F]⟩
  rw[h]at this
  cases this
 have am:∀ (listed:Array Bool),listed.size=ops.size->todo ops listed≠[]->Region.ready .any ops listed≠[]:=by
  intro listed f ao I
  obtain⟨j,rest,J⟩:=G7u ao
  have q:j∈todo ops listed:=by rw[J];simp
  obtain⟨M,t⟩:=G3d.1 q
  have N:=G1y.1 M
  have ac:(todo ops listed).Pairwise (·<·):=(G6v (n:=ops.size)).filter _
  rw[J]at ac
  have ad:j∈Region.ready .any ops listed:=by
   refine G8p.2 ⟨by simpa using t,ops[j],G3i N,λe P hb=>?_⟩
   have hd:e.on∈direct ops j:=by
    simp only[direct,G3i N]
    exact G3r.2 ⟨e,G3d.2 ⟨by simpa using P,hb⟩,rfl⟩
   have aG:=X4r y N hd
   have S:e.on<listed.size:=by omega
   cases U:listed.getD e.on true with
   | true=>
     simp[S]at U |-
     exact U
   | false=>
     exfalso
     have A:e.on∈todo ops listed:=G3d.2 ⟨G1y.2 (by omega),by simpa using U⟩
     rw[J]at A
     rcases G1j.1 A with h|h
     ·omega
     have:=(List.pairwise_cons.1 ac).1 e.on h
     omega
  rw[I]at ad
  cases ad
 intro m
 induction m with
 | zero=>
   intro listed σ a w f V W X b C
   have u:todo ops listed=[]:=G0u (by omega)
   rw[u]at b
   simp only[Z3t,List.filterMap_nil,arun,G0c]at b
   subst b
   exact⟨al listed f u,hQ a w C⟩
 | succ m ih=>
   intro listed σ a w f V W X b C
   refine⟨λI=>?_,λj q=>?_⟩
   ·by_cases u:todo ops listed=[]
    ·rw[u]at b
     simp only[Z3t,List.filterMap_nil,arun,G0c]at b
     subst b
     exact hQ a w C
    exact absurd I (am listed f u)
   obtain⟨F,o,d,ar⟩:=G8p.1 q
   have M:j<ops.size:=(G1r.1 d).1
   have au:j∈todo ops listed:=G3d.2 ⟨G1y.2 M,by simp[F]⟩
   obtain⟨l,r,e1,e2,av⟩:=J0u au
   have ag:∀i∈direct ops j,listed.getD i false=true:=by
    intro i g
    simp only[direct,d]at g
    obtain⟨e,P,rfl⟩:=G3r.1 g
    have ah:=G3d.1 P
    exact ar e (by simpa using ah.1) ah.2
   have aw:=Q5y (ops:=ops) (L:=λi=>listed.getD i false=true) W ops.size j ag
   have ay:∀x∈Z3t ops l,x.apart ops o=true/\(J7n O.pf x o||J7o O.pf B x o)=true/\J1i B x=true:=by
    intro x hx
    obtain⟨i,g,Y⟩:=G4u.1 hx
    obtain⟨aA,t⟩:=av i g
    suffices p:x.apart ops o=true/\(J7n O.pf x o||J7o O.pf B x o)=true from ⟨p.1,p.2,Z2l y Y⟩
    refine J5v y aA Y d (λA=>?_)
    have:=aw i A
    have S:i<listed.size:=by rw[f];exact(G1r.1 Y).1
    simp[S]at this t
    rw[this]at t
    cases t
   rw[e1,Z5i]at b
   have aB:Z3t ops (j::r)=o::Z3t ops r:=by simp[Z3t,d]
   rw[aB]at b
   obtain⟨aD,hs1,aE⟩:=J1r _ _ σ σ' X ay b
   have D:=Q8d hS hs1 C (K:=wpAny E.P .any ops Q m (listed.setIfInBounds j true)) (Q:=Q) (λz w' aF=>by
    refine ih (listed.setIfInBounds j true) aD z w' (by simpa using f) ?_ ?_ (X2a (Z2l y d) hs1 X) ?_ aF
    ·rw[e2]
     rw[e1]at V
     simp only[G0g,G0i]at V |-
     omega
    ·intro k hk i g
     by_cases ak:j=k
     ·subst ak
      exact G9a (ag i g)
     rw[G7p false ak]at hk
     exact G9a (W k hk i g)
    rw[e2,Z5i]
    exact aE)
   unfold wpOp
   rw[d]
   simp only
   split
   ·rename_i p
    rw[if_pos p]at D
    exact .inl D
   rename_i p
   rw[if_neg p]at D
   exact D
theorem AW.drawnB(n:E.P.follows .mixedOrders=true)(hS:Q2d E O){k id:Nat}{B:Z1z}{ops:Array Oper}{σ σ':St}{Q:Exit->St->Prop}(o:Q4e O.pf B ops=true)(p:Inv B σ.t)(h:arun E O ops ops.toList σ=some σ')(q:Q .normal σ'):AW E k (.region id ops true) Q σ:=by
 intro γ₀ H₀ Φ₀ w₀ a w e r
 refine wp_region_any n ?_
 have g:todo ops (Array.replicate ops.size false)=List.range ops.size:=by
  refine List.filter_eq_self.2 λi b=>?_
  simp[G1y.1 b]
 have t:Z3t ops (List.range ops.size)=ops.toList:=by
  refine G4n λi=>?_
  have u:∀ (l:List Nat),(∀i∈l,i<ops.size)->Z3t ops l=l.map λi=>ops.getD i default:=by
   intro l
   induction l with
   | nil=>intro _;rfl
   | cons i l x=>
     intro e
     have b:=e i (by simp)
     have:=x λj d=>e j (by simp[d])
     unfold Z3t at this |-
     simp[b,this]
  have:=u (List.range ops.size) λi b=>G1y.1 b
  rw[this]
  by_cases b:i<ops.size
  ·simp[b]
  simp[b]
 refine J8y hS o (σ':=σ') (γ₀:=γ₀) (H₀:=H₀) (Φ₀:=Φ₀) (w₀:=w₀) (λC w' y=>⟨σ',y,q⟩) ops.size _ σ a _ (by simp) (by rw[g];simp) ?_ p (by rw[g,t];exact h) ?_
 ·intro j d
  exfalso
  by_cases m:j<ops.size
  ·simp[m]at d
  simp[m]at d
 obtain⟨⟨γ,Φ,f,hs⟩,z,hd,A⟩:=r
 have hk:Ok E γ σ.h Φ w γ σ.h Φ { w with drawn:=w.drawn+1 }:=f.inv.grow (λ_ _=>rfl) (G0r _) rfl rfl rfl (λ_ _ h=>h) (λ_ _ h _=>h) f.inv.phi
 exact⟨⟨γ,Φ,f.trans hk,λi=>(hs i).mono hk.evo⟩,z,hd,A⟩
theorem AW.drawn(a:E.P.follows .mixedOrders=true)(hS:Q2d E O){k id:Nat}{ops:Array Oper}{σ σ':St}{Q:Exit->St->Prop}(b:Z8c O.pf ops=true)(h:arun E O ops ops.toList σ=some σ')(d:Q .normal σ'):AW E k (.region id ops true) Q σ:=
 AW.drawnB (B:=[]) a hS b (λp e=>by cases e) h d
end
end Go.Abs
