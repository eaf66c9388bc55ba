import Derived.Test.YtljahlbklgnfhaaGreatDoorA21
set_option linter.unusedVariables false
set_option linter.unusedSimpArgs false
set_option linter.defProp false
namespace Go.Abs
open Go.RowKit
theorem V5y{t:Nat->AV}{d:Nat}{v:AV}{x:Operand}(h:x≠.tmp d):ev (upd t d v) x=ev t x:=by
 cases x with
 | tmp i=>
   show(if i=d then v else t i)=t i
   rw[if_neg (λe=>h (by rw[e]))]
 | _=>rfl
theorem X6p{t:Nat->AV}{d e:Nat}{v u:AV}(h:d≠e):upd (upd t d v) e u=upd (upd t e u) d v:=by
 funext i
 unfold upd
 by_cases a:i=e
 ·subst a
  have:¬ i=d:=λe=>h e.symm
  simp[this]
 simp[a]
section
variable {E:Env}{O:Orc}
theorem J8x{T:Nat->Option TI}{t a:Nat->AV}{H:List AObj}(op:Op)(h:∀x∈op.operands,ev t x=ev a x):qval T t H op=qval T a H op:=by
 have Q4f:∀ps:Array (Nat×Operand),(∀x∈(ps.toList.map (·.2)),ev t x=ev a x)->(ps.toList.map λp=>(p.1,ev t p.2))=(ps.toList.map λp=>(p.1,ev a p.2)):=λps j=>
  G4j λp k=>by rw[j p.2 (G3i.2 ⟨p,k,rfl⟩)]
 cases op<;>simp only[Op.operands]at h<;>simp only[qval]
 case build d ps=>rw[Q4f ps λx e=>h x (by simpa using e)]
 case slice d x lo hi mx=>cases lo<;>cases hi<;>cases mx<;>simp_all
 case call c=>
  obtain⟨callee,args,g⟩:=c
  have i:∀x∈args.toList,ev t x=ev a x:=λx e=>h x (by
   simp only[Call.operands,Array.mem_append]
   exact .inr (by simpa using e))
  cases callee with
  | value f=>rfl
  | invoke r m=>rfl
  | builtin b=>
    cases b with
    | len=>
      show(match args.toList,g.toList with
       | [x],[d]=>qlen T H d (nrm (ev t x))
       | _,_=>none)=(match args.toList,g.toList with
       | [x],[d]=>qlen T H d (nrm (ev a x))
       | _,_=>none)
      generalize args.toList=l at i
      generalize g.toList=m
      split
      ·rw[i _ (by simp)]
      rfl
    | _=>rfl
 case makeFunc fn first caps=>
  cases fn with
  | func f=>
    have n:caps.toList.map (ev t)=caps.toList.map (ev a):=G4j λx e=>h x (by simp;exact .inr (by simpa using e))
    show(if first.size=0 then(Z1f (caps.toList.map (ev t))).map (AV.fn f)else none)=(if first.size=0 then(Z1f (caps.toList.map (ev a))).map (AV.fn f)else none)
    rw[n]
  | _=>rfl
 all_goals(first|rfl|(simp_all;done))
theorem J3i{t a:Nat->AV}{n:Nat}{H:List AObj}(o:Oper)(h:∀x∈o.op.operands,ev t x=ev a x):aop E O ⟨t,n,H⟩ o=aop E O ⟨a,n,H⟩ o:=by
 obtain⟨dst,op,w,z,after,A⟩:=o
 have hq:=J8x (T:=E.T) (H:=H) op h
 have Q4f:∀ps:Array (Nat×Operand),(∀x∈(ps.toList.map (·.2)),ev t x=ev a x)->(ps.toList.map λp=>(p.1,ev t p.2))=(ps.toList.map λp=>(p.1,ev a p.2)):=λps s=>
  G4j λp g=>by rw[s p.2 (G3i.2 ⟨p,g,rfl⟩)]
 cases op<;>simp only[Op.operands]at h<;>simp only[aop]
 case buildSlice ty len ps=>rw[Q4f ps λx k=>h x (by simpa using k)]
 case build ty ps=>rw[Q4f ps λx k=>h x (by simpa using k),hq]
 case call c=>
  obtain⟨callee,args,j⟩:=c
  have d:∀x∈args.toList,ev t x=ev a x:=λx k=>h x (by
   simp only[Call.operands,Array.mem_append]
   exact .inr (by simpa using k))
  have g:args.toList.map (ev t)=args.toList.map (ev a):=G4j d
  cases callee with
  | value f=>
    cases f with
    | func f=>simp only[g]
    | tmp i=>
      have u:t i=a i:=h (.tmp i) (by simp[Call.operands])
      simp only[g,u]
    | _=>exact G3t (Option.map λr=>(r,H)) hq
  | invoke r m=>exact G3t (Option.map λr=>(r,H)) hq
  | builtin b=>
    cases b with
    | append=>
      show(match args.toList,j.toList with
       | [x,y],[e,t2]=>if e=t2 then Z2p E H e (ev t x) (ev t y)else Q5y E H e t2 (ev t x) (ev t y)
       | _,_=>none)=(match args.toList,j.toList with
       | [x,y],[e,t2]=>if e=t2 then Z2p E H e (ev a x) (ev a y)else Q5y E H e t2 (ev a x) (ev a y)
       | _,_=>none)
      generalize args.toList=l at d
      generalize j.toList=m
      split
      ·rw[d _ (by simp),d _ (by simp)]
      rfl
    | min=>simp only[g]
    | max=>simp only[g]
    | unsafeSliceData=>
      show(match args.toList with
       | [x]=>(Z8d H (ev t x)).map λr=>(r,H)
       | _=>none)=(match args.toList with
       | [x]=>(Z8d H (ev a x)).map λr=>(r,H)
       | _=>none)
      generalize args.toList=l at d
      split
      ·rw[d _ (by simp)]
      rfl
    | unsafeString=>
      show(match args.toList,j.toList with
       | [x,y],[q,_]=>(J8y E H q (ev t x) (ev t y)).map λr=>(r,H)
       | _,_=>none)=(match args.toList,j.toList with
       | [x,y],[q,_]=>(J8y E H q (ev a x) (ev a y)).map λr=>(r,H)
       | _,_=>none)
      generalize args.toList=l at d
      generalize j.toList=m
      split
      ·rw[d _ (by simp),d _ (by simp)]
      rfl
    | _=>exact G3t (Option.map λr=>(r,H)) hq
 all_goals(first|(rw[hq];done)|(simp_all;done))
def Q5o(pf:FuncId->Bool)(o:Oper):Nat:=
 match o.op with
 | .move _|.assign _|.pick _ _ _|.binOp _ _ _ _ _|.unOp _ _ _|.fieldAddr _ _ _|.extract _ _|.nilCheck _|.field _ _ _|.makeInterface _ _=>0
 | .convert _ _ _|.load _ _|.indexAddr _ _ _|.index _ _ _|.slice _ _ _ _ _|.build _ _|.lookup _ _ _ _=>1
 | .call ⟨.builtin .len,_,_⟩=>1
 | .call ⟨.builtin .min,_,_⟩=>0
 | .call ⟨.builtin .max,_,_⟩=>0
 | .call ⟨.value (.func f),_,_⟩=>if pf f then 1 else 3
 | .buildSlice _ len _=>if len==0 then 2 else 1
 | .alloc _|.box _ _|.makeMap _ none|.makeSlice _ _ _=>2
 | _=>3
theorem Y0e{o:Oper}(h:Q5o O.pf o=0){t:Nat->AV}{n:Nat}{H H1:List AObj}{r:AV}(g:aop E O ⟨t,n,H⟩ o=some (r,H1)):H1=H/\∀H2,aop E O ⟨t,n,H2⟩ o=some (r,H2):=by
 obtain⟨dst,op,w,y,after,z⟩:=o
 have i:∀ (q:List AObj->Option AV),(∀H H',q H=q H')->((q H).map λr=>(r,H))=some (r,H1)->H1=H/\∀H2,((q H2).map λr=>(r,H2))=some (r,H2):=by
  intro q hq k
  obtain⟨x,l,p⟩:=G0g.1 k
  injection p with s u
  subst s u
  exact⟨rfl,λH2=>by rw[hq H2 H,l];rfl⟩
 cases op with
 | call c=>
   obtain⟨callee,args,A⟩:=c
   cases callee with
   | value f=>
     cases f with
     | func f=>
       simp only[Q5o]at h
       split at h<;>cases h
     | _=>cases h
   | invoke r m=>cases h
   | builtin b=>
     cases b with
     | min=>exact i (λ_=>qmm false (args.toList.map (ev t))) (λ_ _=>rfl) g
     | max=>exact i (λ_=>qmm true (args.toList.map (ev t))) (λ_ _=>rfl) g
     | _=>cases h
 | makeMap C r=>cases r<;>cases h
 | move x=>exact i (λH=>qval E.T t H (.move x)) (λ_ _=>rfl) g
 | assign x=>exact i (λH=>qval E.T t H (.assign x)) (λ_ _=>rfl) g
 | pick a b c=>exact i (λH=>qval E.T t H (.pick a b c)) (λ_ _=>rfl) g
 | binOp a b c d e=>
   simp only[aop]at g |-
   cases j:Z5z d with
   | true=>
     simp only[j,if_true]at g |-
     exact i (λ_=>J2d E.T a b (ev t c)) (λ_ _=>rfl) g
   | false=>
     simp only[j,G2z,G2i]at g |-
     cases hq:E.eqT b with
     | some ks=>
       simp only[hq]at g |-
       exact i (λ_=>qeq ks a (ev t c) (ev t d)) (λ_ _=>rfl) g
     | none=>
       simp only[hq]at g |-
       exact i (λ_=>qbin E.T a b (ev t c) (ev t d)) (λ_ _=>rfl) g
 | unOp a b c=>exact i (λH=>qval E.T t H (.unOp a b c)) (λ_ _=>rfl) g
 | fieldAddr a b c=>exact i (λH=>qval E.T t H (.fieldAddr a b c)) (λ_ _=>rfl) g
 | extract a b=>exact i (λH=>qval E.T t H (.extract a b)) (λ_ _=>rfl) g
 | nilCheck a=>exact i (λH=>qval E.T t H (.nilCheck a)) (λ_ _=>rfl) g
 | field a b c=>exact i (λ_=>Q4k E a c (ev t b)) (λ_ _=>rfl) g
 | makeInterface a b=>exact i (λ_=>qmkI E a (ev t b)) (λ_ _=>rfl) g
 | buildSlice a b c=>
   simp only[Q5o]at h
   split at h<;>cases h
 | _=>cases h
theorem Q8k{o:Oper}(h:Q5o O.pf o=1){t:Nat->AV}{n:Nat}{H H1:List AObj}{r:AV}(g:aop E O ⟨t,n,H⟩ o=some (r,H1)):H1=H:=by
 obtain⟨dst,op,w,y,after,z⟩:=o
 have i:∀ (q:Option AV),(q.map λr=>(r,H))=some (r,H1)->H1=H:=by
  intro q j
  obtain⟨x,A,k⟩:=G0g.1 j
  injection k with C l
  exact l.symm
 cases op with
 | call c=>
   obtain⟨callee,args,p⟩:=c
   cases callee with
   | value f=>
     cases f with
     | func f=>
       simp only[Q5o]at h
       split at h
       ·rename_i s
        simp only[aop,s,if_true]at g
        exact i _ g
       cases h
     | _=>cases h
   | invoke r m=>cases h
   | builtin b=>
     cases b with
     | len=>exact i (qval E.T t H (.call ⟨.builtin .len,args,p⟩)) g
     | _=>cases h
 | makeMap D r=>cases r<;>cases h
 | convert a b c=>exact i (qval E.T t H (.convert a b c)) g
 | load a b=>exact i (qval E.T t H (.load a b)) g
 | indexAddr a b c=>exact i (qval E.T t H (.indexAddr a b c)) g
 | index a b c=>exact i (qval E.T t H (.index a b c)) g
 | slice a b c d e=>exact i (qval E.T t H (.slice a b c d e)) g
 | buildSlice a b c=>
   have hb:(b==0)=false:=by
    cases hb:b==0 with
    | false=>rfl
    | true=>simp[Q5o,hb]at h
   simp only[aop,hb,G1o,G2z,G2i,Q2y]at g
   split at g
   ·split at g
    ·split at g
     ·split at g
      ·injection g with g
       injection g with F u
       exact u.symm
      cases g
     cases g
    cases g
   cases g
 | build a b=>
   simp only[aop]at g
   split at g
   ·exact i _ g
   exact i _ g
 | lookup a b c d=>cases g
 | _=>cases h
def Goes(H H':List AObj):Prop:=∀ (l:Nat) o,H[l]?=some o->H'[l]?=some o
def Q9r(H H':List AObj):Prop:=∀ (l:Nat) o,H[l]?=some o->H'[l]?=some o\/∃cs,o=.var cs
theorem Goes.v{H H':List AObj}(h:Goes H H'):Q9r H H':=λl o a=>.inl (h l o a)
theorem Goes.append(H X:List AObj):Goes H (H++X):=λl o h=>by
 rw[G0l (G0f.1 h).1]
 exact h
variable {T:Nat->Option TI}{H H':List AObj}
theorem Z0z(d:Q9r H H'){a:AV}{p:PV}(h:toPV H a=some p):toPV H' a=some p:=by
 cases a with
 | vec l n=>
   simp only[toPV]at h |-
   cases b:H[l]? with
   | none=>simp[b]at h
   | some o=>
     rw[b]at h
     rcases d l o b with e|⟨cs,rfl⟩
     ·rw[e]
      exact h
     simp at h
 | _=>exact h
theorem J9a(b:Q9r H H'){t:TypeId}{x r:AV}(d:∀l o,x=.ref l o->H'[l]?=H[l]?)(h:Z5j T H t x=some r):Z5j T H' t x=some r:=by
 unfold Z5j at h |-
 cases hT:T t with
 | none=>simp[hT]at h
 | some ti=>
   rw[hT]at h
   cases x with
   | ref l o=>
     simp only at h |-
     rw[d l o rfl]
     exact h
   | vptr l n i o=>
     simp only at h |-
     cases a:H[l]? with
     | none=>simp[a]at h
     | some o'=>
       rw[a]at h
       rcases b l o' a with e|⟨cs,rfl⟩
       ·rw[e]
        exact h
       simp at h
   | _=>exact h
theorem Z5k(d:Q9r H H'){t:TypeId}{x i r:AV}(h:Q3a T H t x i=some r):Q3a T H' t x i=some r:=by
 unfold Q3a at h |-
 split at h
 ·split at h
  ·rename_i hT _ _ k m _ o
   split at h
   ·rename_i f
    rw[if_pos f]
    cases x with
    | vec l n=>
      cases a:rowAt H l with
      | none=>simp[a]at h
      | some p=>
        obtain⟨o',g,b⟩:=Q4r a
        rcases d l o' g with e|⟨cs,rfl⟩
        ·have j:rowAt H' l=some p:=by
          unfold rowAt
          rw[e]
          exact b
         simp only[j]
         simp only[a]at h
         exact h
        cases b
    | pv p=>cases p<;>exact h
    | _=>exact h
   cases h
  cases h
 cases h
theorem J4k(f:Q9r H H'){s d:TypeId}{x r:AV}(h:Z8f T H s d x=some r):Z8f T H' s d x=some r:=by
 cases x with
 | vec l n=>
   simp only[Z8f]at h |-
   unfold J6v at h |-
   cases a:H[l]? with
   | none=>rw[a]at h;split at h<;>first|cases h|(rename_i b;cases b)
   | some o=>
     rw[a]at h
     rcases f l o a with e|⟨cs,rfl⟩
     ·rw[e]
      exact h
     split at h<;>first|cases h|(rename_i b;cases b)
 | _=>exact h
theorem J4h(d:Q9r H H'){t:TypeId}{x r:AV}{a b:Option AV}(h:Z3i T H t x a b=some r):Z3i T H' t x a b=some r:=by
 unfold Z3i at h |-
 split at h
 ·exact h
 ·split at h
  ·rename_i e f
   simp only[e,Z0z d f]
   exact h
  cases h
 cases h
theorem Z8e(e:Q9r H H'){a:List (Nat×Nat)}:∀ {f:List (Nat×AV)} {cs r:List PV},Z7r H a cs f=some r->Z7r H' a cs f=some r
 | [],cs,r,h=>h
 | (i,v)::rest,cs,r,h=>by
   simp only[Z7r]at h |-
   cases b:a[i]? with
   | none=>simp[b]at h
   | some p=>
     cases d:toPV H v with
     | none=>simp[b,d]at h
     | some q=>
       rw[b,d]at h
       rw[Z0z e d]
       simp only at h |-
       split at h
       ·rename_i g
        rw[if_pos g]
        exact Z8e e h
       cases h
theorem J4m(b:Q9r H H'){t:TypeId}{a:List (Nat×AV)}{r:AV}(h:Z5o T H t a=some r):Z5o T H' t a=some r:=by
 unfold Z5o at h |-
 split at h
 ·obtain⟨cs,d,rfl⟩:=G0g.1 h
  rw[Z8e b d]
  rfl
 cases h
theorem X1u(a:Q9r H H'){t:TypeId}{x r:AV}(h:qlen T H t x=some r):qlen T H' t x=some r:=by
 unfold qlen at h |-
 split at h
 ·exact h
 ·exact h
 ·split at h
  ·split at h
   ·rename_i b
    simp only[((a _ _ b).resolve_right (by rintro⟨cs,d⟩;cases d))]
    exact h
   cases h
  cases h
 cases h
theorem Z0o(b:Q9r H H'):∀ {az:List AV} {ps:List PV},Q6c H az=some ps->Q6c H' az=some ps
 | [],ps,h=>h
 | a::az,ps,h=>by
   simp only[Q6c]at h |-
   split at h
   ·rename_i p s d hs
    rw[Z0z b d,Z0o b hs]
    exact h
   cases h
theorem J8l(b:Q9r H H'){a:AV}{p:PV}(h:Q9o H a=some p):Q9o H' a=some p:=by
 cases a with
 | agg vs=>
   simp only[Q9o]at h |-
   obtain⟨ps,d,rfl⟩:=G0g.1 h
   rw[Z0o b d]
   rfl
 | vec l n=>exact Z0z (a:=.vec l n) b h
 | pv _=>exact h
 | nils=>exact h
 | full _=>exact h
 | _=>simp[Q9o]at h
theorem Z6e(a:Q9r H H'){sz:Nat}:∀ {b:List (Nat×AV)} {i:Nat} {r:List PV},Q8q H sz i b=some r->Q8q H' sz i b=some r
 | [],i,r,h=>h
 | (j,v)::rest,i,r,h=>by
   simp only[Q8q]at h |-
   split at h
   ·rename_i d
    rw[if_pos d]
    split at h
    ·rename_i p e
     rw[J8l a e]
     simp only
     split at h
     ·rename_i f
      rw[if_pos f]
      obtain⟨xs,g,rfl⟩:=G0g.1 h
      rw[Z6e a g]
      rfl
     cases h
    cases h
   cases h
theorem J9l{o:Oper}(h:Q5o O.pf o=1){t:Nat->AV}{n:Nat}{H1:List AObj}{r:AV}(j:Q9r H H')(g:∀u x l k,o.op=.load u x->ev t x=.ref l k->H'[l]?=H[l]?)(i:aop E O ⟨t,n,H⟩ o=some (r,H1)):aop E O ⟨t,n,H'⟩ o=some (r,H'):=by
 obtain⟨dst,op,M,N,after,P⟩:=o
 have A:=g
 clear g
 have s:∀ (q w:Option AV),(∀x,q=some x->w=some x)->(q.map λr=>(r,H))=some (r,H1)->(w.map λr=>(r,H'))=some (r,H'):=by
  intro q w hq j
  obtain⟨x,g,C⟩:=G0g.1 j
  injection C with D Q
  subst D
  rw[hq x g]
  rfl
 cases op with
 | call c=>
   obtain⟨callee,args,y⟩:=c
   cases callee with
   | value f=>
     cases f with
     | func f=>
       simp only[Q5o]at h
       split at h
       ·rename_i F
        simp only[aop,F,if_true]at i |-
        refine s _ _ (λx g=>?_) i
        unfold J9d at g |-
        split at g
        ·rename_i ps I
         simp only[Z0o j I]
         exact g
        cases g
       cases h
     | _=>cases h
   | invoke r m=>cases h
   | builtin b=>
     cases b with
     | len=>
       refine s (match args.toList,y.toList with
        | [x],[u]=>qlen E.T H u (nrm (ev t x))
        | _,_=>none) (match args.toList,y.toList with
        | [x],[u]=>qlen E.T H' u (nrm (ev t x))
        | _,_=>none) (λx g=>?_) i
       split at g
       ·exact X1u j g
       cases g
     | _=>cases h
 | makeMap u r=>cases r<;>cases h
 | convert a b c=>exact s (qval E.T t H (.convert a b c)) _ (λx g=>J4k j g) i
 | load a b=>exact s (qval E.T t H (.load a b)) _ (λx g=>J9a j (λl k=>A a b l k rfl) g) i
 | indexAddr a b c=>exact s (qval E.T t H (.indexAddr a b c)) _ (λx g=>Z5k j g) i
 | index a b c=>exact s (qval E.T t H (.index a b c)) _ (λx g=>g) i
 | slice a b c d e=>
   cases e with
   | none=>exact s (qval E.T t H (.slice a b c d none)) _ (λx g=>J4h j g) i
   | some e=>exact s (qval E.T t H (.slice a b c d (some e))) _ (λx g=>g) i
 | build a b=>
   simp only[aop]at i |-
   cases z:E.ownT a with
   | true=>
     simp only[z,if_true]at i |-
     exact s (Z5n E.T a (b.toList.map λp=>(p.1,ev t p.2))) _ (λx g=>g) i
   | false=>
     simp only[z,G2z,G2i]at i |-
     exact s (qval E.T t H (.build a b)) _ (λx g=>J4m j g) i
 | buildSlice a b c=>
   have hb:(b==0)=false:=by
    cases hb:b==0 with
    | false=>rfl
    | true=>simp[Q5o,hb]at h
   simp only[aop,hb,G1o,G2z,G2i,Q2y]at i |-
   split at i
   ·split at i
    ·rename_i hT _ S U
     split at i
     ·rename_i J
      rw[if_pos J]
      split at i
      ·rename_i xs K
       simp only[Z6e j K]
       injection i with i
       injection i with L V
       rw[L]
      cases i
     cases i
    cases i
   cases i
 | lookup a b c d=>cases i
 | _=>cases h
theorem Y0d{o:Oper}(h:Q5o O.pf o=2){t:Nat->AV}{n:Nat}{H1:List AObj}{r:AV}(d:aop E O ⟨t,n,H⟩ o=some (r,H1)):Goes H H1:=by
 obtain⟨dst,op,i,j,after,k⟩:=o
 cases op with
 | call c=>
   obtain⟨callee,args,p⟩:=c
   cases callee with
   | value f=>
     cases f with
     | func f=>
       simp only[Q5o]at h
       split at h<;>cases h
     | _=>cases h
   | invoke r m=>cases h
   | builtin b=>cases b<;>cases h
 | makeMap g r=>
   cases r with
   | none=>
     cases d
   | some _=>cases h
 | buildSlice a b c=>
   simp only[aop]at d
   split at d
   ·unfold Q8r at d
    repeat' split at d
    all_goals first
     | (cases d;done)
     | (simp only[G0b,G1d]at d;rw[<-d.2];exact .append _ _)
   unfold Q2y at d
   repeat' split at d
   all_goals first
    | (cases d;done)
    | (simp only[G0b,G1d]at d;rw[<-d.2];exact λl o h=>h)
 | alloc g=>
   simp only[aop,J3d]at d
   split at d
   ·simp only[G0b,G1d]at d
    rw[<-d.2]
    exact .append _ _
   split at d
   ·simp only[G0b,G1d]at d
    rw[<-d.2]
    exact .append _ _
   split at d
   ·split at d
    ·simp only[G0b,G1d]at d
     rw[<-d.2]
     exact .append _ _
    cases d
   cases d
 | box e x=>
   simp only[aop,ebox]at d
   split at d<;>try split at d
   all_goals first
    | cases d;done
    | (simp only[G0b,G1d]at d
       rw[<-d.2]
       exact .append _ _)
 | makeSlice a b c=>
   simp only[aop,Q4s]at d
   split at d
   ·split at d
    ·split at d
     ·split at d
      ·simp only[G0b,G1d]at d
       rw[<-d.2]
       exact .append _ _
      cases d
     cases d
    cases d
   cases d
 | _=>cases h
def putT(t:Nat->AV)(r:AV):Option Nat->Nat->AV
 | none=>t
 | some d=>upd t d r
theorem J0d{σ σ':St}{dst:Option Nat}{r:AV}{h:List AObj}(a:put σ dst r h=some σ'):σ'=⟨putT σ.t r dst,σ.n,h⟩/\∀d,dst=some d->d<σ.n:=by
 unfold put at a
 cases dst with
 | none=>
   simp only[G0b]at a
   subst a
   exact⟨rfl,λd hd=>by cases hd⟩
 | some d=>
   simp only at a
   split at a
   ·simp only[G0b]at a
    subst a
    exact⟨rfl,λe b=>by injection b with b;subst b;assumption⟩
   cases a
def gdec(ops:Array Oper)(t:Nat->AV)(o:Oper):Option Bool:=
 match o.guard with
 | none=>some true
 | some (j,a)=>match (ops[j]?).bind (·.dst)with
   | some g=>match t g with
     | .pv (.bool b)=>some (b==a)
     | .tup []=>some false
     | _=>none
   | none=>none
def Q2d(E:Env)(O:Orc)(ops:Array Oper)(σ:St)(o:Oper):Option (AV×List AObj):=
 match gdec ops σ.t o with
 | some true=>aop E O σ o
 | some false=>some (.tup [],σ.h)
 | none=>none
theorem Q4u{ops:Array Oper}{σ:St}{o:Oper}:Q8a E O ops σ o=(Q2d E O ops σ o).bind λr=>put σ o.dst r.1 r.2:=by
 unfold Q8a Q2d gdec
 cases o.guard with
 | none=>rfl
 | some p=>
   obtain⟨j,a⟩:=p
   simp only
   cases(ops[j]?).bind (·.dst)with
   | none=>rfl
   | some g=>
     simp only
     generalize σ.t g=v
     cases v with
     | pv p=>
       cases p with
       | bool b=>
         simp only
         cases hb:b==a with
         | true=>
           rw[if_pos (by simpa using hb)]
         | false=>
           rw[if_neg (by simpa using hb)]
           rfl
       | _=>rfl
     | tup l=>cases l<;>rfl
     | _=>rfl
theorem J9q{ops:Array Oper}{o:Oper}{t:Nat->AV}{d:Nat}{v:AV}(h:d∉o.looksAt ops):gdec ops (upd t d v) o=gdec ops t o:=by
 unfold gdec
 cases a:o.guard with
 | none=>rfl
 | some p=>
   obtain⟨j,f⟩:=p
   simp only
   cases hd:(ops[j]?).bind (·.dst)with
   | none=>rfl
   | some g=>
     have b:g≠d:=λe=>h (by subst e;simp[Oper.looksAt,a,hd])
     simp only[upd,if_neg b]
theorem Z6q{ops:Array Oper}{o:Oper}{t:Nat->AV}{n d:Nat}{v:AV}{X:List AObj}(h:d∉o.looksAt ops):Q2d E O ops ⟨upd t d v,n,X⟩ o=Q2d E O ops ⟨t,n,X⟩ o:=by
 have a:aop E O ⟨upd t d v,n,X⟩ o=aop E O ⟨t,n,X⟩ o:=J3i o (λx b=>V5y (λe=>h (by
  subst e
  exact G4o _ (G3m.2 ⟨.tmp d,by simpa using b,rfl⟩))))
 unfold Q2d
 simp only[J9q h,a]
def J4b(pf:FuncId->Bool)(x y:Oper):Bool:=
 Q5o pf x==0||Q5o pf y==0||(Q5o pf x==1&&Q5o pf y==1)||(Q5o pf x==1&&Q5o pf y==2)
theorem K0i{ops:Array Oper}{o:Oper}(h:Q5o O.pf o=0){t:Nat->AV}{n:Nat}{H1:List AObj}{r:AV}(a:Q2d E O ops ⟨t,n,H⟩ o=some (r,H1)):H1=H/\∀H2,Q2d E O ops ⟨t,n,H2⟩ o=some (r,H2):=by
 unfold Q2d at a |-
 simp only at a |-
 cases d:gdec ops t o with
 | none=>simp[d]at a
 | some b=>
   rw[d]at a
   cases b with
   | true=>exact Y0e h a
   | false=>
     simp only[G0b,G1d]at a |-
     exact⟨a.2.symm,λH2=>⟨a.1,trivial⟩⟩
theorem J7r{ops:Array Oper}{o:Oper}(h:Q5o O.pf o=1){t:Nat->AV}{n:Nat}{H1:List AObj}{r:AV}(a:Q2d E O ops ⟨t,n,H⟩ o=some (r,H1)):H1=H/\∀H2,Q9r H H2->(∀d x l k,o.op=.load d x->ev t x=.ref l k->gdec ops t o=some true->H2[l]?=H[l]?)->Q2d E O ops ⟨t,n,H2⟩ o=some (r,H2):=by
 unfold Q2d at a |-
 simp only at a |-
 cases e:gdec ops t o with
 | none=>simp[e]at a
 | some b=>
   rw[e]at a
   cases b with
   | true=>exact⟨Q8k h a,λH2 f g=>J9l h f (λd x l k i j=>g d x l k i j rfl) a⟩
   | false=>
     simp only[G0b,G1d]at a |-
     exact⟨a.2.symm,λH2 _ _=>⟨a.1,trivial⟩⟩
theorem K0h{ops:Array Oper}{o:Oper}(h:Q5o O.pf o=2){t:Nat->AV}{n:Nat}{H1:List AObj}{r:AV}(a:Q2d E O ops ⟨t,n,H⟩ o=some (r,H1)):Goes H H1:=by
 unfold Q2d at a
 simp only at a
 cases d:gdec ops t o with
 | none=>simp[d]at a
 | some b=>
   rw[d]at a
   cases b with
   | true=>exact Y0d h a
   | false=>
     simp only[G0b,G1d]at a
     rw[<-a.2]
     exact λl o h=>h
theorem X2p{ops:Array Oper}{o:Oper}{t:Nat->AV}{n:Nat}{H1:List AObj}{r:AV}{e:TypeId}{x:Operand}{l k:Nat}(b:Q2d E O ops ⟨t,n,H⟩ o=some (r,H1))(d:o.op=.load e x)(f:ev t x=.ref l k)(g:gdec ops t o=some true):∃c,H[l]?=some c:=by
 unfold Q2d at b
 simp only[g]at b
 obtain⟨dst,op,j,m,after,p⟩:=o
 simp only at d
 subst d
 simp only[aop,qval,f]at b
 obtain⟨v,a,_⟩:=G0g.1 b
 unfold Z5j at a
 split at a
 ·cases a
 simp only at a
 split at a
 ·rename_i i
  exact⟨_,i⟩
 cases a
abbrev Z0w:=List (Nat×Option Nat)
def J0y:AV->Option Nat->Bool
 | .any,_=>true
 | .tup [],_=>true
 | .ref l _,some m=>decide (l=m)
 | .ref _ _,none=>false
 | _,none=>true
 | _,some _=>false
def Inv(B:Z0w)(t:Nat->AV):Prop:=∀p∈B,J0y (t p.1) p.2=true
def Z8k(B:Z0w)(o:Oper):Bool:=
 match o.dst with
 | none=>true
 | some d=>B.all λp=>p.1 != d||(match o.op with
   | .fieldAddr _ (.tmp j) _=>B.contains (j,p.2)
   | .indexAddr _ _ _=>p.2==none
   | _=>false)
def J4c(pf:FuncId->Bool)(B:Z0w)(x y:Oper):Bool:=
 Q5o pf x==1&&(match y.op with
  | .store _ (.tmp q) _=>B.any λb=>b.1==q&&(match b.2 with
    | some l=>(match x.op with
      | .load _ (.tmp p)=>B.any λc=>c.1==p&&c.2 != some l
      | .load _ _=>false
      | _=>true)
    | none=>false)
  | _=>false)
theorem J7f{B:Z0w}{ops:Array Oper}{o:Oper}(hk:Z8k B o=true){σ σ':St}(h:Q8a E O ops σ o=some σ')(q:Inv B σ.t):Inv B σ'.t:=by
 obtain⟨t,n,H⟩:=σ
 rw[Q4u]at h
 obtain⟨⟨r,H1⟩,g,z⟩:=G1n.1 h
 obtain⟨e,hd⟩:=J0d z
 subst e
 intro p s
 have k:=q p s
 simp only at k |-
 cases A:o.dst with
 | none=>exact k
 | some d=>
   show J0y (if p.1=d then r else t p.1) p.2=true
   split
   rotate_left
   ·exact k
   rename_i C
   unfold Z8k at hk
   rw[A]at hk
   have i:=G0t.1 hk p s
   simp only[C,bne_self_eq_false,G1p]at i
   unfold Q2d at g
   simp only at g
   cases w:gdec ops t o with
   | none=>simp[w]at g
   | some b=>
     rw[w]at g
     cases b with
     | false=>
       simp only[G0b,G1d]at g
       rw[<-g.1]
       cases p.2<;>rfl
     | true=>
       simp only at g
       obtain⟨dst,op,I,J,after,K⟩:=o
       simp only at i g
       split at i
       ·rename_i L j f
        have x:=q (j,p.2) (by simpa using i)
        simp only[aop,qval]at g
        obtain⟨v,a,l⟩:=G0g.1 g
        injection l with m D
        subst m
        have F:ev t (.tmp j)=t j:=rfl
        rw[F]at a
        simp only at x
        unfold Q6p at a
        split at a
        ·split at a
         ·split at a
          ·cases a
          generalize t j=u at x a
          cases u<;>simp only[G0b,reduceCtorEq]at a
          ·subst a;cases y:p.2<;>simp_all [J0y]
          ·subst a;cases y:p.2<;>simp_all [J0y]
          subst a;cases y:p.2<;>simp_all [J0y]
         cases a
        cases a
       ·have i:p.2=none:=by simpa using i
        simp only[aop,qval]at g
        obtain⟨v,a,l⟩:=G0g.1 g
        injection l with m D
        subst m
        rw[i]
        unfold Q3a at a
        repeat'(split at a)
        all_goals first
         | (cases a;done)
         | (simp only[G0b]at a;subst a;rfl)
       cases i
theorem J8q{ops:Array Oper}{o:Oper}{t:Nat->AV}{n:Nat}{H2:List AObj}{r:AV}{u:TypeId}{q l:Nat}{x:Operand}(d:Q2d E O ops ⟨t,n,H⟩ o=some (r,H2))(p:o.op=.store u (.tmp q) x)(hq:J0y (t q) (some l)=true):Q9r H H2/\∀l',l'≠l->H2[l']?=H[l']?:=by
 unfold Q2d at d
 simp only at d
 cases s:gdec ops t o with
 | none=>simp[s]at d
 | some b=>
   rw[s]at d
   cases b with
   | false=>
     simp only[G0b,G1d]at d
     rw[<-d.2]
     exact⟨λl o h=>.inl h,λ_ _=>rfl⟩
   | true=>
     simp only at d
     obtain⟨dst,op,C,D,after,F⟩:=o
     simp only at p
     subst p
     simp only[aop]at d
     obtain⟨h,a,w⟩:=G0g.1 d
     injection w with I y
     subst y
     have z:ev t (.tmp q)=t q:=rfl
     rw[z]at a
     have g:∀ (cs c:List AV),H[l]?=some (.var c)->Q9r H (H.set l (.var cs))/\∀l',l'≠l->(H.set l (.var cs))[l']?=H[l']?:=by
      intro cs c j
      refine⟨λi o f=>?_,λl' A=>G1e (Ne.symm A)⟩
      by_cases e:i=l
      ·subst e
       rw[j]at f
       injection f with f
       exact .inr ⟨c,f.symm⟩
      rw[G1e (Ne.symm e)]
      exact .inl f
     unfold J3a at a
     split at a
     ·cases a
     split at a
     ·rename_i k
      rw[k]at hq
      have j:_=l:=G3y hq
      subst j
      split at a
      ·rename_i cs m
       split at a
       ·split at a
        ·split at a
         ·injection a with a
          subst a
          exact g _ _ m
         cases a
        ·split at a
         ·injection a with a
          subst a
          exact g _ _ m
         cases a
        cases a
       ·cases a
       split at a
       ·injection a with a
        subst a
        exact g _ _ m
       cases a
      cases a
     ·rename_i k
      rw[k]at hq
      simp[J0y]at hq
     cases a
theorem swap{B:Z0w}{ops:Array Oper}{x y:Oper}(W:x.apart ops y=true)(hk:(J4b O.pf x y||J4c O.pf B x y)=true){σ F σ2:St}(I:Inv B σ.t)(J:Q8a E O ops σ x=some F)(K:Q8a E O ops F y=some σ2):
 ∃L,Q8a E O ops σ y=some L/\Q8a E O ops L x=some σ2:=by
 obtain⟨t,n,H⟩:=σ
 obtain⟨Y,hb,o⟩:=Oper.apart_spec W
 rw[Q4u]at J K
 obtain⟨⟨M,H1⟩,g,aa⟩:=G1n.1 J
 obtain⟨⟨s,H2⟩,N,ac⟩:=G1n.1 K
 obtain⟨i,P⟩:=J0d aa
 subst i
 obtain⟨u,Q⟩:=J0d ac
 subst u
 simp only at N P Q
 have a:Q2d E O ops ⟨t,n,H1⟩ y=some (s,H2):=by
  rw[<-N]
  cases f:x.dst with
  | none=>rfl
  | some d=>exact(Z6q (Y d f)).symm
 have ad:∀X,Q2d E O ops ⟨putT t s y.dst,n,X⟩ x=Q2d E O ops ⟨t,n,X⟩ x:=by
  intro X
  cases r:y.dst with
  | none=>rfl
  | some d=>exact Z6q (o d r)
 have ae:∃H3,Q2d E O ops ⟨t,n,H⟩ y=some (s,H3)/\Q2d E O ops ⟨t,n,H3⟩ x=some (M,H2):=by
  rcases G2r _ _▸hk with hk|hk
  rotate_left
  ·unfold J4c at hk
   rw[G0k]at hk
   obtain⟨f,hk⟩:=hk
   have f:Q5o O.pf x=1:=by simpa using f
   split at hk
   ·rename_i S q v af
    obtain⟨b,hb,hk⟩:=G6f.1 hk
    rw[G0k]at hk
    obtain⟨z,hk⟩:=hk
    have z:b.1=q:=by simpa using z
    split at hk
    ·rename_i l ag
     have hq:=I b hb
     simp only[z,ag]at hq
     obtain⟨rfl,j⟩:=J7r f g
     obtain⟨g1,g2⟩:=J8q a af hq
     refine⟨H2,a,j H2 g1 λS x' A k0 i u U=>g2 A ?_⟩
     split at hk
     ·rename_i ar p ak
      obtain⟨c,o,C⟩:=G6f.1 hk
      simp only[G0k,G3h,G5x,ne_eq]at C
      rw[ak]at i
      injection i with au al
      subst al
      have w:=I c o
      have am:t p=.ref A k0:=u
      simp only[C.1,am]at w
      intro e
      subst e
      cases D:c.2 with
      | none=>rw[D]at w;cases w
      | some m=>
        rw[D]at w
        have:A=m:=G3y w
        exact C.2 (by rw[D,this])
     ·cases hk
     rename_i av ao
     exact absurd i (ao _ _)
    cases hk
   cases hk
  unfold J4b at hk
  simp only[G2r,G3h,G0k]at hk
  rcases hk with((h|h)|⟨f,hy'⟩)|⟨f,hy'⟩
  ·obtain⟨rfl,j⟩:=K0i h g
   exact⟨H2,a,j H2⟩
  ·obtain⟨rfl,j⟩:=K0i h a
   exact⟨H,j H,g⟩
  ·obtain⟨rfl,_⟩:=J7r f g
   obtain⟨rfl,_⟩:=J7r hy' a
   exact⟨_,a,g⟩
  obtain⟨rfl,j⟩:=J7r f g
  exact⟨H2,a,j H2 (K0h hy' a).v λS x' l k i u U=>by
   obtain⟨c,o⟩:=X2p g i u U
   rw[o]
   exact K0h hy' a l c o⟩
 obtain⟨H3,k1,k2⟩:=ae
 refine⟨⟨putT t s y.dst,n,H3⟩,?_,?_⟩
 ·rw[Q4u,k1]
  show put ⟨t,n,H⟩ y.dst s H3=_
  unfold put
  cases r:y.dst with
  | none=>rfl
  | some d=>simp[Q d r,putT]
 rw[Q4u,ad,k2]
 show put _ x.dst M H2=_
 unfold put
 cases V:x.dst with
 | none=>
   cases r:y.dst with
   | none=>rfl
   | some d=>rfl
 | some d=>
   simp only[P d V,if_true]
   cases r:y.dst with
   | none=>rfl
   | some e=>
     simp only[G0b,St.mk.injEq,G5s]
     exact(X6p (λhe=>hb d V (by rw[r,he]))).symm
theorem Z8w{B:Z0w}{ops:Array Oper}{y:Oper}:∀ (l r:List Oper) (σ σ':St),Inv B σ.t->(∀x∈l,x.apart ops y=true/\(J4b O.pf x y||J4c O.pf B x y)=true/\Z8k B x=true)->arun E O ops (l++y::r) σ=some σ'->∃a,Q8a E O ops σ y=some a/\arun E O ops (l++r) a=some σ'
 | [],r,σ,σ',_,_,h=>by
   obtain⟨a,b,e⟩:=G1n.1 h
   exact⟨a,b,e⟩
 | x::l,r,σ,σ',f,d,h=>by
   obtain⟨i,b,e⟩:=G1n.1 h
   obtain⟨a,j,k⟩:=Z8w l r i σ' (J7f (d x (by simp)).2.2 b f) (λz m=>d z (by simp[m])) e
   obtain⟨g,n,o⟩:=swap (d x (by simp)).1 (d x (by simp)).2.1 f b j
   refine⟨g,n,?_⟩
   show(Q8a E O ops g x).bind (arun E O ops (l++r))=_
   rw[o]
   exact k
def direct(ops:Array Oper)(j:Nat):List Nat:=
 match ops[j]? with
 | some o=>(o.after.toList.filter (Region.binds .any)).map (·.on)
 | none=>[]
def ancs(ops:Array Oper):Nat->List (List Nat)
 | 0=>[]
 | n+1=>let a:=ancs ops n;a++[Q5p (direct ops n++(direct ops n).flatMap λi=>a.getD i [])]
theorem Z6i{x:Nat}:∀ {l:List Nat},x∈Q5p l->x∈l
 | [],h=>h
 | y::r,h=>by
   unfold Q5p at h
   split at h
   ·exact G2w _ (Z6i h)
   rcases G1q.1 h with h|h
   ·exact G1q.2 (.inl h)
   exact G2w _ (Z6i h)
theorem Q5e(ops:Array Oper):∀n,(ancs ops n).length=n
 | 0=>rfl
 | n+1=>by simp[ancs,Q5e ops n]
theorem Q2z{ops:Array Oper}{L:Nat->Prop}(b:∀j,L j->∀i∈direct ops j,L i):∀ (n j:Nat),(∀i∈direct ops j,L i)->∀i∈(ancs ops n).getD j [],L i
 | 0,j,_,i,a=>by simp[ancs]at a
 | n+1,j,hd,i,a=>by
   simp only[ancs,G0v]at a
   rcases G6u j n with h|h|h
   ·rw[G0l (by rw[Q5e];exact h)]at a
    exact Q2z b n j hd i (by rw[G0v];exact a)
   ·subst h
    rw[G0m (by rw[Q5e];exact G0o _),Q5e,G6z]at a
    simp only[G0n,Option.getD_some]at a
    rcases G2v.1 (Z6i a)with h|h
    ·exact hd i h
    obtain⟨k,hk,d⟩:=G4f.1 h
    exact Q2z b j k (b k (hd k hk)) i (by rw[G0v];exact d)
   rw[G1a (by simp[Q5e];omega)]at a
   simp at a
def Q3x(pf:FuncId->Bool)(B:Z0w)(ops:Array Oper):Bool:=
 let A:=ancs ops ops.size
 (List.range ops.size).all λj=>(direct ops j).all (λi=>decide (i<j))&&((List.range j).all λi=>(A.getD j []).contains i||(match ops[i]?,ops[j]? with
   | some x,some y=>x.apart ops y&&(J4b pf x y||J4c pf B x y)
   | _,_=>true))&&(match ops[j]? with
   | some o=>Z8k B o
   | none=>true)
def Z5s(pf:FuncId->Bool)(ops:Array Oper):Bool:=Q3x pf [] ops
theorem J2s{pf:FuncId->Bool}{B:Z0w}{ops:Array Oper}(h:Q3x pf B ops=true){i j:Nat}{x y:Oper}(e:i<j)(f:ops[i]?=some x)(b:ops[j]?=some y)(g:i∉(ancs ops ops.size).getD j []):x.apart ops y=true/\(J4b pf x y||J4c pf B x y)=true:=by
 have k:j<ops.size:=(G1b.1 b).1
 have d:=G0t.1 h j (G1k.2 k)
 rw[G0k,G0k]at d
 have a:=G0t.1 d.1.2 i (G1k.2 e)
 rcases G2r _ _▸a with a|a
 ·exact absurd (by simpa using a) g
 simp only[f,b]at a
 rw[G0k]at a
 exact a
theorem Z1i{pf:FuncId->Bool}{B:Z0w}{ops:Array Oper}(h:Q3x pf B ops=true){j:Nat}{y:Oper}(a:ops[j]?=some y):Z8k B y=true:=by
 have e:j<ops.size:=(G1b.1 a).1
 have b:=G0t.1 h j (G1k.2 e)
 rw[G0k]at b
 have d:=b.2
 simp only[a]at d
 exact d
theorem J9h{pf:FuncId->Bool}{B:Z0w}{ops:Array Oper}(h:Q3x pf B ops=true){i j:Nat}(b:j<ops.size)(d:i∈direct ops j):i<j:=by
 have a:=G0t.1 h j (G1k.2 b)
 rw[G0k,G0k]at a
 simpa using G0t.1 a.1.1 i d
def todo(ops:Array Oper)(listed:Array Bool):List Nat:=(List.range ops.size).filter λi=>!listed.getD i true
theorem Z2b{ops:Array Oper}{listed:Array Bool}{j:Nat}(p:j∈todo ops listed):∃l r,todo ops listed=l++j::r/\todo ops (listed.setIfInBounds j true)=l++r/\∀i∈l,i<j/\listed.getD i true=false:=by
 have q:∀ (L:List Nat),L.Nodup->j∈L.filter (λi=>!listed.getD i true)->(∀ (a b:List Nat),L=a++j::b->∀i∈a,i<j)->
  ∃l r,L.filter (λi=>!listed.getD i true)=l++j::r/\L.filter (λi=>!(listed.setIfInBounds j true).getD i true)=l++r/\∀i∈l,i<j/\listed.getD i true=false:=by
  intro L g k s
  have t:=(G2a.1 k).1
  obtain⟨a,b,rfl⟩:=List.append_of_mem t
  have d:=(G2a.1 k).2
  have u:listed.getD j true=false:=by simpa using d
  have w:j<listed.size:=by
   rcases G4t j listed.size with h|h
   ·exact h
   simp[G6y h]at u
  have y:j∉a:=λh=>(G5i.1 g).2.2 j h j (by simp) rfl
  have z:j∉b:=(G4i.1 (G5i.1 g).2.1).1
  have m:∀ (x:List Nat),j∉x->x.filter (λi=>!(listed.setIfInBounds j true).getD i true)=x.filter (λi=>!listed.getD i true):=by
   intro x A
   refine List.filter_congr λi f=>?_
   rw[getD_set_ne true (λe:j=i=>A (by rw[e];exact f))]
  refine⟨a.filter (λi=>!listed.getD i true),b.filter (λi=>!listed.getD i true),?_,?_,λi f=>?_⟩
  ·rw[List.filter_append,List.filter_cons,if_pos d]
  ·rw[List.filter_append,List.filter_cons,if_neg (by simp[w]),m a y,m b z]
  have o:=G2a.1 f
  exact⟨s a b rfl i o.1,by simpa using o.2⟩
 refine q (List.range ops.size) List.nodup_range p (λa b h i f=>?_)
 have d:=G5b (n:=ops.size)
 rw[h]at d
 exact(List.pairwise_append.1 d).2.2 i f j (by simp)
variable {γ₀:List Gh}{H₀:List AObj}{Φ₀:Nat->Nat->Prop}{w₀:World}
def Z2i(ops:Array Oper)(l:List Nat):List Oper:=l.filterMap λi=>ops[i]?
theorem Z3j(ops:Array Oper)(a b:List Nat):Z2i ops (a++b)=Z2i ops a++Z2i ops b:=List.filterMap_append
theorem J5d(hS:Q1p E O){B:Z0w}{ops:Array Oper}(u:Q3x O.pf B ops=true){Q:Exit->Act->World->Prop}{σ':St}(Y:∀y w',Rel E γ₀ H₀ Φ₀ w₀ σ' y w'->Q .normal y w'):
 ∀ (m:Nat) (listed:Array Bool) (σ:St) (a:Act) (w:World),listed.size=ops.size->(todo ops listed).length<=m->(∀j,listed.getD j false=true->∀i∈direct ops j,listed.getD i false=true)->Inv B σ.t->
  arun E O ops (Z2i ops (todo ops listed)) σ=some σ'->Rel E γ₀ H₀ Φ₀ w₀ σ a w->wpAny E.P .any ops Q m listed a w:=by
 have aj:∀ (listed:Array Bool),listed.size=ops.size->todo ops listed=[]->Region.ready .any ops listed=[]:=by
  intro listed f h
  refine G4u.2 λj q=>?_
  obtain⟨D,o,d,_⟩:=mem_ready.1 q
  have:j∈todo ops listed:=G2a.2 ⟨G1k.2 (G1b.1 d).1,by simp[D]⟩
  rw[h]at this
  cases this
 have ak:∀ (listed:Array Bool),listed.size=ops.size->todo ops listed≠[]->Region.ready .any ops listed≠[]:=by
  intro listed f al F
  obtain⟨j,rest,I⟩:=G5k al
  have q:j∈todo ops listed:=by rw[I];simp
  obtain⟨J,s⟩:=G2a.1 q
  have M:=G1k.1 J
  have aa:(todo ops listed).Pairwise (·<·):=(G5b (n:=ops.size)).filter _
  rw[I]at aa
  have ac:j∈Region.ready .any ops listed:=by
   refine mem_ready.2 ⟨by simpa using s,ops[j],G2k M,λe N hb=>?_⟩
   have hd:e.on∈direct ops j:=by
    simp only[direct,G2k M]
    exact G3i.2 ⟨e,G2a.2 ⟨by simpa using N,hb⟩,rfl⟩
   have aC:=J9h u M hd
   have P:e.on<listed.size:=by omega
   cases S:listed.getD e.on true with
   | true=>
     simp[P]at S |-
     exact S
   | false=>
     exfalso
     have z:e.on∈todo ops listed:=G2a.2 ⟨G1k.2 (by omega),by simpa using S⟩
     rw[I]at z
     rcases G1q.1 z with h|h
     ·omega
     have:=(G6o.1 aa).1 e.on h
     omega
  rw[F]at ac
  cases ac
 intro m
 induction m with
 | zero=>
   intro listed σ a w f U V W b A
   have t:todo ops listed=[]:=G1g (by omega)
   rw[t]at b
   simp only[Z2i,List.filterMap_nil,arun,G0b]at b
   subst b
   exact⟨aj listed f t,Y a w A⟩
 | succ m ih=>
   intro listed σ a w f U V W b A
   refine⟨λF=>?_,λj q=>?_⟩
   ·by_cases t:todo ops listed=[]
    ·rw[t]at b
     simp only[Z2i,List.filterMap_nil,arun,G0b]at b
     subst b
     exact Y a w A
    exact absurd F (ak listed f t)
   obtain⟨D,o,d,ao⟩:=mem_ready.1 q
   have J:j<ops.size:=(G1b.1 d).1
   have aq:j∈todo ops listed:=G2a.2 ⟨G1k.2 J,by simp[D]⟩
   obtain⟨l,r,e1,e2,ar⟩:=Z2b aq
   have af:∀i∈direct ops j,listed.getD i false=true:=by
    intro i g
    simp only[direct,d]at g
    obtain⟨e,N,rfl⟩:=G3i.1 g
    have ag:=G2a.1 N
    exact ao e (by simpa using ag.1) ag.2
   have au:=Q2z (ops:=ops) (L:=λi=>listed.getD i false=true) V ops.size j af
   have av:∀x∈Z2i ops l,x.apart ops o=true/\(J4b O.pf x o||J4c O.pf B x o)=true/\Z8k B x=true:=by
    intro x hx
    obtain⟨i,g,X⟩:=G3m.1 hx
    obtain⟨ax,s⟩:=ar i g
    suffices p:x.apart ops o=true/\(J4b O.pf x o||J4c O.pf B x o)=true from ⟨p.1,p.2,Z1i u X⟩
    refine J2s u ax X d (λz=>?_)
    have:=au i z
    have P:i<listed.size:=by rw[f];exact(G1b.1 X).1
    simp[P]at this s
    rw[this]at s
    cases s
   rw[e1,Z3j]at b
   have ay:Z2i ops (j::r)=o::Z2i ops r:=by simp[Z2i,d]
   rw[ay]at b
   obtain⟨az,hs1,aA⟩:=Z8w _ _ σ σ' W av b
   have C:=Q5d hS hs1 A (K:=wpAny E.P .any ops Q m (listed.setIfInBounds j true)) (Q:=Q) (λy w' aB=>by
    refine ih (listed.setIfInBounds j true) az y w' (by simpa using f) ?_ ?_ (J7f (Z1i u d) hs1 W) ?_ aB
    ·rw[e2]
     rw[e1]at U
     simp only[G0i,G0h]at U |-
     omega
    ·intro k hk i g
     by_cases ah:j=k
     ·subst ah
      exact getD_set_true (af i g)
     rw[getD_set_ne false ah]at hk
     exact getD_set_true (V k hk i g)
    rw[e2,Z3j]
    exact aA)
   unfold wpOp
   rw[d]
   simp only
   split
   ·rename_i p
    rw[if_pos p]at C
    exact .inl C
   rename_i p
   rw[if_neg p]at C
   exact C
theorem AW.drawnB(n:E.P.follows .mixedOrders=true)(hS:Q1p E O){k id:Nat}{B:Z0w}{ops:Array Oper}{σ σ':St}{Q:Exit->St->Prop}(o:Q3x O.pf B ops=true)(p:Inv B σ.t)(h:arun E O ops ops.toList σ=some σ')(q:Q .normal σ'):AW E k (.region id ops true) Q σ:=by
 intro γ₀ H₀ Φ₀ w₀ a w e r
 refine wp_region_any n ?_
 have g:todo ops (Array.replicate ops.size false)=List.range ops.size:=by
  refine G5n.2 λi b=>?_
  simp[G1k.1 b]
 have s:Z2i ops (List.range ops.size)=ops.toList:=by
  refine G3x λi=>?_
  have t:∀ (l:List Nat),(∀i∈l,i<ops.size)->Z2i ops l=l.map λi=>ops.getD i default:=by
   intro l
   induction l with
   | nil=>intro _;rfl
   | cons i l u=>
     intro e
     have b:=e i (by simp)
     have:=u λj d=>e j (by simp[d])
     unfold Z2i at this |-
     simp[b,this]
  have:=t (List.range ops.size) λi b=>G1k.1 b
  rw[this]
  by_cases b:i<ops.size
  ·simp[b]
  simp[b]
 refine J5d hS o (σ':=σ') (γ₀:=γ₀) (H₀:=H₀) (Φ₀:=Φ₀) (w₀:=w₀) (λA w' x=>⟨σ',x,q⟩) ops.size _ σ a _ (by simp) (by rw[g];simp) ?_ p (by rw[g,s];exact h) ?_
 ·intro j d
  exfalso
  by_cases m:j<ops.size
  ·simp[m]at d
  simp[m]at d
 obtain⟨⟨γ,Φ,f,hs⟩,y,hd,z⟩:=r
 have hk:Ok E γ σ.h Φ w γ σ.h Φ { w with drawn:=w.drawn+1 }:=f.inv.grow (λ_ _=>rfl) (G0o _) rfl rfl rfl (λ_ _ h=>h) (λ_ _ h _=>h) f.inv.phi
 exact⟨⟨γ,Φ,f.trans hk,λi=>(hs i).mono hk.evo⟩,y,hd,z⟩
theorem AW.drawn(a:E.P.follows .mixedOrders=true)(hS:Q1p E O){k id:Nat}{ops:Array Oper}{σ σ':St}{Q:Exit->St->Prop}(b:Z5s O.pf ops=true)(h:arun E O ops ops.toList σ=some σ')(d:Q .normal σ'):AW E k (.region id ops true) Q σ:=
 AW.drawnB (B:=[]) a hS b (λp e=>by cases e) h d
end
end Go.Abs
