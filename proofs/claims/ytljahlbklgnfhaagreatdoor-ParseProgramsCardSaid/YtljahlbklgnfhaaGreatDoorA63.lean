import Derived.Test.YtljahlbklgnfhaaGreatDoorA59
import Derived.Test.YtljahlbklgnfhaaGreatDoorA17
import Derived.Test.YtljahlbklgnfhaaGreatDoorA45
import Derived.Defers
import Derived.Recover
set_option linter.unusedVariables false
set_option linter.unusedSimpArgs false
set_option linter.defProp false
namespace Go.Abs
open Go Go.RowKit
section
variable {E:Env}{σ:St}{k:Nat}
theorem Weak.explode(l:Nat){m n:TypeId}{s:List UInt8}{sz:Nat}{xs:List PV}(N:σ.h[l]?=some (.prn m s n sz xs)):
 Weak E k σ ⟨σ.t,σ.n,σ.h.set l (.var [.selfp l,.vec σ.h.length s.length,.vec (σ.h.length+1) xs.length])++[.brow m s,.row n sz xs true]⟩:=by
 intro γ₀ H₀ Φ₀ w₀ a' w _ hR
 obtain⟨⟨γ,Φ,Q,hs⟩,S,hd,aj⟩:=hR
 have C:=Q.inv
 obtain⟨g,F,hO⟩:=C.gh N
 obtain⟨b,v0,v1,v2,I,J,al,hb,h0,ao,T,aq,U⟩:=hO
 have V:l<γ.length:=(G0f.1 F).1
 have W:l<σ.h.length:=(G0f.1 N).1
 have K:=C.len
 have G0:(γ.set l ⟨g.v,[b]⟩++[⟨v1,v1.ownBlock.toList⟩,⟨v2,v2.ownBlock.toList⟩])[l]?=some ⟨g.v,[b]⟩:=by
  rw[G0l (by simpa using V),G1c V]
 have G1:(γ.set l ⟨g.v,[b]⟩++[⟨v1,v1.ownBlock.toList⟩,⟨v2,v2.ownBlock.toList⟩]:List Gh)[γ.length]?=some ⟨v1,v1.ownBlock.toList⟩:=by
  rw[G0m (by simp)]
  simp
 have G2:(γ.set l ⟨g.v,[b]⟩++[⟨v1,v1.ownBlock.toList⟩,⟨v2,v2.ownBlock.toList⟩]:List Gh)[γ.length+1]?=some ⟨v2,v2.ownBlock.toList⟩:=by
  rw[G0m (by simp)]
  simp
 have O0:(σ.h.set l (.var [.selfp l,.vec σ.h.length s.length,.vec (σ.h.length+1) xs.length])++[.brow m s,.row n sz xs true])[l]?=some (.var [.selfp l,.vec σ.h.length s.length,.vec (σ.h.length+1) xs.length]):=by
  rw[G0l (by simpa using W),G1c W]
 have O1:(σ.h.set l (.var [.selfp l,.vec σ.h.length s.length,.vec (σ.h.length+1) xs.length])++[.brow m s,.row n sz xs true]:List AObj)[σ.h.length]?=some (.brow m s):=by
  rw[G0m (by simp)]
  simp
 have O2:(σ.h.set l (.var [.selfp l,.vec σ.h.length s.length,.vec (σ.h.length+1) xs.length])++[.brow m s,.row n sz xs true]:List AObj)[σ.h.length+1]?=some (.row n sz xs true):=by
  rw[G0m (by simp)]
  simp
 have t:∀ {q:Nat} {o:Gh},γ.length<=q->(γ.set l ⟨g.v,[b]⟩++[⟨v1,v1.ownBlock.toList⟩,⟨v2,v2.ownBlock.toList⟩]:List Gh)[q]?=some o->(q=γ.length/\o=⟨v1,v1.ownBlock.toList⟩)\/(q=γ.length+1/\o=⟨v2,v2.ownBlock.toList⟩):=by
  intro q o hq d
  have h1:=(G0f.1 d).1
  simp only[G0i,G2s,G0h,G0j]at h1
  rcases(by omega:q=γ.length\/q=γ.length+1)with rfl|rfl
  ·rw[G1]at d
   injection d with d
   exact .inl ⟨rfl,d.symm⟩
  rw[G2]at d
  injection d with d
  exact .inr ⟨rfl,d.symm⟩
 have m0:b∈g.own:=by rw[J];simp
 have m1:∀c∈v1.ownBlock.toList,c∈g.own:=λc f=>by rw[J];exact G2w _ (G4o _ f)
 have m2:∀c∈v2.ownBlock.toList,c∈g.own:=λc f=>by rw[J];exact G2w _ (G5c _ f)
 have X:=al
 rw[J]at X
 obtain⟨Y,ax⟩:=G4i.1 X
 obtain⟨_,_,aa⟩:=G5i.1 ax
 have ac:b∉v1.ownBlock.toList:=λh=>Y (G4o _ h)
 have ad:b∉v2.ownBlock.toList:=λh=>Y (G5c _ h)
 have hk:Ok E γ σ.h Φ w (γ.set l ⟨g.v,[b]⟩++[⟨v1,v1.ownBlock.toList⟩,⟨v2,v2.ownBlock.toList⟩]) (σ.h.set l (.var [.selfp l,.vec σ.h.length s.length,.vec (σ.h.length+1) xs.length])++[.brow m s,.row n sz xs true]) Φ w:=by
  refine Ok.of C (λq=>q=l\/γ.length<=q) (by simp[K]) (by simp) (λq hq=>.inr hq) (λq hq=>?_) (λc=>c∈g.own) (λc=>⟨λf=>⟨l,g,.inl rfl,F,f⟩,λf=>?_⟩)
   (λ_ _ _=>rfl) (G0o _) rfl rfl rfl (λ_ _ h=>h) (λb q h _ S=>h) (λb q h=>C.phi b q h) (λ_ _ _ _=>rfl) (λq o hq d c f=>?_) (λp q gp o L hq x d O c f=>?_) (λq u hq y=>?_) (λq m aO n1 hq M=>?_) (λhE q oq o hq j d=>?_)
  ·simp only[not_or,Nat.not_le]at hq
   exact⟨by rw[G0l (by simpa using hq.2),G1e (Ne.symm hq.1)],by rw[G0l (by simp;omega),G1e (Ne.symm hq.1)]⟩
  ·obtain⟨q,o,hq,d,ay⟩:=f
   rcases hq with rfl|hq
   ·rw[F]at d;injection d with d;subst d;exact ay
   rw[G1a hq]at d;cases d
  ·have af:c∈g.own:=by
    rcases hq with rfl|hq
    ·rw[G0]at d
     injection d with d
     subst d
     rw[G4d.1 f]
     exact m0
    rcases t hq d with⟨_,rfl⟩|⟨_,rfl⟩
    ·exact m1 c f
    exact m2 c f
   exact⟨.inl af,(C.own l g F c af).2⟩
  ·intro A
   rcases L with rfl|L<;>rcases hq with rfl|hq
   ·exact O rfl
   ·rw[G0]at x
    injection x with x
    subst x
    rw[G4d.1 f]at A
    rcases t hq d with⟨_,rfl⟩|⟨_,rfl⟩
    ·exact ac A
    exact ad A
   ·rw[G0]at d
    injection d with d
    subst d
    rw[G4d.1 A]at f
    rcases t L x with⟨_,rfl⟩|⟨_,rfl⟩
    ·exact ac f
    exact ad f
   rcases t L x with⟨rfl,rfl⟩|⟨rfl,rfl⟩<;>rcases t hq d with⟨rfl,rfl⟩|⟨rfl,rfl⟩
   ·exact O rfl
   ·exact aa c f c A rfl
   ·exact aa c A c f rfl
   exact O rfl
  ·refine .inl ?_
   rcases hq with rfl|hq
   ·unfold gv at y |-;rw[G0];rw[F]at y;exact y
   unfold gv at y;rw[G1a hq]at y;cases y
  ·rcases hq with rfl|hq
   ·unfold rowAt at M
    rw[N]at M
    cases M
   have:=Q7d M
   omega
  rcases hq with rfl|hq
  ·rw[O0]at j
   injection j with j
   subst j
   rw[G0]at d
   injection d with d
   subst d
   have G1':=G1
   have G2':=G2
   rw[K]at G1' G2'
   obtain⟨A1,c1,aA,aB⟩:=Q3w T
   obtain⟨ag,P,_⟩:=U
   obtain⟨A2,c2,aC,aD⟩:=Q4l P
   have aE:v2=.slice A2 xs.length c2:=aC
   subst aA aE
   refine⟨b,_,[v0,_,_],I,rfl,hb,rfl,λi v c r f=>?_,ao,λ_ _ _=>rfl⟩
   rcases i with _|_|_|i
   ·simp only[G0n,G0b]at r f
    subst r f
    rcases h0 with rfl|rfl
    ·exact⟨rfl,.selfp none q (λa e=>by cases e)⟩
    refine⟨rfl,.selfp _ q (λa e=>?_)⟩
    injection e with e
    subst e
    unfold gv
    rw[G0,<-I]
    rfl
   ·simp only[G0n,G0y,G0b]at r f
    subst r f
    refine⟨rfl,.vec A1 _ _ c1 m 1 s.length (by unfold rowAt;rw[O1];rfl) (G0o _) aB (λ_=>?_)⟩
    unfold gv
    rw[G1']
    rfl
   ·simp only[G0n,G0y,G0b]at r f
    subst r f
    refine⟨rfl,.vec A2 _ _ c2 n sz xs.length (Q2h (fz:=true) O2) (G0o _) aD (λ_=>?_)⟩
    unfold gv
    rw[G2']
    rfl
   simp at r
  rcases t hq d with⟨rfl,rfl⟩|⟨rfl,rfl⟩
  ·rw[K,O1]at j
   injection j with j
   subst j
   exact⟨T,rfl,aq⟩
  rw[K,O2]at j
  injection j with j
  subst j
  obtain⟨ag,P,q2,q3,q4,q5,q6,q7,q8⟩:=U
  exact⟨ag,P,q2,λz v c I f=>(q3 z v c I f).mono hE.phi hE.cell,q4,q5,q6,q7,q8⟩
 exact⟨⟨_,_,Q.trans hk,λi=>(hs i).mono hk.evo⟩,S,hd,aj⟩
theorem Weak.implode(l i j:Nat){C N:TypeId}{s:List UInt8}{sz m1 m2:Nat}{xs:List PV}(U:σ.h[l]?=some (.var [.selfp l,.vec i m1,.vec j m2]))
 (Q:σ.h[i]?=some (.brow C s)) (O:σ.h[j]?=some (.row N sz xs true)) (a1:s.length=m1) (a2:xs.length=m2):
 Weak E k σ ⟨σ.t,σ.n,((σ.h.set l (.prn C s N sz xs)).set i (.moved C 1 s.length)).set j (.moved N sz xs.length)⟩:=by
 intro γ₀ H₀ Φ₀ w₀ a' w _ hR
 obtain⟨⟨γ,Φ,ak,hs⟩,V,hd,aD⟩:=hR
 have o:=ak.inv
 obtain⟨g,F,hO⟩:=o.gh U
 obtain⟨gi,I,aF⟩:=o.gh Q
 obtain⟨m,J,al⟩:=o.gh O
 have am:l≠i:=λe=>by subst e;rw[U]at Q;cases Q
 have ao:l≠j:=λe=>by subst e;rw[U]at O;cases O
 have aq:i≠j:=λe=>by subst e;rw[Q]at O;cases O
 obtain⟨b,T,vs,W,Y,hb,aG,ad,ar⟩:=hO
 obtain⟨v0,v1,v2,rfl⟩:∃v0 v1 v2,vs=[v0,v1,v2]:=by
  rcases vs with _|⟨v0,_|⟨v1,_|⟨v2,_|⟨v3,r⟩⟩⟩⟩<;>simp at aG
  exact⟨v0,v1,v2,rfl⟩
 have r0:=(ad 0 v0 (.selfp l) rfl rfl).2
 obtain rfl:T=E.pT.getD 0:=ar.2 (.selfp l) (by simp) rfl
 have r1:v1=gi.v:=by
  cases(ad 1 v1 _ rfl rfl).2 with
  | vec A _ _ cap e aI len hrow V hA ae=>
    have hre:rowAt σ.h i=some (C,1,s.length):=by unfold rowAt;rw[Q];rfl
    rw[hrow]at hre
    injection hre with hre
    injection hre with _ hre
    injection hre with _ hre
    have:=ae (by omega)
    unfold gv at this
    rw[I]at this
    injection this with this
    exact this.symm
 have r2:v2=m.v:=by
  cases(ad 2 v2 _ rfl rfl).2 with
  | vec A _ _ cap e aI len hrow V hA ae=>
    have hre:=Q2h O
    rw[hrow]at hre
    injection hre with hre
    injection hre with _ hre
    injection hre with _ hre
    have:=ae (by omega)
    unfold gv at this
    rw[J]at this
    injection this with this
    exact this.symm
 subst r1 r2
 obtain⟨aL,aa,aM⟩:=aF
 have ac:m.own=m.v.ownBlock.toList:=by
  obtain⟨_,_,_,_,_,_,h,_⟩:=al
  exact h
 have a4:l<γ.length:=(G0f.1 F).1
 have a5:i<γ.length:=(G0f.1 I).1
 have a6:j<γ.length:=(G0f.1 J).1
 have au:=o.len
 have av:∀ {α:Type} (X:List α) (x y z:α) (q:Nat),X.length=γ.length->(((X.set l x).set i y).set j z)[q]?=if q=l then some x else if q=i then some y else if q=j then some z else X[q]?:=by
  intro α X x y z q hX
  by_cases P:q=l
  ·subst P
   rw[if_pos rfl,G1e (Ne.symm ao),G1e (Ne.symm am),G1c (by omega)]
  rw[if_neg P]
  by_cases K:q=i
  ·subst K
   rw[if_pos rfl,G1e (Ne.symm aq),G1c (by simp;omega)]
  rw[if_neg K]
  by_cases S:q=j
  ·subst S
   rw[if_pos rfl,G1c (by simp;omega)]
  rw[if_neg S,G1e (Ne.symm S),G1e (Ne.symm K),G1e (Ne.symm P)]
 have GG:=λq=>av γ ⟨g.v,b::(gi.v.ownBlock.toList++m.v.ownBlock.toList)⟩ ⟨gi.v,[]⟩ ⟨m.v,[]⟩ q rfl
 have HH:=λq=>av σ.h (.prn C s N sz xs) (.moved C 1 s.length) (.moved N sz xs.length) q au.symm
 have d1:=o.disj l i g gi F I am
 have d2:=o.disj l j g m F J ao
 have d3:=o.disj i j gi m I J aq
 rw[Y,aa]at d1
 rw[Y,ac]at d2
 rw[aa,ac]at d3
 have nd:∀v:Value,v.ownBlock.toList.Nodup:=λv=>by cases v.ownBlock<;>simp
 have aN:(b::(gi.v.ownBlock.toList++m.v.ownBlock.toList)).Nodup:=by
  refine G4i.2 ⟨λh=>?_,G5i.2 ⟨nd _,nd _,λx hx y hy e=>d3 x hx (e▸hy)⟩⟩
  rcases G2v.1 h with h|h
  ·exact d1 b (by simp) h
  exact d2 b (by simp) h
 have hk:Ok E γ σ.h Φ w (((γ.set l ⟨g.v,b::(gi.v.ownBlock.toList++m.v.ownBlock.toList)⟩).set i ⟨gi.v,[]⟩).set j ⟨m.v,[]⟩) (((σ.h.set l (.prn C s N sz xs)).set i (.moved C 1 s.length)).set j (.moved N sz xs.length)) Φ w:=by
  refine Ok.of o (λq=>q=l\/q=i\/q=j\/γ.length<=q) (by simp[au]) (by simp) (λq hq=>.inr (.inr (.inr hq))) (λq hq=>?_) (λc=>c∈g.own\/c∈gi.own\/c∈m.own) (λc=>⟨λf=>?_,λf=>?_⟩)
   (λ_ _ _=>rfl) (G0o _) rfl rfl rfl (λ_ _ h=>h) (λb q h _ V=>h) (λb q h=>o.phi b q h) (λ_ _ _ _=>rfl) (λq gq hq d c f=>?_) (λp q gp gq hp hq t d aR c f=>?_) (λq u hq L=>?_) (λq C a8 n1 hq M=>?_) (λhE q oq gq hq n d=>?_)
  ·simp only[not_or]at hq
   rw[GG,HH,if_neg hq.1,if_neg hq.2.1,if_neg hq.2.2.1,if_neg hq.1,if_neg hq.2.1,if_neg hq.2.2.1]
   exact⟨rfl,rfl⟩
  ·rcases f with f|f|f
   ·exact⟨l,g,.inl rfl,F,f⟩
   ·exact⟨i,gi,.inr (.inl rfl),I,f⟩
   exact⟨j,m,.inr (.inr (.inl rfl)),J,f⟩
  ·obtain⟨q,gq,hq,d,ag⟩:=f
   rcases hq with rfl|rfl|rfl|hq
   ·rw[F]at d;injection d with d;subst d;exact .inl ag
   ·rw[I]at d;injection d with d;subst d;exact .inr (.inl ag)
   ·rw[J]at d;injection d with d;subst d;exact .inr (.inr ag)
   rw[G1a hq]at d;cases d
  ·rw[GG]at d
   split at d
   ·injection d with d
    subst d
    rcases G1q.1 f with rfl|f
    ·exact⟨.inl (.inl (by rw[Y];simp)),(o.own l g F c (by rw[Y];simp)).2⟩
    rcases G2v.1 f with f|f
    ·exact⟨.inl (.inr (.inl (by rw[aa];exact f))),(o.own i gi I c (by rw[aa];exact f)).2⟩
    exact⟨.inl (.inr (.inr (by rw[ac];exact f))),(o.own j m J c (by rw[ac];exact f)).2⟩
   split at d
   ·injection d with d;subst d;cases f
   split at d
   ·injection d with d;subst d;cases f
   rcases hq with h|h|h|h
   ·contradiction
   ·contradiction
   ·contradiction
   rw[G1a h]at d;cases d
  ·rw[GG]at t d
   intro aB
   split at t
   ·split at d
    ·rename_i P K
     exact aR (P.trans K.symm)
    split at d
    ·injection d with d;subst d;cases aB
    split at d
    ·injection d with d;subst d;cases aB
    rcases hq with h|h|h|h
    ·contradiction
    ·contradiction
    ·contradiction
    rw[G1a h]at d;cases d
   split at t
   ·injection t with t;subst t;cases f
   split at t
   ·injection t with t;subst t;cases f
   rcases hp with h|h|h|h
   ·contradiction
   ·contradiction
   ·contradiction
   rw[G1a h]at t;cases t
  ·refine .inl ?_
   unfold gv at L |-
   rw[GG]
   split
   ·rename_i h;subst h;rw[F]at L;exact L
   split
   ·rename_i h;subst h;rw[I]at L;exact L
   split
   ·rename_i h;subst h;rw[J]at L;exact L
   exact L
  ·have same:gv (((γ.set l ⟨g.v,b::(gi.v.ownBlock.toList++m.v.ownBlock.toList)⟩).set i ⟨gi.v,[]⟩).set j ⟨m.v,[]⟩) q=gv γ q:=by
    unfold gv
    rw[GG]
    split
    ·rename_i h;subst h;rw[F];rfl
    split
    ·rename_i h;subst h;rw[I];rfl
    split
    ·rename_i h;subst h;rw[J];rfl
    rfl
   refine⟨n1,?_,G0o _,λ_=>same⟩
   unfold rowAt at M |-
   rw[HH]
   split
   ·rename_i h;subst h;rw[U]at M;cases M
   split
   ·rename_i h;subst h;rw[Q]at M;exact M
   split
   ·rename_i h;subst h;rw[O]at M;exact M
   exact M
  rw[GG]at d
  rw[HH]at n
  split at d
  ·rename_i h
   rw[if_pos h]at n
   injection d with d
   injection n with n
   subst d n
   refine⟨b,v0,gi.v,m.v,W,rfl,aN,hb,?_,ar.1,aL,aM,?_⟩
   ·cases r0 with
    | selfp A _ h=>
      cases A with
      | none=>exact .inl rfl
      | some a=>
        have:=h a rfl
        unfold gv at this
        rw[F,G0w,W]at this
        injection this with this
        exact .inr this.symm
   obtain⟨aT,q1,q2,q3,q4,q5,q6,q7,q8⟩:=al
   exact⟨aT,q1,q2,λz v c W f=>(q3 z v c W f).mono hE.phi hE.cell,q4,q5,rfl,q7,q8⟩
  rename_i P
  rw[if_neg P]at n
  split at d
  ·rename_i K
   rw[if_pos K]at n
   injection n with n
   subst n
   trivial
  rename_i K
  rw[if_neg K]at n
  split at d
  ·rename_i S
   rw[if_pos S]at n
   injection n with n
   subst n
   trivial
  rcases hq with h|h|h|h
  ·contradiction
  ·contradiction
  ·contradiction
  rw[G1a h]at d;cases d
 exact⟨⟨_,_,ak.trans hk,λi=>(hs i).mono hk.evo⟩,V,hd,aD⟩
end
def apS(b s:List UInt8):Option (List UInt8):=if b.length+s.length<=140737488355328 then some (b++s)else none
theorem Y5q{b s v:List UInt8}(h:apS b s=some v):v=b++s:=by
 unfold apS at h
 split at h
 ·injection h with h
  exact h.symm
 cases h
theorem J9u{E:Env}{H:List AObj}{a t2 e:TypeId}{l d f g i:Nat}{j z2:Option (List PV)}{b s v:List UInt8}(m:E.T a=some ⟨.slice e,d,f,j⟩)(n:E.T t2=some ⟨.str,g,i,z2⟩)(o:E.T e=some ⟨.int .u8,1,1,some [.int .u8 0]⟩)
 {H':List AObj} (p:H[l]?=some (.brow e b)) (q:H.set l (.brow e v)=H') (h:apS b s=some v):Q5y E H a t2 (.vec l b.length) (.pv (.str s))=some (.vec l v.length,H'):=by
 unfold apS at h
 split at h
 ·rename_i r
  injection h with h
  subst h
  simp only[Q5y,m,n,o,p]
  rw[if_pos ⟨trivial,trivial,r⟩,G0i,q]
 cases h
end Go.Abs
namespace Go.Abs
open Go Go.RowKit
def Env.wd(E:Env)(D:List Deferred):Env:={ E with dfs:=D }
section
variable {E:Env}{D:List Deferred}{γ γ₀:List Gh}{H H₀:List AObj}{Φ Φ₀:Nat->Nat->Prop}{w w₀:World}
theorem ObjRel.wd{o:AObj}{g:Gh}:ObjRel (E.wd D) γ H Φ w o g↔ObjRel E γ H Φ w o g:=by
 cases o<;>exact Iff.rfl
theorem OInv.wd:OInv (E.wd D) γ H Φ w↔OInv E γ H Φ w:=
 ⟨λh=>⟨h.len,λl o g a b=>ObjRel.wd.1 (h.obj l o g a b),h.disj,h.own,h.phi,h.gi,h.gn⟩,
  λh=>⟨h.len,λl o g a b=>ObjRel.wd.2 (h.obj l o g a b),h.disj,h.own,h.phi,h.gi,h.gn⟩⟩
theorem Ok.wd:Ok (E.wd D) γ₀ H₀ Φ₀ w₀ γ H Φ w↔Ok E γ₀ H₀ Φ₀ w₀ γ H Φ w:=
 ⟨λh=>⟨OInv.wd.1 h.inv,h.evo,h.since⟩,λh=>⟨OInv.wd.2 h.inv,h.evo,h.since⟩⟩
theorem Good.wd{f:FuncId}{args:List AV}{rs:List AV}{H':List AObj}(h:Good E f args H rs H'):Good (E.wd D) f args H rs H':=by
 intro w Φ γ a b d g
 refine(h w Φ γ a (OInv.wd.1 b) d g).mono ?_
 rintro e w' ⟨vs,i,Φ',j,l,m,n⟩
 exact⟨vs,i,Φ',j,Ok.wd.2 l,m,n⟩
theorem J1e.wd{f:FuncId}{args:List AV}{v:Value}(h:J1e E f args H v):J1e (E.wd D) f args H v:=by
 intro w Φ γ a b d g
 refine(h w Φ γ a (OInv.wd.1 b) d g).mono ?_
 rintro e w' ⟨i,Φ',j,l⟩
 exact⟨i,Φ',j,Ok.wd.2 l⟩
theorem Q0c.wd{S:Spec}(h:Q0c E S):Q0c (E.wd D) S:=by
 refine⟨λx r a=>?_,h.2⟩
 have:=h.1 x r a
 generalize S.R x r=o at this
 cases o with
 | ret rs H'=>exact Good.wd this
 | boom v=>exact J1e.wd this
theorem AllG.wd:∀ {L:List Spec},AllG E L->AllG (E.wd D) L
 | [],_=>trivial
 | _::_,h=>⟨h.1.wd,AllG.wd h.2⟩
theorem X1o(d:OInv E γ H Φ w){args:List AV}{b:List Value}(j:b.length=args.length)(g:∀ (i:Nat) v a,b[i]?=some v->args[i]?=some a->ARel γ H Φ w v a){N:Nat}(l:args.length<=N)(hd0:E.dfs=[]):
 Rel E γ H Φ w ⟨Z3p args,N,H⟩ { tmps:=(⟨b⟩:Array Value)++Array.replicate (N-(⟨b⟩:Array Value).size) undef,defers:=[] } w:=by
 refine⟨⟨γ,Φ,.refl d,λi=>?_⟩,?_,hd0.symm,d.len⟩
 ·show ARel γ H Φ w _ (args.getD i .any)
  rw[G0v]
  by_cases e:i<args.length
  ·rw[G0c e]
   have f:i<b.length:=by omega
   refine g i _ _ ?_ (G0c e)
   rw[G0c f]
   simp[G2m,G6d,f]
  rw[G1a (by omega)]
  exact .any _
 show((⟨b⟩:Array Value)++Array.replicate (N-(⟨b⟩:Array Value).size) undef).size=N
 simp
 omega
theorem X0v{O:Orc}{X:XO}{σ:St}{a:Act}(hX:Q6x E X){ops:Array Oper}{o:Oper}{v:Value}{H':List AObj}{Q:Exit->Act->World->Prop}(hs:Q6w X o σ.t σ.h v H')(A:Rel E γ₀ H₀ Φ₀ w₀ σ a w)
 (n:∀q w',Rel E γ₀ H₀ Φ₀ w₀ ⟨σ.t,σ.n,H'⟩ q w'->Q (.panic [{ v:=v,recovered:=false }]) q w') (K:Act->World->Prop):Region.wanted o (yielded ops a.tmps)=true/\o.wp E.P a w K Q:=by
 obtain⟨C,hs⟩:=hs
 refine⟨by simp[Region.wanted,C],?_⟩
 obtain⟨⟨γ,Φ,d,b⟩,r,hd,s⟩:=A
 rcases hs with⟨f,args,U,g,j⟩|⟨x,F,I,m,g,j,rfl,rfl⟩
 ·have J:(args.toList.map a.eval).length=(args.toList.map (ev σ.t)).length:=by simp
  have L:(⟨args.toList.map a.eval⟩:Array Value)=args.map a.eval:=by
   apply G5h
   simp
  obtain⟨⟨fn,M,hb,N⟩,y⟩:=Z5b hX d.inv J (Q7q b args) j
  unfold Oper.wp
  rw[Z4p g M hb N]
  rw[L]at y
  refine y.mono ?_
  rintro e V ⟨P,Φ',rfl,z⟩
  exact n _ _ ⟨⟨P,Φ',d.trans z,λi=>(b i).mono z.evo⟩,r,hd,s⟩
 have l:=Q0s b x
 rw[j]at l
 have S:a.eval x=.iface F (.int I m):=by
  generalize a.eval x=u at l
  cases l with
  | ifc t u p T=>
    cases T
    rfl
 unfold Oper.wp execOp
 simp only[g,S,Instr.panic]
 exact n _ _ ⟨⟨γ,Φ,d,b⟩,r,hd,s⟩
def J7t(X:XO)(o:Oper)(ks:List Nat)(L:List (Nat×AV))(v:Value)(H':List AObj):Option St->Prop
 | some σ=>Q6w X o σ.t σ.h v H'/\pick ks σ.t=L
 | none=>False
theorem Z1l{X:XO}(o:Oper)(ks:List Nat)(L:List (Nat×AV))(v:Value)(H':List AObj)(σ:St):J7t X o ks L v H' (some σ)=(Q6w X o σ.t σ.h v H'/\pick ks σ.t=L):=rfl
theorem AW.regSk{O:Orc}{X:XO}{k:Nat}{Q:Exit->St->Prop}(hS:Q1p E O)(hX:Q6x E X){id n:Nat}{t:Nat->AV}{h:List AObj}{ops:Array Oper}(i:Nat)(ks:List Nat){o:Oper}{g:List Oper}{v:Value}{H':List AObj}{L:List (Nat×AV)}(j:ops.toList.drop i=o::g)
 (b:J7t X o ks L v H' (arun E O ops (ops.toList.take i) ⟨t,n,h⟩)) (l:Q (.panic [{ v:=v,recovered:=false }]) ⟨sl L,n,H'⟩):AW E k (.region id ops false) Q ⟨t,n,h⟩:=by
 generalize d:arun E O ops (ops.toList.take i) ⟨t,n,h⟩=x at b
 cases x with
 | none=>exact b.elim
 | some σ'=>
   obtain⟨b,rfl⟩:=b
   have m:=Z8v d
   intro γ₀ H₀ Φ₀ w₀ a w p q
   refine wp_region_list ?_
   rw[<-G1v i ops.toList]
   refine Z0m hS _ _ a w d q (λf w' r=>?_)
   rw[j]
   refine wpList_step λK A=>?_
   obtain⟨s,u⟩:=X0v (O:=O) (Q:=λe f w'=>∃σ',Rel E γ₀ H₀ Φ₀ w₀ σ' f w'/\Q e σ') hX b (ops:=ops) r (λa2 y z=>⟨_,Weak.slots (k:=k) (Q9k ks) γ₀ H₀ Φ₀ w₀ a2 y p z,by rw[m];exact l⟩) K
   rw[if_pos s]
   exact u
theorem OInv.setVar(j:OInv E γ H Φ w){l:Nat}{x y:AV}(p:H[l]?=some (.var [x])){b:Nat}(A:gv γ l=some (.pointer (some ⟨b,0,none⟩))){v:Value}(C:v.oneCell'=true)(F:y.isS=false)
 (I:∀q H' Φ' w',Evo γ H Φ w q H' Φ' w'->ARel q H' Φ' w' v y):Ok E γ H Φ w γ (H.set l (.var [y])) Φ (w.setCell ⟨b,0,none⟩ v)/\w.frozen? ⟨b,0,none⟩=false/\∃u,w.cell? ⟨b,0,none⟩=some u:=by
 obtain⟨g,f,J⟩:=j.gh p
 obtain⟨b',T,vs,r,m,hb,K,S,s⟩:=J
 obtain⟨U,t,d⟩:=Z2l A
 rw[f]at t
 cases t
 rw[r]at d
 injection d with d
 injection d with d
 injection d with d
 subst d
 obtain⟨u,rfl⟩:∃u,vs=[u]:=by
  rcases vs with _|⟨u,_|⟨_,_⟩⟩<;>simp at K
  exact⟨u,rfl⟩
 have L:γ.set l g=γ:=by
  refine G3x λi=>?_
  by_cases z:i=l
  ·subst z
   rw[G1c (G0f.1 f).1,f]
  rw[G1e (Ne.symm z)]
 have M:∀k,k≠b'->(w.setCell ⟨b',0,none⟩ v).heap[k]?=w.heap[k]?:=λk hk=>Below.heap_setCell _ _ _ _ (λe=>hk e)
 have n:(w.setCell ⟨b',0,none⟩ v).heap.size=w.heap.size:=by simp[World.setCell]
 have N:(w.setCell ⟨b',0,none⟩ v).heap[b']?=some (.cells ⟨[v]⟩ T (0,0)):=by
  simp[World.setCell,G3s,hb]
 refine⟨?_,by simp[World.frozen?,hb],u,by simp[World.cell?,hb]⟩
 have:=j.setObj (o':=.var [y]) (g':=g) (w':=w.setCell ⟨b',0,none⟩ v) (Φ':=Φ) p f (λc a O=>M c (λe=>O (by rw[m,e];simp))) (by rw[n];exact G0o _) rfl rfl rfl (λ_ _ h=>h) (λ_ _ h _ _=>h) (λc k h=>by rw[n];exact j.phi c k h)
  (λc k P a=>by rw[m]at a;simp at a;subst a;exact absurd P (s.1 k)) (λc a=>⟨.inl a,by rw[n];exact(j.own l g f c a).2⟩) (.inl rfl) (λ_ _ _ h=>by cases h)
  (λQ=>⟨b',T,[v],r,m,N,rfl,λk u c o a=>by
    match k,o,a with
    | 0,o,a=>
      cases o
      cases a
      exact⟨C,I _ _ _ _ Q⟩,s.1,λc a hs=>by rw[G4d.1 a,F]at hs;cases hs⟩)
 rwa [L]at this
end
end Go.Abs
namespace Go.Abs
open Go.RowKit
def Q4c:List AV->Option (List AV)
 | []=>some []
 | .pv p::r=>(Q4c r).map (.pv p::·)
 | .nils::r=>(Q4c r).map (.pv (.slice [])::·)
 | .full xs::r=>(Q4c r).map (.pv (.slice xs)::·)
 | .fn g []::r=>(Q4c r).map (.fn g []::·)
 | _=>none
theorem pu0:Q4c []=some []:=rfl
theorem pu1(p:PV)(r:List AV):Q4c (.pv p::r)=(Q4c r).map (.pv p::·):=rfl
theorem pu2(r:List AV):Q4c (.nils::r)=(Q4c r).map (.pv (.slice [])::·):=rfl
theorem pu3(xs:List PV)(r:List AV):Q4c (.full xs::r)=(Q4c r).map (.pv (.slice xs)::·):=rfl
theorem pu4(g:FuncId)(r:List AV):Q4c (.fn g []::r)=(Q4c r).map (.fn g []::·):=rfl
def PU:=And.intro pu0 (And.intro @pu1 (And.intro @pu2 (And.intro @pu3 @pu4)))
theorem Q6q{H:List AObj}{f:Nat->Option Nat}:∀ {az bs:List AV},Q4c az=some bs->Q1l H az=[]/\Q0v H f az=some bs
 | [],bs,h=>by
   cases h
   exact⟨rfl,rfl⟩
 | a::r,bs,h=>by
   have b:∀ (x:AV),Q4c (a::r)=(Q4c r).map (x::·)->(∀s,Q0v H f r=some s->Q0v H f (a::r)=some (x::s))->(Q1l H (a::r)=Q1l H r)->Q1l H (a::r)=[]/\Q0v H f (a::r)=some bs:=by
    intro x d e i
    rw[d]at h
    obtain⟨cs,j,rfl⟩:=G0g.1 h
    obtain⟨g1,l⟩:=Q6q (H:=H) (f:=f) j
    exact⟨by rw[i,g1],e _ l⟩
   cases a with
   | pv p=>exact b (.pv p) rfl (λs hs=>by simp[Q0v,toPV,AV.ren,renN,hs]) (by simp[Q1l,toPV])
   | nils=>exact b (.pv (.slice [])) rfl (λs hs=>by simp[Q0v,toPV,AV.ren,renN,hs]) (by simp[Q1l,toPV])
   | full xs=>exact b (.pv (.slice xs)) rfl (λs hs=>by simp[Q0v,toPV,AV.ren,renN,hs]) (by simp[Q1l,toPV])
   | fn g m=>
     cases m with
     | nil=>exact b (.fn g []) rfl (λs hs=>by simp[Q0v,toPV,AV.ren,renN,hs]) (by simp[Q1l,toPV])
     | cons c cs=>simp[Q4c]at h
   | _=>simp[Q4c]at h
def obj1:AObj->Bool
 | .var cs=>Q9q cs
 | .hrow _ _ _ _ _ _ _=>false
 | _=>true
theorem Z4r{f:Nat->Option Nat}{o:AObj}(h:obj1 o=true):o.ren f=some o:=by
 cases o with
 | var cs=>simp only[AObj.ren,Z2f (az:=cs) h,G0w]
 | hrow=>cases h
 | _=>rfl
theorem Z4s{f:Nat->Nat}{o:AObj}(h:obj1 o=true):o.mapL f=o:=by
 cases o with
 | var cs=>simp only[AObj.mapL,Q4y (az:=cs) h]
 | hrow=>cases h
 | _=>rfl
theorem J9k{o:AObj}{rest:List AObj}(h:obj1 o=true):Q1j (o::rest) [0]=[]:=by
 cases o with
 | var cs=>simp only[Q1j,G0n,Q7e (az:=cs) h,G1s]
 | hrow=>cases h
 | _=>rfl
theorem Y5m{o o':AObj}{rest:List AObj}(h:obj1 o'=true):Q0q (o::rest) [0] [o']=o'::rest:=by
 unfold Q0q
 rw[show List.drop [0].length [o']=[] from rfl,G2h,G1s]
 refine G5a (by simp) λk b a=>?_
 rw[G4z,G4l]
 cases k with
 | zero=>exact Z4s h
 | succ k=>
   have:idx [0] (k+1)=none:=by
    simp[idx]
   rw[this]
   have hk:k<rest.length:=by simpa using a
   simp[hk]
theorem ecp{O:Orc}{f:FuncId}{az:List AV}{rs:List AV}(h:O.C f az []=some (rs,[]))(d:Q9q rs=true)(H:List AObj)(args:List AV)(e:Q4c args=some az):Q0x O H f args=some (Q1c rs,H):=by
 obtain⟨b,a⟩:=Q6q (H:=H) (f:=idx []) e
 have g:Q0q H [] []=H:=by
  unfold Q0q
  simp only[G0j,G3e,G2h,G1s]
  refine G5a (by simp) λk b a=>?_
  rw[G4z,G4l]
  simp[idx,a]
 unfold Q0x
 simp only[b,Q1j,G1s]
 have hd:Q5p []=[]:=rfl
 simp only[hd,Q1a,a,h,G0j,G0o,if_true,g,Q4y d]
theorem ec1{O:Orc}{f:FuncId}{k:Nat}{az:List AV}{o o':AObj}{rs:List AV}(h:O.C f (.ref 0 k::az) [o]=some (rs,[o']))(a:obj1 o=true)(d:Q9q rs=true)(e:obj1 o'=true)(rest:List AObj)(args:List AV)(g:Q4c args=some az):Q0x O (o::rest) f (.ref 0 k::args)=some (Q1c rs,o'::rest):=by
 obtain⟨g1,i⟩:=Q6q (H:=o::rest) (f:=idx [0]) g
 have j:Q1l (o::rest) (.ref 0 k::args)=[0]:=by
  simp only[Q1l,toPV]
  rw[g1]
  rfl
 have l:Q0v (o::rest) (idx [0]) (.ref 0 k::args)=some (.ref 0 k::az):=by
  rw[show Q0v (o::rest) (idx [0]) (.ref 0 k::args)=(match (some (AV.ref 0 k):Option AV),Q0v (o::rest) (idx [0]) args with|some b,some s=>some (b::s)|_,_=>none) from rfl,i]
 have m:Q1a (o::rest) (idx [0]) [0]=some [o]:=by
  simp only[Q1a,G0n,G0a,Z4r a]
 unfold Q0x
 simp only[j,J9k a,G1s]
 have n:Q5p [0]=[0]:=rfl
 simp only[n,l,m,h,G0h,G0j,G0o,if_true,Y5m e,Q4y d]
def in12:List AV->Bool
 | []=>true
 | .pv _::r=>in12 r
 | .nils::r=>in12 r
 | .vec 1 _::r=>in12 r
 | .vec 2 _::r=>in12 r
 | _=>false
theorem Z1m:∀ {cs:List AV},in12 cs=true->renL (idx [0,1,2]) cs=some cs
 | [],_=>rfl
 | .pv p::r,h=>by
   simp only[renL,AV.ren]
   rw[Z1m (cs:=r) h]
 | .nils::r,h=>by
   simp only[renL,AV.ren]
   rw[Z1m (cs:=r) h]
 | .vec 1 n::r,h=>by
   rw[renL,Z1m (cs:=r) h]
   rfl
 | .vec 2 n::r,h=>by
   rw[renL,Z1m (cs:=r) h]
   rfl
theorem Z1n{m:Nat}:∀ {cs:List AV},in12 cs=true->cs.map (AV.mapL (Q6i m [0,1,2]))=cs
 | [],_=>rfl
 | .pv p::r,h=>by
   rw[G2g,Z1n (cs:=r) h]
   rfl
 | .nils::r,h=>by
   rw[G2g,Z1n (cs:=r) h]
   rfl
 | .vec 1 n::r,h=>by
   rw[G2g,Z1n (cs:=r) h]
   rfl
 | .vec 2 n::r,h=>by
   rw[G2g,Z1n (cs:=r) h]
   rfl
theorem Y5l{a b c d b' e:AObj}{rest:List AObj}(i:d.mapL (Q6i (rest.length+3) [0,1,2])=d)(hb:obj1 b'=true)(j:obj1 e=true):Q0q (a::b::c::rest) [0,1,2] [d,b',e]=d::b'::e::rest:=by
 unfold Q0q
 rw[show List.drop [0,1,2].length [d,b',e]=[] from rfl,G2h,G1s]
 refine G5a (by simp) λk g f=>?_
 rw[G4z,G4l]
 match k,g,f with
 | 0,_,_=>exact i
 | 1,_,_=>exact Z4s hb
 | 2,_,_=>exact Z4s j
 | k+3,g,f=>
   have:idx [0,1,2] (k+3)=none:=by
    simp[idx]
   rw[this]
   have hk:k<rest.length:=by simpa using f
   simp[hk]
theorem ec3{O:Orc}{f:FuncId}{k:Nat}{az:List AV}{cs cs':List AV}{b c b' a:AObj}{rs:List AV}(h:O.C f (.ref 0 k::az) [.var cs,b,c]=some (rs,[.var cs',b',a]))(d:(in12 cs&&decide (Q4n cs=[1,2]))=true)(hb:obj1 b=true)(e:obj1 c=true)(g:Q9q rs=true)(i:in12 cs'=true)(j:obj1 b'=true)(l:obj1 a=true)(rest:List AObj)(args:List AV)(m:Q4c args=some az):
 Q0x O (.var cs::b::c::rest) f (.ref 0 k::args)=some (Q1c rs,.var cs'::b'::a::rest):=by
 rw[G0k,G0s]at d
 obtain⟨g1,n⟩:=Q6q (H:=.var cs::b::c::rest) (f:=idx [0,1,2]) m
 have o:Q1l (.var cs::b::c::rest) (.ref 0 k::args)=[0]:=by
  simp only[Q1l,toPV]
  rw[g1]
  rfl
 have p:Q1j (.var cs::b::c::rest) [0]=[1,2]:=by
  simp only[Q1j,G0n,d.2,G1s]
 have q:Q0v (.var cs::b::c::rest) (idx [0,1,2]) (.ref 0 k::args)=some (.ref 0 k::az):=by
  rw[show Q0v (.var cs::b::c::rest) (idx [0,1,2]) (.ref 0 k::args)=(match (some (AV.ref 0 k):Option AV),Q0v (.var cs::b::c::rest) (idx [0,1,2]) args with|some b,some s=>some (b::s)|_,_=>none) from rfl,n]
 have r:Q1a (.var cs::b::c::rest) (idx [0,1,2]) [0,1,2]=some [.var cs,b,c]:=by
  have t:(AObj.var cs).ren (idx [0,1,2])=some (.var cs):=by simp only[AObj.ren,Z1m d.1,G0w]
  simp only[Q1a,G0n,G0y,G0a,t,Z4r hb,Z4r e]
 have u:AObj.mapL (Q6i (rest.length+3) [0,1,2]) (.var cs')=.var cs':=by
  simp only[AObj.mapL,Z1n i]
 unfold Q0x
 simp only[o,p]
 have x:Q5p ([0]++[1,2])=[0,1,2]:=rfl
 simp only[x,q,r,h,G0h,G0j,G0o,if_true,Y5l u j l,Q4y g]
end Go.Abs
