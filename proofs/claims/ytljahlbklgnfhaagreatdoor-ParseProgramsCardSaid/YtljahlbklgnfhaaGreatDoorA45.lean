import Derived.Test.YtljahlbklgnfhaaGreatDoorA28
import Derived.Test.YtljahlbklgnfhaaGreatDoorA39
set_option linter.unusedVariables false
set_option linter.unusedSimpArgs false
set_option linter.defProp false
namespace Go.Abs
open Go.RowKit
abbrev ai(n:Int):AV:=.pv (.int .i64 n)
abbrev as_(s:List UInt8):AV:=.pv (.str s)
abbrev ab(b:Bool):AV:=.pv (.bool b)
def dstOf(ops:Array Oper)(j:Nat):Option Nat:=(ops[j]?).bind (·.dst)
def mayAt(A:List (List Nat))(a:List Nat)(j p:Nat):Bool:=
 ((a.take p).all λe=>e != j&&!(A.getD e []).contains j)&&((a.drop p).all λe=>!(A.getD j []).contains e)
def chained(A:List (List Nat)):List Nat->Bool
 | []=>true
 | e::r=>(r.all λx=>(A.getD x []).contains e)&&chained A r
def J2o(ops:Array Oper)(n:Nat)(a:List Nat)(F:List (Nat×Nat)):Bool:=
 let A:=ancs ops ops.size
 let R:=List.range ops.size
 (R.all λj=>((direct ops j).all λi=>decide (i<j))&&(match dstOf ops j with
   | some d=>decide (d<n)&&R.all λk=>match ops[k]? with
     | some o=>!(o.looksAt ops).contains d||(A.getD k []).contains j
     | none=>true
   | none=>true)&&((List.range j).all λi=>dstOf ops i==none||dstOf ops i != dstOf ops j) &&
   ((List.range (a.length+1)).all λp=>!mayAt A a j p||F.contains (j,p))) &&
 chained A a&&a.all λe=>decide (e<ops.size)
def Q4f(ops:Array Oper)(val:List AV):List (Nat×AV):=(List.range ops.size).filterMap λj=>(dstOf ops j).map λd=>(d,val.getD j .any)
def Q4p(E:Env)(O:Orc)(ops:Array Oper)(t:Nat->AV)(n:Nat)(val:List AV)(hs:List (List AObj))(a:List Nat):List (Nat×Nat)->Prop
 | []=>True
 | (j,p)::r=>(∀o,ops[j]?=some o->Q2d E O ops ⟨t,n,hs.getD p []⟩ o=some (val.getD j .any,hs.getD (if a.contains j then p+1 else p) []))/\Q4p E O ops t n val hs a r
section
variable {E:Env}{O:Orc}{γ₀:List Gh}{H₀:List AObj}{Φ₀:Nat->Nat->Prop}{w₀:World}
theorem Q4p.at{ops:Array Oper}{t:Nat->AV}{n:Nat}{val:List AV}{hs:List (List AObj)}{b:List Nat}:∀ {F:List (Nat×Nat)},Q4p E O ops t n val hs b F->∀ {j p:Nat},(j,p)∈F->∀ {o:Oper},ops[j]?=some o->
 Q2d E O ops ⟨t,n,hs.getD p []⟩ o=some (val.getD j .any,hs.getD (if b.contains j then p+1 else p) [])
 | [],_,_,_,h=>by cases h
 | (j',i)::r,⟨d,e⟩,j,p,h=>by
   rcases G1q.1 h with h|h
   ·injection h with f g
    subst f g
    exact λa=>d _ a
   exact λa=>e.at h a
theorem Z3t{ops:Array Oper}{o:Oper}{t a:Nat->AV}{n:Nat}{X:List AObj}(h:∀d∈o.looksAt ops,t d=a d):Q2d E O ops ⟨t,n,X⟩ o=Q2d E O ops ⟨a,n,X⟩ o:=by
 have b:aop E O ⟨t,n,X⟩ o=aop E O ⟨a,n,X⟩ o:=J3i o (λx e=>by
  cases x with
  | tmp d=>exact h d (G4o _ (G3m.2 ⟨.tmp d,by simpa using e,rfl⟩))
  | _=>rfl)
 have f:gdec ops t o=gdec ops a o:=by
  unfold gdec
  cases i:o.guard with
  | none=>rfl
  | some p=>
    obtain⟨j,l⟩:=p
    simp only
    cases hd:(ops[j]?).bind (·.dst)with
    | none=>rfl
    | some g=>
      simp only
      rw[h g (by simp[Oper.looksAt,i,hd])]
 unfold Q2d
 simp only[b,f]
theorem Z2q{A:List (List Nat)}:∀ {a:List Nat},chained A a=true->∀ {p:Nat} {e x:Nat},a[p]?=some e->x∈a.drop (p+1)->e∈A.getD x []
 | [],_,p,e,x,h,_=>by simp at h
 | f::r,b,p,e,x,h,d=>by
   simp only[chained,G0k]at b
   cases p with
   | zero=>
     simp only[G0n,G0b]at h
     subst h
     have:=G0t.1 b.1 x (by simpa using d)
     simpa using this
   | succ p=>exact Z2q b.2 (by simpa using h) (by simpa using d)
theorem Z5g(L:List (Nat×AV)):∀ (P:List (Nat×AV)) (i:Nat),(∀v,(i,v)∉P)->sl (P++L) i=sl L i
 | [],i,_=>rfl
 | (j,v)::P,i,h=>by
   show(if i=j then v else sl (P++L) i)=_
   rw[if_neg (λe=>h v (by rw[e];simp)),Z5g L P i λu a=>h u (G2w _ a)]
theorem X1d(L:List (Nat×AV)):∀ (P:List (Nat×AV)) (i:Nat) (v:AV),(i,v)∈P->(∀u,(i,u)∈P->u=v)->sl (P++L) i=v
 | [],i,v,h,_=>by cases h
 | (j,u)::P,i,v,h,b=>by
   show(if i=j then u else sl (P++L) i)=v
   by_cases a:i=j
   ·rw[if_pos a]
    exact b u (by rw[a];simp)
   rw[if_neg a]
   refine X1d L P i v ?_ λx d=>b x (G2w _ d)
   rcases G1q.1 h with h|h
   ·injection h with e f
    exact absurd e a
   exact h
structure Planned(ops:Array Oper)(n:Nat)(eff:List Nat)(F:List (Nat×Nat)):Prop where
 lt:∀ {i j:Nat},j<ops.size->i∈direct ops j->i<j
 dst:∀ {j d:Nat},dstOf ops j=some d->d<n/\∀ {k:Nat} {o:Oper},ops[k]?=some o->d∈o.looksAt ops->j∈(ancs ops ops.size).getD k []
 one:∀ {i j d:Nat},dstOf ops i=some d->dstOf ops j=some d->i=j
 may:∀ {j p:Nat},j<ops.size->p<=eff.length->mayAt (ancs ops ops.size) eff j p=true->(j,p)∈F
 chain:chained (ancs ops ops.size) eff=true
 effs:∀ {e:Nat},e∈eff->e<ops.size
theorem Q5z{ops:Array Oper}{j d:Nat}(h:dstOf ops j=some d):j<ops.size:=by
 unfold dstOf at h
 obtain⟨o,a,_⟩:=G1n.1 h
 exact(G1b.1 a).1
theorem Z5q{ops:Array Oper}{n:Nat}{l:List Nat}{F:List (Nat×Nat)}(h:J2o ops n l F=true):Planned ops n l F:=by
 unfold J2o at h
 simp only[G0k]at h
 obtain⟨⟨r,s⟩,t⟩:=h
 have a:=λj (a:j<ops.size)=>G0t.1 r j (G1k.2 a)
 simp only[G0k]at a
 have m:∀ {i j d:Nat},i<j->dstOf ops i=some d->dstOf ops j=some d->False:=by
  intro i j d u b f
  have:=G0t.1 (a j (Q5z f)).1.2 i (G1k.2 u)
  rw[b,f]at this
  simp at this
 refine⟨λ{i j} g b=>by simpa using G0t.1 (a j g).1.1.1 i b,λ{j d} hd=>?_,λ{i j d} b f=>?_,λ{j p} g z w=>?_,s,λ{e} x=>by simpa using G0t.1 t e x⟩
 ·have:=(a j (Q5z hd)).1.1.2
  rw[hd]at this
  simp only[G0k,G0s]at this
  refine⟨this.1,λ{k o} q y=>?_⟩
  have hk:=G0t.1 this.2 k (G1k.2 (G1b.1 q).1)
  simp only[q]at hk
  rcases G2r _ _▸hk with hk|hk
  ·simp[y]at hk
  simpa using hk
 ·rcases G6u i j with h|h|h
  ·exact(m h b f).elim
  ·exact h
  exact(m h f b).elim
 have:=G0t.1 (a j g).2 p (G1k.2 (by omega))
 rcases G2r _ _▸this with h|h
 ·rw[w]at h
  cases h
 simpa using h
theorem Z3q(hS:Q1p E O){ops:Array Oper}{n:Nat}{b:List Nat}{F:List (Nat×Nat)}(H:Planned ops n b F){val:List AV}{hs:List (List AObj)}{L0:List (Nat×AV)}
 (C:Nat->Bool) (hf:∀ (j p:Nat) (o:Oper),C j=false->(∀x,C x=true->x∉(ancs ops ops.size).getD j [])->(j,p)∈F->ops[j]?=some o->Q2d E O ops ⟨sl (Q4f ops val++L0),n,hs.getD p []⟩ o=some (val.getD j .any,hs.getD (if b.contains j then p+1 else p) [])) {Q:Exit->Act->World->Prop}
 (hX:∀ (j:Nat) (o:Oper),C j=true->ops[j]?=some o->∀ (σ:St) (a:Act) (w:World) (K:Act->World->Prop),σ.n=n->σ.h=hs.getD b.length []->(∀d∈o.looksAt ops,σ.t d=sl (Q4f ops val++L0) d)->Rel E γ₀ H₀ Φ₀ w₀ σ a w->Region.wanted o (yielded ops a.tmps)=true/\o.wp E.P a w K Q)
 (a1:∀ (j e:Nat),C j=true->e∈b->e∈(ancs ops ops.size).getD j [])
 (hQ:(∀j,j<ops.size->C j=false)->∀a' w',Rel E γ₀ H₀ Φ₀ w₀ ⟨sl (Q4f ops val++L0),n,hs.getD b.length []⟩ a' w'->Q .normal a' w'):
 ∀ (M:Nat) (listed:Array Bool) (σ:St) (a:Act) (w:World) (p:Nat),listed.size=ops.size->(todo ops listed).length<=M->(∀j,listed.getD j false=true->∀i∈direct ops j,listed.getD i false=true)->
  p<=b.length->(∀e∈b.take p,listed.getD e false=true)->(∀e∈b.drop p,listed.getD e false=false)->σ.h=hs.getD p []->σ.n=n->
  (∀j d,listed.getD j false=true->dstOf ops j=some d->σ.t d=val.getD j .any)->(∀i,(∀j,listed.getD j false=true->dstOf ops j≠some i)->σ.t i=sl L0 i)->
  (∀j,C j=true->listed.getD j false=false)->Rel E γ₀ H₀ Φ₀ w₀ σ a w->wpAny E.P .any ops Q M listed a w:=by
 have tF:∀j d,dstOf ops j=some d->sl (Q4f ops val++L0) d=val.getD j .any:=by
  intro j d hd
  refine X1d L0 _ d _ (G3m.2 ⟨j,G1k.2 (Q5z hd),by rw[hd];rfl⟩) λu hu=>?_
  obtain⟨k,hk,f⟩:=G3m.1 hu
  obtain⟨d',az,T⟩:=G0g.1 f
  injection T with e1 e2
  subst e1
  rw[<-e2,H.one az hd]
 have aN:∀i,(∀j,dstOf ops j≠some i)->sl (Q4f ops val++L0) i=sl L0 i:=by
  intro i g
  refine Z5g L0 _ i λv hv=>?_
  obtain⟨k,hk,f⟩:=G3m.1 hv
  obtain⟨d',az,T⟩:=G0g.1 f
  injection T with e1 e2
  subst e1
  exact g k az
 have gt:∀ (listed:Array Bool) (j:Nat),listed.size=ops.size->j<ops.size->(listed.getD j true=listed.getD j false):=by
  intro listed j s q
  have:j<listed.size:=by omega
  simp[this]
 have aO:∀ (listed:Array Bool) (σ:St) (p:Nat),listed.size=ops.size->todo ops listed=[]->p<=b.length->(∀e∈b.drop p,listed.getD e false=false)->σ.h=hs.getD p []->σ.n=n->
  (∀j d,listed.getD j false=true->dstOf ops j=some d->σ.t d=val.getD j .any)->(∀i,(∀j,listed.getD j false=true->dstOf ops j≠some i)->σ.t i=sl L0 i)->σ=⟨sl (Q4f ops val++L0),n,hs.getD b.length []⟩:=by
  intro listed σ p s z U hd I A J hb
  have aP:∀j,j<ops.size->listed.getD j false=true:=by
   intro j q
   cases hb:listed.getD j false with
   | true=>rfl
   | false=>
     have:j∈todo ops listed:=G2a.2 ⟨G1k.2 q,by rw[gt listed j s q,hb];rfl⟩
     rw[z]at this
     cases this
  have aB:p=b.length:=by
   rcases G4t p b.length with h|h
   ·have V:b[p]∈b.drop p:=by
     rw[G2p h]
     exact G4k
    have y:=hd _ V
    rw[aP _ (H.effs (G2u h))]at y
    cases y
   omega
  obtain⟨t,m,a4⟩:=σ
  simp only at I A J hb
  subst A aB
  rw[I]
  congr 1
  funext i
  by_cases g:∃j,dstOf ops j=some i
  ·obtain⟨j,q⟩:=g
   rw[J j i (aP j (Q5z q)) q,tF j i q]
  rw[aN i λj q=>g ⟨j,q⟩,hb i λj _ q=>g ⟨j,q⟩]
 have aQ:∀ (listed:Array Bool),listed.size=ops.size->todo ops listed=[]->(∀j,C j=true->listed.getD j false=false)->∀j,j<ops.size->C j=false:=by
  intro listed s z S j q
  cases hb:C j with
  | false=>rfl
  | true=>
    have:j∈todo ops listed:=G2a.2 ⟨G1k.2 q,by rw[gt listed j s q,S j hb];rfl⟩
    rw[z]at this
    cases this
 have a5:∀ (listed:Array Bool),listed.size=ops.size->todo ops listed=[]->Region.ready .any ops listed=[]:=by
  intro listed s h
  refine G4u.2 λj q=>?_
  obtain⟨y,o,D,_⟩:=mem_ready.1 q
  have:j∈todo ops listed:=G2a.2 ⟨G1k.2 (G1b.1 D).1,by simp[y]⟩
  rw[h]at this
  cases this
 have a6:∀ (listed:Array Bool),listed.size=ops.size->todo ops listed≠[]->Region.ready .any ops listed≠[]:=by
  intro listed s ae aC
  obtain⟨j,rest,aD⟩:=G5k ae
  have q:j∈todo ops listed:=by rw[aD];simp
  obtain⟨af,a7⟩:=G2a.1 q
  have aE:=G1k.1 af
  have aR:(todo ops listed).Pairwise (·<·):=(G5b (n:=ops.size)).filter _
  rw[aD]at aR
  have aS:j∈Region.ready .any ops listed:=by
   refine mem_ready.2 ⟨by simpa using a7,ops[j],G2k aE,λe f hb=>?_⟩
   have hd:e.on∈direct ops j:=by
    simp only[direct,G2k aE]
    exact G3i.2 ⟨e,G2a.2 ⟨by simpa using f,hb⟩,rfl⟩
   have br:=H.lt aE hd
   have a8:e.on<listed.size:=by omega
   cases aF:listed.getD e.on true with
   | true=>
     simp[a8]at aF |-
     exact aF
   | false=>
     exfalso
     have V:e.on∈todo ops listed:=G2a.2 ⟨G1k.2 (by omega),by simpa using aF⟩
     rw[aD]at V
     rcases G1q.1 V with h|h
     ·omega
     have:=(G6o.1 aR).1 e.on h
     omega
  rw[aC]at aS
  cases aS
 intro M
 induction M with
 | zero=>
   intro listed σ a w p s hl ag U ah N I A J hb S hR
   have z:todo ops listed=[]:=G1g (by omega)
   have:=aO listed σ p s z U N I A J hb
   subst this
   exact⟨a5 listed s z,hQ (aQ listed s z S) a w hR⟩
 | succ M ih=>
   intro listed σ a w p s hl ag U ah N I A J hb S hR
   refine⟨λaC=>?_,λj q=>?_⟩
   ·by_cases z:todo ops listed=[]
    ·have:=aO listed σ p s z U N I A J hb
     subst this
     exact hQ (aQ listed s z S) a w hR
    exact absurd aC (a6 listed s z)
   obtain⟨y,o,D,ba⟩:=mem_ready.1 q
   have af:j<ops.size:=(G1b.1 D).1
   have aT:j∈todo ops listed:=G2a.2 ⟨G1k.2 af,by simp[y]⟩
   have au:listed.getD j false=false:=by
    have:=(G2a.1 aT).2
    rw[gt listed j s af]at this
    simpa using this
   obtain⟨l,r,e1,e2,bt⟩:=Z2b aT
   have aU:∀i∈direct ops j,listed.getD i false=true:=by
    intro i g
    simp only[direct,D]at g
    obtain⟨e,f,rfl⟩:=G3i.1 g
    have T:=G2a.1 f
    exact ba e (by simpa using T.1) T.2
   have W:=Q2z (ops:=ops) (L:=λi=>listed.getD i false=true) ag ops.size j aU
   have bb:mayAt (ancs ops ops.size) b j p=true:=by
    unfold mayAt
    rw[G0k]
    refine⟨G0t.2 λe f=>?_,G0t.2 λe f=>?_⟩
    ·have ak:=ah e f
     rw[G0k]
     refine⟨?_,?_⟩
     ·simp only[G5x,ne_eq]
      intro e'
      rw[e',au]at ak
      cases ak
     cases hc:((ancs ops ops.size).getD e []).contains j with
     | false=>rfl
     | true=>
       have:=Q2z (ops:=ops) (L:=λi=>listed.getD i false=true) ag ops.size e (ag e ak) j (by simpa using hc)
       rw[au]at this
       cases this
    have ak:=N e f
    cases hc:((ancs ops ops.size).getD j []).contains e with
    | false=>rfl
    | true=>
      have:=W e (by simpa using hc)
      rw[ak]at this
      cases this
   have aI:∀d∈o.looksAt ops,σ.t d=sl (Q4f ops val++L0) d:=by
    intro d hd
    by_cases hk:∃k,dstOf ops k=some d
    ·obtain⟨k,hk⟩:=hk
     rw[tF k d hk]
     exact J k d (W k ((H.dst hk).2 D hd)) hk
    rw[aN d λk aJ=>hk ⟨k,aJ⟩]
    exact hb d λk _ aJ=>hk ⟨k,aJ⟩
   cases am:C j with
   | true=>
     have aB:p=b.length:=by
      rcases G4t p b.length with h|h
      ·have V:b[p]∈b.drop p:=by
        rw[G2p h]
        exact G4k
       have y:=N _ V
       rw[W _ (a1 j _ am (G2u h))]at y
       cases y
      omega
     subst aB
     obtain⟨hw,bc⟩:=hX j o am D σ a w (wpAny E.P .any ops Q M (listed.setIfInBounds j true)) A I aI hR
     unfold wpOp
     rw[D]
     simp only[hw,if_true]
     exact .inl bc
   | false=>
   have be:=hf j p o am (λx hx bg=>by have y:=S x hx;rw[W x bg]at y;cases y) (H.may af U bb) D
   have bh:Q2d E O ops σ o=some (val.getD j .any,hs.getD (if b.contains j then p+1 else p) []):=by
    obtain⟨t,m,a4⟩:=σ
    simp only at I A aI
    subst I A
    rw[Z3t aI]
    exact be
   have av:o.dst=dstOf ops j:=by simp[dstOf,D]
   have bi:put σ o.dst (val.getD j .any) (hs.getD (if b.contains j then p+1 else p) [])=some ⟨putT σ.t (val.getD j .any) o.dst,n,hs.getD (if b.contains j then p+1 else p) []⟩:=by
    unfold put putT
    cases hd:o.dst with
    | none=>simp only[A]
    | some d=>
      have bj:=(H.dst (by rw[<-av,hd]:dstOf ops j=some d)).1
      simp only[A,if_pos bj]
   have hs1:Q8a E O ops σ o=some ⟨putT σ.t (val.getD j .any) o.dst,n,hs.getD (if b.contains j then p+1 else p) []⟩:=by
    rw[Q4u,bh]
    exact bi
   have aV:∀i,(listed.setIfInBounds j true).getD i false=true->i=j\/listed.getD i false=true:=by
    intro i g
    by_cases aW:j=i
    ·exact .inl aW.symm
    rw[getD_set_ne false aW]at g
    exact .inr g
   have aX:(listed.setIfInBounds j true).getD j false=true:=by
    have:j<listed.size:=by omega
    simp[this]
   have aq:∀i,listed.getD i false=true->(listed.setIfInBounds j true).getD i false=true:=λi g=>getD_set_true g
   have aw:=Q5d hS hs1 hR (K:=wpAny E.P .any ops Q M (listed.setIfInBounds j true)) (Q:=Q) (λa' w' bk=>by
    have aY:∀X,X<=b.length->(∀e∈b.take X,(listed.setIfInBounds j true).getD e false=true)->(∀e∈b.drop X,(listed.setIfInBounds j true).getD e false=false)->(if b.contains j then p+1 else p)=X->
     wpAny E.P .any ops Q M (listed.setIfInBounds j true) a' w':=by
     intro X bl bm bn bo
     refine ih (listed.setIfInBounds j true) _ a' w' X (by simpa using s) ?_ ?_ bl bm bn (by rw[bo]) rfl ?_ ?_ (λi g=>?_) bk
     ·rw[e2]
      rw[e1]at hl
      simp only[G0i,G0h]at hl |-
      omega
     ·intro k hk i g
      rcases aV k hk with rfl|hk
      ·exact aq _ (aU i g)
      exact aq _ (ag k hk i g)
     ·intro k d hk hd
      show putT σ.t (val.getD j .any) o.dst d=_
      by_cases aK:k=j
      ·subst aK
       rw[av,hd]
       show upd σ.t d _ d=_
       simp[upd]
      rcases aV k hk with h|hk
      ·exact absurd h aK
      rw[av]
      cases P:dstOf ops j with
      | none=>exact J k d hk hd
      | some d'=>
        show upd σ.t d' _ d=_
        unfold upd
        rw[if_neg (λe=>aK (H.one hd (by rw[P,e])))]
        exact J k d hk hd
     ·intro i g
      show putT σ.t (val.getD j .any) o.dst i=_
      rw[av]
      have hold:=hb i λk hk=>g k (aq k hk)
      cases P:dstOf ops j with
      | none=>exact hold
      | some d'=>
        show upd σ.t d' _ i=_
        unfold upd
        rw[if_neg (λe=>g j aX (by rw[P,e]))]
        exact hold
     rw[getD_set_ne false (λe=>by rw[e,g]at am;cases am)]
     exact S i g
    by_cases ax:j∈b
    ·
     have P:j∈b.drop p:=by
      rcases G2v.1 (by rw[G1v];exact ax:j∈b.take p++b.drop p)with h|h
      ·have:=ah j h
       rw[au]at this
       cases this
      exact h
     have Y:p<b.length:=by
      rcases G4t p b.length with h|h
      ·exact h
      rw[G2t h]at P
      cases P
     have hat:b[p]=j:=by
      rw[G2p Y]at P
      rcases G1q.1 P with h|h
      ·exact h.symm
      have ay:=Z2q H.chain (G0c Y) h
      have h2:=W _ ay
      have h3:=N b[p] (by rw[G2p Y];exact G4k)
      rw[h2]at h3
      cases h3
     refine aY (p+1) (by omega) (λe f=>?_) (λe f=>?_) (by rw[if_pos (by simpa using ax)])
     ·rw[List.take_add_one,G0c Y,hat]at f
      rcases G2v.1 f with h|h
      ·exact aq e (ah e h)
      simp only[Option.toList_some,G4d]at h
      rw[h]
      exact aX
     have bq:=N e (by rw[G2p Y];exact G2w _ f)
     have ae:j≠e:=by
      intro e'
      subst e'
      have ay:=Z2q H.chain (G0c Y) f
      rw[hat]at ay
      have:=W _ ay
      rw[au]at this
      cases this
     rw[getD_set_ne false ae]
     exact bq
    refine aY p U (λe f=>aq e (ah e f)) (λe f=>?_) (by rw[if_neg (by simpa using ax)])
    have ae:j≠e:=λe'=>ax (by rw[e'];exact G3k f)
    rw[getD_set_ne false ae]
    exact N e f)
   unfold wpOp
   rw[D]
   simp only
   split
   ·rename_i hw
    rw[if_pos hw]at aw
    exact .inl aw
   rename_i hw
   rw[if_neg hw]at aw
   exact aw
theorem AW.dregV(r:E.P.follows .mixedOrders=true)(hS:Q1p E O){k id n:Nat}{L0:List (Nat×AV)}{h:List AObj}{ops:Array Oper}{Q:Exit->St->Prop}(b:List Nat)(F:List (Nat×Nat))(val:List AV)(hs:List (List AObj))(LF:List (Nat×AV))
 (s:Q4f ops val++L0=LF) (t:J2o ops n b F=true) (u:hs.getD 0 []=h) (x:Q4p E O ops (sl LF) n val hs b F) (L:List (Nat×AV)) (h':List AObj) (y:Q8l (sl LF) L) (z:hs.getD b.length []=h') (A:Q .normal ⟨sl L,n,h'⟩):
 AW E k (.region id ops true) Q ⟨sl L0,n,h⟩:=by
 subst s
 intro γ₀ H₀ Φ₀ w₀ a w C D
 refine wp_region_any r ?_
 have H:todo ops (Array.replicate ops.size false)=List.range ops.size:=by
  refine G5n.2 λi g=>?_
  simp[G1k.1 g]
 have l:∀i,(Array.replicate ops.size false).getD i false=false:=by
  intro i
  by_cases g:i<ops.size
  ·simp[g]
  simp[g]
 refine Z3q hS (Z5q t) (λ_=>false) (λj p o _ _ I J=>x.at I J) (γ₀:=γ₀) (H₀:=H₀) (Φ₀:=Φ₀) (w₀:=w₀) (λj o h=>by cases h) (λj e h=>by cases h) (λ_ K w' M=>?_) ops.size _ ⟨sl L0,n,h⟩ a _ 0 (by simp) (by rw[H];simp) (λj f=>by rw[l]at f;cases f) (G2l _) (λe N=>by simp at N) (λe _=>l e) u.symm rfl
  (λj d f=>by rw[l]at f;cases f) (λi _=>rfl) (λj h=>by cases h) ?_
 ·have P:Weak E k ⟨sl (Q4f ops val++L0),n,hs.getD b.length []⟩ ⟨sl L,n,hs.getD b.length []⟩:=Weak.forget (Q4m y)
  have q:=P γ₀ H₀ Φ₀ w₀ K w' C M
  rw[z]at q
  exact⟨_,q,A⟩
 obtain⟨⟨γ,Φ,m,S⟩,T,hd,U⟩:=D
 have hk:Ok E γ h Φ w γ h Φ { w with drawn:=w.drawn+1 }:=m.inv.grow (λ_ _=>rfl) (G0o _) rfl rfl rfl (λ_ _ h=>h) (λ_ _ h _=>h) m.inv.phi
 exact⟨⟨γ,Φ,m.trans hk,λi=>(S i).mono hk.evo⟩,T,hd,U⟩
theorem Q4p.nil{ops:Array Oper}{t:Nat->AV}{n:Nat}{val:List AV}{hs:List (List AObj)}{a:List Nat}:Q4p E O ops t n val hs a []:=trivial
theorem Q4p.cons{ops:Array Oper}{t:Nat->AV}{n:Nat}{val:List AV}{hs:List (List AObj)}{a:List Nat}{j p:Nat}{F:List (Nat×Nat)}{v:AV}{b d:List AObj}(e:val.getD j .any=v)(f:hs.getD p []=b)(g:hs.getD (if a.contains j then p+1 else p) []=d)
 (h:((ops[j]?).bind λo=>Q2d E O ops ⟨t,n,b⟩ o)=some (v,d)) (i:Q4p E O ops t n val hs a F):Q4p E O ops t n val hs a ((j,p)::F):=
 ⟨λo' l=>by
  rw[l,G0a]at h
  rw[f,g,e]
  exact h,i⟩
end
theorem J6u{T:Nat->Option TI}{s d a b f b':Nat}{k e:IntKind}{z g:Option (List PV)}(h:T s=some ⟨.int k,a,b,z⟩)(h':T d=some ⟨.int e,f,b',g⟩)(k2:IntKind)(n:Int):J9c T s d (.pv (.int k2 n))=some (.pv (.int e (e.wrap n))):=by
 simp only[J9c,h,h']
end Go.Abs
namespace Go.Abs
open Go.RowKit
section
variable {E:Env}{σ:St}{k:Nat}
theorem Weak.cellPV(l j:Nat){cs:List AV}{a:AV}{p:PV}(o:σ.h[l]?=some (.var cs))(q:cs[j]?=some a)(y:toPV σ.h a=some p):Weak E k σ ⟨σ.t,σ.n,σ.h.set l (.var (cs.set j (.pv p)))⟩:=by
 intro γ₀ H₀ Φ₀ w₀ J w _ z
 obtain⟨⟨γ,Φ,e,hs⟩,A,hd,C⟩:=z
 obtain⟨g,r,D⟩:=e.inv.gh o
 obtain⟨b,T,vs,F,H,hb,I,s,t⟩:=D
 have hk:=e.inv.setObj (o':=.var (cs.set j (.pv p))) (g':=g) (w':=w) (Φ':=Φ) o r (λ_ _ _=>rfl) (G0o _) rfl rfl rfl (λ_ _ h=>h) (λ_ _ h _ _=>h) (λb k h=>e.inv.phi b k h) (λ_ _ _ _=>rfl)
  (λb hb=>⟨.inl hb,(e.inv.own l g r b hb).2⟩) (.inl rfl) (λK L M h=>by cases h)
  (λf=>⟨b,T,vs,F,H,hb,by simpa using I,λi v c u d=>by
    by_cases x:i=j
    ·subst x
     rw[G1c (G0f.1 q).1]at d
     injection d with d
     subst d
     obtain⟨m,n⟩:=s i v _ u q
     exact⟨m,.pv ((Q1q e.inv n y).mono f.phi f.cell)⟩
    ·rw[G1e (Ne.symm x)]at d
     obtain⟨m,n⟩:=s i v c u d
     exact⟨m,n.mono f⟩,t.1,λc d hs=>by
    rcases G2q d with d|rfl
    ·exact t.2 c d hs
    cases hs⟩)
 exact⟨⟨_,_,e.trans hk,λi=>(hs i).mono hk.evo⟩,A,hd,C⟩
end
end Go.Abs
namespace Go.Abs
open Go.RowKit
def mkO(b:Nat)(n:Int):Option Unit:=if 0<=n/\n.toNat * b<=140737488355328 then some ()else none
theorem K6i{b:Nat}{n:Int}{u:Unit}(h:mkO b n=some u):(0<=n)=True/\(n.toNat * b<=140737488355328)=True:=by
 unfold mkO at h
 split at h
 ·rename_i a
  exact⟨eq_true a.1,eq_true a.2⟩
 cases h
end Go.Abs
