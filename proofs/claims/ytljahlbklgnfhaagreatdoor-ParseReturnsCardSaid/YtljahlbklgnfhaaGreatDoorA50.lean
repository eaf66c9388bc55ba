import Derived.Test.YtljahlbklgnfhaaGreatDoorA45
set_option linter.unusedVariables false
set_option linter.unusedSimpArgs false
set_option linter.defProp false
namespace Go.Abs
open Go.RowKit
def mayAt2(A:List (List Nat))(b D:List Nat)(j:Nat):Bool:=
 (D.all λe=>e != j&&!(A.getD e []).contains j)&&(b.all λe=>D.contains e||!(A.getD j []).contains e)
def Z3s(ops:Array Oper)(n:Nat)(b:List Nat)(S:List (List Nat))(fin:Nat)(F:List (Nat×Nat×Nat))(X:List Nat):Bool:=
 let A:=ancs ops ops.size
 let R:=List.range ops.size
 (R.all λj=>((direct ops j).all λi=>decide (i<j))&&(match dstOf ops j with
   | some d=>decide (d<n)&&R.all λk=>match ops[k]? with
     | some o=>!(o.looksAt ops).contains d||(A.getD k []).contains j
     | none=>true
   | none=>true)&&((List.range j).all λi=>dstOf ops i==none||dstOf ops i != dstOf ops j) &&
   ((List.range S.length).all λs=>!mayAt2 A b (S.getD s []) j||(X.any λx=>x==j||(A.getD j []).contains x)||F.any λf=>f.1==j&&f.2.1==s&&decide (f.2.2<S.length) &&
     (if b.contains j=true then b.all λe=>(S.getD f.2.2 []).contains e==(e==j||(S.getD s []).contains e)else f.2.2==s))) &&
 (b.all λe=>decide (e<ops.size))&&(S.all λD=>D.all λe=>b.contains e)&&((List.range S.length).all λs=>s==fin||b.any λe=>!(S.getD s []).contains e)&&decide (0<S.length)&&(S.getD 0 []==[])&&X.all λx=>b.all λe=>(A.getD x []).contains e
def Y4m(E:Env)(O:Orc)(ops:Array Oper)(σ:St)(o:Oper)(v:AV)(h':List AObj):Prop:=
 Q2t E O ops σ o=some (v,h') \/
  ∃b d l ti z,o.op=.alloc b/\o.guard=none/\o.dst=some d/\E.bT≠some b/\E.T b=some ti/\ti.zero=some z/\σ.h[l]?=some (.hold d)/\v=.ref l 0/\h'=σ.h.set l (.var (z.map zAV))
def Q3b(E:Env)(O:Orc)(ops:Array Oper)(t:Nat->AV)(n:Nat)(b:List AV)(hs:List (List AObj)):List (Nat×Nat×Nat)->Prop
 | []=>True
 | (j,s,d)::r=>(∀o,ops[j]?=some o->Y4m E O ops ⟨t,n,hs.getD s []⟩ o (b.getD j .any) (hs.getD d []))/\Q3b E O ops t n b hs r
section
variable {E:Env}{O:Orc}{γ₀:List Gh}{H₀:List AObj}{Φ₀:Nat->Nat->Prop}{w₀:World}{σ:St}{k:Nat}
theorem Weak.hold(d:Nat):Weak E k σ ⟨σ.t,σ.n,σ.h++[.hold d]⟩:=by
 intro γ₀ H₀ Φ₀ w₀ l w _ f
 obtain⟨⟨γ,Φ,e,hs⟩,g,hd,j⟩:=f
 have hk:=e.inv.pushObj (w':=w) (Φ':=Φ) (λ_ _=>rfl) (G0r _) rfl rfl rfl (λ_ _ h=>h) (λ_ _ h _=>h) (λb k h=>e.inv.phi b k h) ⟨.slice none 0 0,[]⟩ (.hold d) (λb hb=>by cases hb) (λm=>⟨rfl,rfl⟩)
 exact⟨⟨_,_,e.trans hk,λi=>(hs i).mono hk.evo⟩,g,hd,j⟩
theorem Q3b.at{ops:Array Oper}{t:Nat->AV}{n:Nat}{f:List AV}{hs:List (List AObj)}:∀ {F:List (Nat×Nat×Nat)},Q3b E O ops t n f hs F->∀ {j s b:Nat},(j,s,b)∈F->∀ {o:Oper},ops[j]?=some o->
 Y4m E O ops ⟨t,n,hs.getD s []⟩ o (f.getD j .any) (hs.getD b [])
 | [],_,_,_,_,h=>by cases h
 | (p,q,u)::r,⟨g,i⟩,j,s,b,h=>by
   rcases G1j.1 h with h|h
   ·injection h with l d
    injection d with d m
    subst l d m
    exact λe=>g _ e
   exact λe=>i.at h e
theorem J0d{ops:Array Oper}{o:Oper}{a:Act}{w:World}{f d l:Nat}{ti:TI}{z:List PV}(C:o.op=.alloc f)(D:o.guard=none)(hd:o.dst=some d)(_hb:E.bT≠some f)(hT:E.T f=some ti)(F:ti.zero=some z)(t:σ.h[l]?=some (.hold d))(I:d<σ.n)
 (J:Rel E γ₀ H₀ Φ₀ w₀ σ a w) {K:Act->World->Prop} {Q:Exit->Act->World->Prop} (L:∀u w',Rel E γ₀ H₀ Φ₀ w₀ ⟨upd σ.t d (.ref l 0),σ.n,σ.h.set l (.var (z.map zAV))⟩ u w'->K u w'):
 if Region.wanted o (yielded ops a.tmps)=true then o.wp E.P a w K Q else K (a.put o.dst undef) w:=by
 obtain⟨⟨γ,Φ,x,hs⟩,M,N,P⟩:=J
 rw[if_pos (by simp[Region.wanted,D])]
 have j:=x.inv
 obtain⟨g,y,A⟩:=j.gh t
 obtain⟨i,ag,S,ah,_,ak,hk,T⟩:=(E.hT _ _ hT).info
 obtain⟨zv,U,V,_,W,_⟩:=T z F
 have Y:(zeroValue f).run E.P w=.ok zv w:=by simp[zeroValue,typeInfo,S,U]
 have aa:(w.alloc (.cells ⟨zv.cells.toList⟩ f)).heap[w.heap.size]?=some (.cells ⟨zv.cells.toList⟩ f (0,0)):=G4r w _
 have ac:=j.setObj (o':=.var (z.map zAV)) (g':=⟨.pointer (some ⟨w.heap.size,0,none⟩),[w.heap.size]⟩) (w':=w.alloc (.cells ⟨zv.cells.toList⟩ f)) (Φ':=Φ) t y (λb hb _=>Q2s _ b hb) (by simp) rfl rfl rfl (λ_ _ h=>h) (λ_ _ h _ _=>h) (λb k h=>G1m (j.phi b k h) (by simp))
  (λb k _ hb=>by rw[A.2]at hb;cases hb) (λb hb=>by simp at hb;subst hb;exact⟨.inr (G0r _),by simp⟩) (.inr ⟨none,0,0,A.1⟩) (λe sz n h=>by cases h)
  (λhE=>⟨w.heap.size,f,zv.cells.toList,rfl,rfl,aa,by simpa using V,λk v c hv m=>by
    rw[G1i]at m
    obtain⟨p,q,rfl⟩:=G0k.1 m
    have r:=W k v p hv q
    exact⟨(r.2.1 Φ w).one r.1,J7g r⟩,(λk hk=>by
    have:=j.phi _ k hk
    omega),λc m hs=>by
    obtain⟨p,_,rfl⟩:=G3r.1 m
    rw[X6e]at hs
    cases hs⟩)
 have ae:(Instr.alloc f true (.tuple #[])).run E.P w=.ok (.pointer (some ⟨w.heap.size,0,none⟩)) (w.alloc (.cells ⟨zv.cells.toList⟩ f)):=by simp[Instr.alloc,Y,newVar,newRow]
 have he:(do pure (Next.value (<- Instr.alloc f true (.tuple #[]))):Sem Next).run E.P w=(execOp a.eval o).run E.P w:=by unfold execOp;simp only[C]<;>rfl
 have q:put σ o.dst (.ref l 0) (σ.h.set l (.var (z.map zAV)))=some ⟨upd σ.t d (.ref l 0),σ.n,σ.h.set l (.var (z.map zAV))⟩:=by
  unfold put
  rw[hd]
  simp only[if_pos I]
 refine Q2m (by rw[<-he];exact Q0w ae) (L _ _ (J2t x hs M N P ac (.inr ?_) q))
 refine .ref _ _ _ ?_
 unfold gv
 rw[G1u (G0j.1 y).1]
 rfl
structure Planned2(ops:Array Oper)(n:Nat)(eff:List Nat)(S:List (List Nat))(fin:Nat)(F:List (Nat×Nat×Nat))(X:List Nat):Prop where
 lt:∀ {i j:Nat},j<ops.size->i∈direct ops j->i<j
 dst:∀ {j d:Nat},dstOf ops j=some d->d<n/\∀ {k:Nat} {o:Oper},ops[k]?=some o->d∈o.looksAt ops->j∈(ancs ops ops.size).getD k []
 one:∀ {i j d:Nat},dstOf ops i=some d->dstOf ops j=some d->i=j
 may:∀ {j s:Nat},j<ops.size->s<S.length->mayAt2 (ancs ops ops.size) eff (S.getD s []) j=true->(∀x∈X,x≠j/\x∉(ancs ops ops.size).getD j [])->∃s',(j,s,s')∈F/\s'<S.length/\(if eff.contains j=true then ∀e∈eff,(S.getD s' []).contains e=(e==j||(S.getD s []).contains e)else s'=s)
 effs:∀ {e:Nat},e∈eff->e<ops.size
 sub:∀ {s e:Nat},e∈S.getD s []->e∈eff
 last:∀ {s:Nat},s<S.length->(∀e∈eff,(S.getD s []).contains e=true)->s=fin
 pos:0<S.length
 first:S.getD 0 []=[]
 pre:∀ {x e:Nat},x∈X->e∈eff->e∈(ancs ops ops.size).getD x []
theorem J5s{ops:Array Oper}{n:Nat}{t:List Nat}{S:List (List Nat)}{fin:Nat}{F:List (Nat×Nat×Nat)}{X:List Nat}(h:Z3s ops n t S fin F X=true):Planned2 ops n t S fin F X:=by
 unfold Z3s at h
 simp only[G0d]at h
 obtain⟨⟨⟨⟨⟨⟨z,A⟩,C⟩,D⟩,I⟩,J⟩,L⟩:=h
 have g:=λj (g:j<ops.size)=>G0p.1 z j (G1y.2 g)
 simp only[G0d]at g
 have u:∀ {i j d:Nat},i<j->dstOf ops i=some d->dstOf ops j=some d->False:=by
  intro i j d M l m
  have:=G0p.1 (g j (Z7a m)).1.2 i (G1y.2 M)
  rw[l,m]at this
  simp at this
 refine⟨λ{i j} p l=>by simpa using G0p.1 (g j p).1.1.1 i l,λ{j d} hd=>?_,λ{i j d} l m=>?_,λ{j s} p hs N P=>?_,λ{e} f=>by simpa using G0p.1 A e f,λ{s e} f=>?_,λ{s} hs T=>?_,by simpa using I,by simpa using J,λ{x e} q f=>by simpa using G0p.1 (G0p.1 L x q) e f⟩
 ·have:=(g j (Z7a hd)).1.1.2
  rw[hd]at this
  simp only[G0d,G0l]at this
  refine⟨this.1,λ{k o} y U=>?_⟩
  have hk:=G0p.1 this.2 k (G1y.2 (G1r.1 y).1)
  simp only[y]at hk
  rcases G2d _ _▸hk with hk|hk
  ·simp[U]at hk
  simpa using hk
 ·rcases Nat.lt_trichotomy i j with h|h|h
  ·exact(u h l m).elim
  ·exact h
  exact(u h m l).elim
 ·have:=G0p.1 (g j p).2 s (G1y.2 hs)
  rcases G2d _ _▸this with h|h
  ·rcases G2d _ _▸h with h|h
   ·rw[N]at h
    cases h
   obtain⟨x,q,b⟩:=G4v.1 h
   obtain⟨V,W⟩:=P x q
   rcases G2d _ _▸b with b|b
   ·exact absurd (by simpa using b) V
   exact absurd (by simpa using b) W
  obtain⟨⟨j',s0,Y⟩,hf,b⟩:=G4v.1 h
  simp only[G0d,G3o,G0l]at b
  obtain⟨⟨⟨rfl,rfl⟩,c3⟩,r⟩:=b
  refine⟨Y,hf,c3,?_⟩
  split at r
  ·rename_i b
   rw[if_pos b]
   intro e f
   simpa using G0p.1 r e f
  rename_i b
  rw[if_neg b]
  simpa using r
 ·rcases G6r s S.length with hs|hs
  ·have ad:S.getD s []∈S:=by
    rw[G0y,G0f hs]
    exact G4d hs
   have:=G0p.1 (G0p.1 C _ ad) e f
   simpa using this
  rw[G0y,G2c hs]at f
  cases f
 have:=G0p.1 D s (G1y.2 hs)
 rcases G2d _ _▸this with h|h
 ·simpa using h
 obtain⟨e,f,b⟩:=G4v.1 h
 rw[T e f]at b
 cases b
theorem J6p(hS:Q2d E O){ops:Array Oper}{n:Nat}{af:List Nat}{S:List (List Nat)}{fin:Nat}{F:List (Nat×Nat×Nat)}{X:List Nat}(C:Planned2 ops n af S fin F X){g:List AV}{hs:List (List AObj)}{L0:List (Nat×AV)}
 (hf:Q3b E O ops (sl (Q7g ops g++L0)) n g hs F) {Q:Exit->Act->World->Prop}
 (hX:∀ (j:Nat) (o:Oper),j∈X->ops[j]?=some o->∀ (σ:St) (a:Act) (w:World) (K:Act->World->Prop),σ.n=n->σ.h=hs.getD fin []->(∀d∈o.looksAt ops,σ.t d=sl (Q7g ops g++L0) d)->Rel E γ₀ H₀ Φ₀ w₀ σ a w->Region.wanted o (yielded ops a.tmps)=true/\o.wp E.P a w K Q)
 (hQ:(∀x∈X,ops.size<=x)->∀M w',Rel E γ₀ H₀ Φ₀ w₀ ⟨sl (Q7g ops g++L0),n,hs.getD fin []⟩ M w'->Q .normal M w'):
 ∀ (N:Nat) (listed:Array Bool) (σ:St) (a:Act) (w:World) (s:Nat),listed.size=ops.size->(todo ops listed).length<=N->(∀j,listed.getD j false=true->∀i∈direct ops j,listed.getD i false=true)->
  s<S.length->(∀e∈af,listed.getD e false=(S.getD s []).contains e)->σ.h=hs.getD s []->σ.n=n->
  (∀j d,listed.getD j false=true->dstOf ops j=some d->σ.t d=g.getD j .any)->(∀i,(∀j,listed.getD j false=true->dstOf ops j≠some i)->σ.t i=sl L0 i)->
  (∀x∈X,listed.getD x false=false)->Rel E γ₀ H₀ Φ₀ w₀ σ a w->wpAny E.P .any ops Q N listed a w:=by
 have tF:∀j d,dstOf ops j=some d->sl (Q7g ops g++L0) d=g.getD j .any:=by
  intro j d hd
  refine K6w L0 _ d _ (G4u.2 ⟨j,G1y.2 (Z7a hd),by rw[hd];rfl⟩) λu hu=>?_
  obtain⟨k,hk,b⟩:=G4u.1 hu
  obtain⟨d',az,Y⟩:=G0k.1 b
  injection Y with e1 e2
  subst e1
  rw[<-e2,C.one az hd]
 have a0:∀i,(∀j,dstOf ops j≠some i)->sl (Q7g ops g++L0) i=sl L0 i:=by
  intro i f
  refine J4z L0 _ i λv hv=>?_
  obtain⟨k,hk,b⟩:=G4u.1 hv
  obtain⟨d',az,Y⟩:=G0k.1 b
  injection Y with e1 e2
  subst e1
  exact f k az
 have gt:∀ (listed:Array Bool) (j:Nat),listed.size=ops.size->j<ops.size->(listed.getD j true=listed.getD j false):=by
  intro listed j y q
  have:j<listed.size:=by omega
  simp[this]
 have a1:∀ (listed:Array Bool) (σ:St) (s:Nat),listed.size=ops.size->todo ops listed=[]->s<S.length->(∀e∈af,listed.getD e false=(S.getD s []).contains e)->σ.h=hs.getD s []->σ.n=n->
  (∀j d,listed.getD j false=true->dstOf ops j=some d->σ.t d=g.getD j .any)->(∀i,(∀j,listed.getD j false=true->dstOf ops j≠some i)->σ.t i=sl L0 i)->σ=⟨sl (Q7g ops g++L0),n,hs.getD fin []⟩:=by
  intro listed σ s y D U hd I A P hb
  have a2:∀j,j<ops.size->listed.getD j false=true:=by
   intro j q
   cases hb:listed.getD j false with
   | true=>rfl
   | false=>
     have:j∈todo ops listed:=G3d.2 ⟨G1y.2 q,by rw[gt listed j y q,hb];rfl⟩
     rw[D]at this
     cases this
  have aD:s=fin:=C.last U λe b=>by rw[<-hd e b];exact a2 e (C.effs b)
  obtain⟨t,m,bh⟩:=σ
  simp only at I A P hb
  subst A aD
  rw[I]
  congr 1
  funext i
  by_cases f:∃j,dstOf ops j=some i
  ·obtain⟨j,q⟩:=f
   rw[P j i (a2 j (Z7a q)) q,tF j i q]
  rw[a0 i λj q=>f ⟨j,q⟩,hb i λj _ q=>f ⟨j,q⟩]
 have a3:∀ (listed:Array Bool),listed.size=ops.size->todo ops listed=[]->(∀x∈X,listed.getD x false=false)->∀x∈X,ops.size<=x:=by
  intro listed y D V x W
  rcases G6r x ops.size with h|h
  ·have:x∈todo ops listed:=G3d.2 ⟨G1y.2 h,by rw[gt listed x y h,V x W];rfl⟩
   rw[D]at this
   cases this
  exact h
 have bi:∀ (listed:Array Bool),listed.size=ops.size->todo ops listed=[]->Region.ready .any ops listed=[]:=by
  intro listed y h
  refine G7g.2 λj q=>?_
  obtain⟨h1,o,J,_⟩:=G8p.1 q
  have:j∈todo ops listed:=G3d.2 ⟨G1y.2 (G1r.1 J).1,by simp[h1]⟩
  rw[h]at this
  cases this
 have bj:∀ (listed:Array Bool),listed.size=ops.size->todo ops listed≠[]->Region.ready .any ops listed≠[]:=by
  intro listed y bk aE
  obtain⟨j,rest,aF⟩:=G7u bk
  have q:j∈todo ops listed:=by rw[aF];simp
  obtain⟨ak,bl⟩:=G3d.1 q
  have aG:=G1y.1 ak
  have a4:(todo ops listed).Pairwise (·<·):=(G6v (n:=ops.size)).filter _
  rw[aF]at a4
  have a5:j∈Region.ready .any ops listed:=by
   refine G8p.2 ⟨by simpa using bl,ops[j],G3i aG,λe b hb=>?_⟩
   have hd:e.on∈direct ops j:=by
    simp only[direct,G3i aG]
    exact G3r.2 ⟨e,G3d.2 ⟨by simpa using b,hb⟩,rfl⟩
   have bE:=C.lt aG hd
   have bm:e.on<listed.size:=by omega
   cases aH:listed.getD e.on true with
   | true=>
     simp[bm]at aH |-
     exact aH
   | false=>
     exfalso
     have hm:e.on∈todo ops listed:=G3d.2 ⟨G1y.2 (by omega),by simpa using aH⟩
     rw[aF]at hm
     rcases G1j.1 hm with h|h
     ·omega
     have:=(List.pairwise_cons.1 a4).1 e.on h
     omega
  rw[aE]at a5
  cases a5
 intro N
 induction N with
 | zero=>
   intro listed σ a w p y hl al U T I A P hb V hR
   have D:todo ops listed=[]:=G0u (by omega)
   have:=a1 listed σ p y D U T I A P hb
   subst this
   exact⟨bi listed y D,hQ (a3 listed y D V) a w hR⟩
 | succ N ih=>
   intro listed σ a w p y hl al U T I A P hb V hR
   refine⟨λaE=>?_,λj q=>?_⟩
   ·by_cases D:todo ops listed=[]
    ·have:=a1 listed σ p y D U T I A P hb
     subst this
     exact hQ (a3 listed y D V) a w hR
    exact absurd aE (bj listed y D)
   obtain⟨h1,o,J,bo⟩:=G8p.1 q
   have ak:j<ops.size:=(G1r.1 J).1
   have a7:j∈todo ops listed:=G3d.2 ⟨G1y.2 ak,by simp[h1]⟩
   have a8:listed.getD j false=false:=by
    have:=(G3d.1 a7).2
    rw[gt listed j y ak]at this
    simpa using this
   obtain⟨l,r,e1,e2,bF⟩:=J0u a7
   have a9:∀i∈direct ops j,listed.getD i false=true:=by
    intro i f
    simp only[direct,J]at f
    obtain⟨e,b,rfl⟩:=G3r.1 f
    have Y:=G3d.1 b
    exact bo e (by simpa using Y.1) Y.2
   have au:=Q5y (ops:=ops) (L:=λi=>listed.getD i false=true) al ops.size j a9
   have bp:mayAt2 (ancs ops ops.size) af (S.getD p []) j=true:=by
    unfold mayAt2
    rw[G0d]
    refine⟨G0p.2 λe b=>?_,G0p.2 λe b=>?_⟩
    ·have ad:listed.getD e false=true:=by rw[T e (C.sub b)];simpa using b
     rw[G0d]
     refine⟨?_,?_⟩
     ·simp only[G6w,ne_eq]
      intro e'
      rw[e',a8]at ad
      cases ad
     cases hc:((ancs ops ops.size).getD e []).contains j with
     | false=>rfl
     | true=>
       have:=Q5y (ops:=ops) (L:=λi=>listed.getD i false=true) al ops.size e (al e ad) j (by simpa using hc)
       rw[a8]at this
       cases this
    cases hD:(S.getD p []).contains e with
    | true=>rfl
    | false=>
      have ad:=T e b
      rw[hD]at ad
      cases hc:((ancs ops ops.size).getD j []).contains e with
      | false=>rfl
      | true=>
        have:=au e (by simpa using hc)
        rw[ad]at this
        cases this
   have aM:∀d∈o.looksAt ops,σ.t d=sl (Q7g ops g++L0) d:=by
    intro d hd
    by_cases hk:∃k,dstOf ops k=some d
    ·obtain⟨k,hk⟩:=hk
     rw[tF k d hk]
     exact P k d (au k ((C.dst hk).2 J hd)) hk
    rw[a0 d λk aN=>hk ⟨k,aN⟩]
    exact hb d λk _ aN=>hk ⟨k,aN⟩
   by_cases av:j∈X
   ·have aD:=C.last U λe b=>by rw[<-T e b];exact au e (C.pre av b)
    subst aD
    obtain⟨hw,br⟩:=hX j o av J σ a w (wpAny E.P .any ops Q N (listed.setIfInBounds j true)) A I aM hR
    unfold wpOp
    rw[J]
    simp only[hw,if_true]
    exact .inl br
   obtain⟨s',hF,bu,aw⟩:=C.may ak U bp λx W=>⟨λe=>av (e▸W),λbv=>by have h1:=V x W;rw[au x bv]at h1;cases h1⟩
   have aO:=hf.at hF J
   have ao:o.dst=dstOf ops j:=by simp[dstOf,J]
   have ba:∀i,(listed.setIfInBounds j true).getD i false=true->i=j\/listed.getD i false=true:=by
    intro i f
    by_cases bb:j=i
    ·exact .inl bb.symm
    rw[G7p false bb]at f
    exact .inr f
   have bc:(listed.setIfInBounds j true).getD j false=true:=by
    have:j<listed.size:=by omega
    simp[this]
   have aP:∀i,listed.getD i false=true->(listed.setIfInBounds j true).getD i false=true:=λi f=>G9a f
   have next:∀M w',Rel E γ₀ H₀ Φ₀ w₀ ⟨putT σ.t (g.getD j .any) o.dst,n,hs.getD s' []⟩ M w'->wpAny E.P .any ops Q N (listed.setIfInBounds j true) M w':=λM w' aQ=>by
    refine ih (listed.setIfInBounds j true) _ M w' s' (by simpa using y) ?_ ?_ bu ?_ rfl rfl ?_ ?_ (λx W=>by rw[G7p false (λe=>av (by rw[e];exact W))];exact V x W) aQ
    ·rw[e2]
     rw[e1]at hl
     simp only[G0g,G0i]at hl |-
     omega
    ·intro k hk i f
     rcases ba k hk with rfl|hk
     ·exact aP _ (a9 i f)
     exact aP _ (al k hk i f)
    ·intro e b
     by_cases aS:af.contains j=true
     ·rw[if_pos aS]at aw
      rw[aw e b]
      by_cases aq:e=j
      ·rw[aq,bc]
       simp
      rw[G7p false (λh=>aq h.symm),T e b,show(e==j)=false by simpa using aq,G2k]
     rw[if_neg aS]at aw
     have aq:j≠e:=λh=>aS (by rw[h];simpa using b)
     rw[G7p false aq,aw,T e b]
    ·intro k d hk hd
     show putT σ.t (g.getD j .any) o.dst d=_
     by_cases aU:k=j
     ·subst aU
      rw[ao,hd]
      show upd σ.t d _ d=_
      simp[upd]
     rcases ba k hk with h|hk
     ·exact absurd h aU
     rw[ao]
     cases aV:dstOf ops j with
     | none=>exact P k d hk hd
     | some d'=>
       show upd σ.t d' _ d=_
       unfold upd
       rw[if_neg (λe=>aU (C.one hd (by rw[aV,e])))]
       exact P k d hk hd
    intro i f
    show putT σ.t (g.getD j .any) o.dst i=_
    rw[ao]
    have hold:=hb i λk hk=>f k (aP k hk)
    cases aV:dstOf ops j with
    | none=>exact hold
    | some d'=>
      show upd σ.t d' _ i=_
      unfold upd
      rw[if_neg (λe=>f j bc (by rw[aV,e]))]
      exact hold
   have ay:if Region.wanted o (yielded ops a.tmps)=true then o.wp E.P a w (wpAny E.P .any ops Q N (listed.setIfInBounds j true)) Q else wpAny E.P .any ops Q N (listed.setIfInBounds j true) (a.put o.dst undef) w:=by
    rcases aO with aO|⟨ty,d,l,ti,z,bw,hg,hd,bz,hT,hz,bd,hv,be⟩
    ·have bB:Q2t E O ops σ o=some (g.getD j .any,hs.getD s' []):=by
      obtain⟨t,m,bh⟩:=σ
      simp only at I A aM
      subst I A
      rw[J6s aM]
      exact aO
     have bD:put σ o.dst (g.getD j .any) (hs.getD s' [])=some ⟨putT σ.t (g.getD j .any) o.dst,n,hs.getD s' []⟩:=by
      unfold put putT
      cases hd:o.dst with
      | none=>simp only[A]
      | some d=>
        have aX:=(C.dst (by rw[<-ao,hd]:dstOf ops j=some d)).1
        simp only[A,if_pos aX]
     have hs1:Q9i E O ops σ o=some ⟨putT σ.t (g.getD j .any) o.dst,n,hs.getD s' []⟩:=by
      rw[Q7j,bB]
      exact bD
     exact Q8d hS hs1 hR next
    have aX:=(C.dst (by rw[<-ao,hd]:dstOf ops j=some d)).1
    simp only at bd be
    refine J0d bw hg hd bz hT hz (by rw[I];exact bd) (by rw[A];exact aX) hR λM w' aQ=>next M w' ?_
    rw[hv,hd,be,<-I,<-A]
    exact aQ
   unfold wpOp
   rw[J]
   simp only
   split
   ·rename_i hw
    rw[if_pos hw]at ay
    exact .inl ay
   rename_i hw
   rw[if_neg hw]at ay
   exact ay
theorem AW.dregX(t:E.P.follows .mixedOrders=true)(hS:Q2d E O){id n:Nat}{L0:List (Nat×AV)}{h:List AObj}{ops:Array Oper}{Q:Exit->St->Prop}{u:List Nat}{S:List (List Nat)}{fin:Nat}{F:List (Nat×Nat×Nat)}{X:List Nat}{f:List AV}{hs:List (List AObj)}
 (y:Z3s ops n u S fin F X=true) (z:hs.getD 0 []=h) (A:Q3b E O ops (sl (Q7g ops f++L0)) n f hs F)
 (hX:∀ (j:Nat) (o:Oper),j∈X->ops[j]?=some o->∀γ₀ H₀ Φ₀ w₀ (σ:St) (a:Act) (w:World) (K:Act->World->Prop),σ.n=n->σ.h=hs.getD fin []->(∀d∈o.looksAt ops,σ.t d=sl (Q7g ops f++L0) d)->Rel E γ₀ H₀ Φ₀ w₀ σ a w->Region.wanted o (yielded ops a.tmps)=true/\o.wp E.P a w K λe m w'=>∃σ',Rel E γ₀ H₀ Φ₀ w₀ σ' m w'/\Q e σ')
 (C:(∀x∈X,ops.size<=x)->∃σ',Weak E k ⟨sl (Q7g ops f++L0),n,hs.getD fin []⟩ σ'/\Q .normal σ'):AW E k (.region id ops true) Q ⟨sl L0,n,h⟩:=by
 intro γ₀ H₀ Φ₀ w₀ a w D p
 refine wp_region_any t ?_
 have I:todo ops (Array.replicate ops.size false)=List.range ops.size:=by
  refine List.filter_eq_self.2 λi g=>?_
  simp[G1y.1 g]
 have l:∀i,(Array.replicate ops.size false).getD i false=false:=by
  intro i
  by_cases g:i<ops.size
  ·simp[g]
  simp[g]
 have q:=J5s y
 refine J6p hS q A (γ₀:=γ₀) (H₀:=H₀) (Φ₀:=Φ₀) (w₀:=w₀) (λj o b J σ a w K L M hs p=>hX j o b J _ _ _ _ σ a w K L M hs p) (λN m w' P=>?_) ops.size _ ⟨sl L0,n,h⟩ a _ 0 (by simp) (by rw[I];simp) (λj b=>by rw[l]at b;cases b) q.pos (λe Y=>by rw[l,q.first];rfl) z.symm rfl
  (λj d b=>by rw[l]at b;cases b) (λi _=>rfl) (λx _=>l x) ?_
 ·obtain⟨σ',T,hq⟩:=C N
  exact⟨σ',T γ₀ H₀ Φ₀ w₀ m w' D P,hq⟩
 obtain⟨⟨γ,Φ,r,U⟩,V,hd,W⟩:=p
 have hk:Ok E γ h Φ w γ h Φ { w with drawn:=w.drawn+1 }:=r.inv.grow (λ_ _=>rfl) (G0r _) rfl rfl rfl (λ_ _ h=>h) (λ_ _ h _=>h) r.inv.phi
 exact⟨⟨γ,Φ,r.trans hk,λi=>(U i).mono hk.evo⟩,V,hd,W⟩
theorem AW.dregW(d:E.P.follows .mixedOrders=true)(hS:Q2d E O){id n:Nat}{L0:List (Nat×AV)}{h:List AObj}{ops:Array Oper}{Q:Exit->St->Prop}(e:List Nat)(S:List (List Nat))(fin:Nat)(F:List (Nat×Nat×Nat))(b:List AV)(hs:List (List AObj))(LF:List (Nat×AV))
 (f:Q7g ops b++L0=LF) (g:Z3s ops n e S fin F []=true) (i:hs.getD 0 []=h) (l:Q3b E O ops (sl LF) n b hs F) (L:List (Nat×AV)) (h':List AObj) (m:Q8x (sl LF) L) (p:hs.getD fin []=h') (q:Q .normal ⟨sl L,n,h'⟩):
 AW E k (.region id ops true) Q ⟨sl L0,n,h⟩:=by
 subst f p
 exact AW.dregX d hS g i l (λj o r=>by cases r) λ_=>⟨_,Wq1 (Q6n m),q⟩
def toF(b:List Nat)(F:List (Nat×Nat)):List (Nat×Nat×Nat):=F.map λf=>(f.1,f.2,if b.contains f.1 then f.2+1 else f.2)
def K6z(ops:Array Oper)(n:Nat)(b:List Nat)(F:List (Nat×Nat)):Bool:=Z3s ops n b ((List.range (b.length+1)).map b.take) b.length (toF b F) []
def Q5f(E:Env)(O:Orc)(ops:Array Oper)(t:Nat->AV)(n:Nat)(b:List AV)(hs:List (List AObj))(d:List Nat):List (Nat×Nat)->Prop
 | []=>True
 | (j,p)::r=>(∀o,ops[j]?=some o->Q2t E O ops ⟨t,n,hs.getD p []⟩ o=some (b.getD j .any,hs.getD (if d.contains j then p+1 else p) []))/\Q5f E O ops t n b hs d r
theorem Q5f.two{ops:Array Oper}{t:Nat->AV}{n:Nat}{b:List AV}{hs:List (List AObj)}{d:List Nat}:∀ {F:List (Nat×Nat)},Q5f E O ops t n b hs d F->Q3b E O ops t n b hs (toF d F)
 | [],_=>trivial
 | _::_,⟨e,f⟩=>⟨λo g=>.inl (e o g),f.two⟩
theorem Q5f.nil{ops:Array Oper}{t:Nat->AV}{n:Nat}{b:List AV}{hs:List (List AObj)}{d:List Nat}:Q5f E O ops t n b hs d []:=trivial
theorem Q5f.cons{ops:Array Oper}{t:Nat->AV}{n:Nat}{b:List AV}{hs:List (List AObj)}{d:List Nat}{j p:Nat}{F:List (Nat×Nat)}{v:AV}{e f:List AObj}(g:b.getD j .any=v)(i:hs.getD p []=e)(l:hs.getD (if d.contains j then p+1 else p) []=f)
 (h:((ops[j]?).bind λo=>Q2t E O ops ⟨t,n,e⟩ o)=some (v,f)) (m:Q5f E O ops t n b hs d F):Q5f E O ops t n b hs d ((j,p)::F):=
 ⟨λo' q=>by
  rw[q,G0a]at h
  rw[i,l,g]
  exact h,m⟩
theorem AW.dregV(e:E.P.follows .mixedOrders=true)(hS:Q2d E O){id n:Nat}{L0:List (Nat×AV)}{h:List AObj}{ops:Array Oper}{Q:Exit->St->Prop}(b:List Nat)(F:List (Nat×Nat))(d:List AV)(hs:List (List AObj))(LF:List (Nat×AV))
 (f:Q7g ops d++L0=LF) (g:K6z ops n b F=true) (i:hs.getD 0 []=h) (j:Q5f E O ops (sl LF) n d hs b F) (L:List (Nat×AV)) (h':List AObj) (l:Q8x (sl LF) L) (m:hs.getD b.length []=h') (p:Q .normal ⟨sl L,n,h'⟩):
 AW E k (.region id ops true) Q ⟨sl L0,n,h⟩:=AW.dregW e hS b _ _ _ d hs LF f g i j.two L h' l m p
theorem Q3b.nil{ops:Array Oper}{t:Nat->AV}{n:Nat}{b:List AV}{hs:List (List AObj)}:Q3b E O ops t n b hs []:=trivial
theorem Q3b.does{ops:Array Oper}{t:Nat->AV}{n:Nat}{b:List AV}{hs:List (List AObj)}{j s d:Nat}{F:List (Nat×Nat×Nat)}{v:AV}{e f:List AObj}(g:b.getD j .any=v)(i:hs.getD s []=e)(l:hs.getD d []=f)
 (h:((ops[j]?).bind λo=>Q2t E O ops ⟨t,n,e⟩ o)=some (v,f)) (m:Q3b E O ops t n b hs F):Q3b E O ops t n b hs ((j,s,d)::F):=
 ⟨λo' p=>.inl (by
  rw[p,G0a]at h
  rw[i,l,g]
  exact h),m⟩
theorem Q3b.fill{ops:Array Oper}{t:Nat->AV}{n:Nat}{e:List AV}{hs:List (List AObj)}{j s g:Nat}{F:List (Nat×Nat×Nat)}{f:List AObj}{o:Oper}{b d l:Nat}{ti:TI}{z:List PV}(i:hs.getD s []=f)(p:ops[j]?=some o)(q:o.op=.alloc b)(r:o.guard=none)(hd:o.dst=some d)
 (hb:E.bT≠some b) (hT:E.T b=some ti) (u:ti.zero=some z) (x:e.getD j .any=.ref l 0) (y:f[l]?=some (.hold d)) (A:hs.getD g []=f.set l (.var (z.map zAV))) (C:Q3b E O ops t n e hs F):Q3b E O ops t n e hs ((j,s,g)::F):=
 ⟨λo' m=>.inr (by
  rw[p]at m
  cases m
  exact⟨b,d,l,ti,z,q,r,hd,hb,hT,u,by rw[i];exact y,x,by rw[i];exact A⟩),C⟩
end
def xg:AObj->AObj
 | .var _=>.gone
 | o=>o
def J4e(E:Env)(f:FuncId)(args:List AV)(H:List AObj)(v:Value):Prop:=
 ∀ (w:World) (Φ:Nat->Nat->Prop) (γ:List Gh) (b:List Value),OInv E γ H Φ w->b.length=args.length->(∀ (i:Nat) v a,b[i]?=some v->args[i]?=some a->ARel γ H Φ w v a)->
  Calls E.P f ⟨b⟩ w λe w'=>∃d Φ',e=.panicked [{ v:=v,recovered:=false }]/\Ok E γ H Φ w d (H.map xg) Φ' w'
abbrev XO:=FuncId->List AV->List AObj->Option Value
def Q7l(E:Env)(X:XO):Prop:=∀f args H v,X f args H=some v->J4e E f args H v/\Z9l E f
def Z9y(X:XO)(H:List AObj)(f:FuncId)(args:List AV):Option (Value×List AObj):=
 let base:=Q1t H args
 let sel:=Q6f (base++Q1k H base)
 match Q1c H (idx sel) sel,Q1a H (idx sel) args with
 | some Hs,some az=>match X f az Hs with
   | some v=>some (v,Q0r H sel (Hs.map xg))
   | none=>none
 | _,_=>none
section
variable {E:Env}{O:Orc}{X:XO}{γ γ₀:List Gh}{H H₀ H':List AObj}{Φ Φ₀:Nat->Nat->Prop}{w w₀:World}{σ σ':St}{a:Act}{o:Oper}{v:Value}{k:Nat}
theorem X4d(o:AObj):Q1y (xg o)=Q1y o:=by cases o<;>rfl
theorem X4e(H:List AObj)(l:Nat):rowAt (H.map xg) l=rowAt H l:=by
 unfold rowAt
 rw[G1i]
 cases H[l]? with
 | none=>rfl
 | some o=>exact X4d o
theorem X2g:Evo γ H Φ w γ (H.map xg) Φ w:=
 ⟨λ_ _ h=>h,λ_ _ _=>rfl,λ_ _ h=>.inl h,λl _ _ n h=>⟨n,(X4e H l).trans h,G0r _,λ_=>rfl⟩⟩
theorem OInv.gone(b:OInv E γ H Φ w):OInv E γ (H.map xg) Φ w:=by
 refine⟨by rw[G1h];exact b.len,λl o g d e=>?_,b.disj,b.own,b.phi,b.gi,b.gn⟩
 rw[G1i]at d
 obtain⟨o',f,rfl⟩:=G0k.1 d
 have i:=b.obj l o' g f e
 cases o' with
 | var cs=>trivial
 | _=>exact ObjRel.keep X2g i (λ_ _=>rfl) (λ_ _ _ h=>h)
theorem Ok.gone(h:Ok E γ₀ H₀ Φ₀ w₀ γ H Φ w):Ok E γ₀ H₀ Φ₀ w₀ γ (H.map xg) Φ w:=
 h.trans ⟨h.inv.gone,X2g,Since.refl _ _ _⟩
theorem Z7g(hX:Q7l E X)(d:OInv E γ H Φ w){f:FuncId}{args:List AV}{g:List Value}(L:g.length=args.length)(t:∀ (i:Nat) v b,g[i]?=some v->args[i]?=some b->ARel γ H Φ w v b)
 (h:Z9y X H f args=some (v,H')):Z9l E f/\Calls E.P f ⟨g⟩ w λe w'=>∃l Φ',e=.panicked [{ v:=v,recovered:=false }]/\Ok E γ H Φ w l H' Φ' w':=by
 unfold Z9y at h
 simp only at h
 generalize x:Q6f (Q1t H args++Q1k H (Q1t H args))=sel at h
 have m:sel.Nodup:=by rw[<-x];exact Q7z _
 split at h
 ·rename_i Hs az j y
  split at h
  ·rename_i u z
   simp only[G0c,G1k]at h
   obtain⟨rfl,rfl⟩:=h
   obtain⟨A,C⟩:=hX f az Hs u z
   obtain⟨M,D⟩:=Q6j y
   refine⟨C,(A w Φ (Q6v γ sel) g (d.select m j) (by omega) (λi v b n hb=>?_)).mono ?_⟩
   ·have q:i<args.length:=by
     have:=(G0j.1 n).1
     omega
    have r:=t i v args[i] n (G0f q)
    rcases D i args[i] b (G0f q) hb with⟨p,F,rfl⟩|I
    ·exact .pv (Q2b d r F)
    exact r.select d j I
   rintro e w' ⟨l,Φ',rfl,J⟩
   obtain⟨N,_⟩:=Q3d j
   exact⟨_,Φ',rfl,J.back d m j (by rw[G1h];omega)⟩
  cases h
 cases h
theorem Z1o(hS:Q2d E O){ops:Array Oper}{Q:Exit->Act->World->Prop}{f:List Oper}:∀ (l:List Oper) (σ:St) (a:Act) (w:World),arun E O ops l σ=some σ'->Rel E γ₀ H₀ Φ₀ w₀ σ a w->
 (∀b w',Rel E γ₀ H₀ Φ₀ w₀ σ' b w'->wpList E.P ops Q f b w')->wpList E.P ops Q (l++f) a w
 | [],σ,a,w,h,d,e=>by
   simp only[arun,G0c]at h
   subst h
   exact e a w d
 | o::l,σ,a,w,h,d,e=>by
   obtain⟨g,i,j⟩:=G1x.1 h
   exact G7o λK m=>Q8d hS i d (λb w' n=>m b w' (Z1o hS l g b w' j n e))
variable {Q:Exit->St->Prop}
inductive Out where
 | ret (rs:List AV) (H':List AObj)
 | boom (v:Value)
def J9n(E:Env)(f:FuncId)(args:List AV)(H:List AObj):Out->Prop
 | .ret rs H'=>Good E f args H rs H'
 | .boom v=>J4e E f args H v
def retB(E:Env)(fn:Func)(m:Nat)(b:List Nat)(H:List AObj):Out->Exit->St->Prop
 | .ret rs H',e,σ=>retQ E fn m b rs H' e σ
 | .boom v,e,σ=>e=.panic [{ v:=v,recovered:=false }]/\(σ.h.map xg).take m=H.map xg/\((σ.h.map xg).take m).all (AObj.ltB m)=true
theorem J4e.of_body{f:FuncId}{fn:Func}{c:Code}(l:E.P.funcs[f]?=some fn)(hb:fn.body=some c){args:List AV}{H:List AObj}{v:Value}(y:args.length<=fn.ntmps)(hd0:E.dfs=[])
 (h:AW E H.length c (retB E fn H.length [] H (.boom v)) ⟨Z5n args,fn.ntmps,H⟩):J4e E f args H v:=by
 intro w Φ γ b d z m
 refine calls_of_wp l hb ?_
 have n:Rel E γ H Φ w ⟨Z5n args,fn.ntmps,H⟩ { tmps:=(⟨b⟩:Array Value)++Array.replicate (fn.ntmps-(⟨b⟩:Array Value).size) undef,defers:=[] } w:=by
  refine⟨⟨γ,Φ,.refl d,λi=>?_⟩,?_,hd0.symm,d.len⟩
  ·show ARel γ H Φ w _ (args.getD i .any)
   rw[G0y]
   by_cases g:i<args.length
   ·rw[G0f g]
    have j:i<b.length:=by omega
    refine m i _ _ ?_ (G0f g)
    rw[G0f j]
    simp[G2w,G7f,j]
   rw[G2c (by omega)]
   exact .any _
  show((⟨b⟩:Array Value)++Array.replicate (fn.ntmps-(⟨b⟩:Array Value).size) undef).size=fn.ntmps
  simp
  omega
 refine wp_mono (h γ H Φ w _ w rfl n) (λe A w' ⟨σ',p,q⟩=>?_)
 obtain⟨rfl,r,t⟩:=q
 obtain⟨⟨C,Φ',u,_⟩,_,hd,x⟩:=p
 have hk:=u.gone.take (G0r _) x t
 rw[r]at hk
 exact⟨hd.trans hd0,_,Φ',rfl,hk⟩
def Says(O:Orc)(X:XO)(f:FuncId)(args:List AV)(H:List AObj):Out->Prop
 | .ret rs H'=>O.C f args H=some (rs,H')
 | .boom v=>X f args H=some v
end
structure Spec where
 f:FuncId
 α:Type
 ρ:Type
 F:α->Option ρ
 A:α->List AV×List AObj
 R:α->ρ->Out
 inj:∀x y,A x=A y->x=y
open Classical in
noncomputable def Spec.c(S:Spec)(args:List AV)(H:List AObj):Option Out:=
 if h:∃x,S.A x=(args,H)then(S.F (Classical.choose h)).map (S.R (Classical.choose h))else none
theorem Spec.c_at(S:Spec)(x:S.α):S.c (S.A x).1 (S.A x).2=(S.F x).map (S.R x):=by
 have h:∃y,S.A y=((S.A x).1,(S.A x).2):=⟨x,rfl⟩
 unfold Spec.c
 rw[dif_pos h,S.inj _ x (G6e h)]
theorem Spec.c_some{S:Spec}{args:List AV}{H:List AObj}{o:Out}(h:S.c args H=some o):∃x r,S.F x=some r/\S.A x=(args,H)/\S.R x r=o:=by
 unfold Spec.c at h
 split at h
 ·rename_i b
  obtain⟨r,d,e⟩:=G0k.1 h
  exact⟨_,r,d,G6e b,e⟩
 cases h
abbrev KL:=List (FuncId×(List AV->List AObj->Option Out))
section
variable {E:Env}{K:KL}{pf:FuncId->Bool}
def V2u(E:Env)(S:Spec):Prop:=∀x r,S.F x=some r->J9n E S.f (S.A x).1 (S.A x).2 (S.R x r)
theorem V2u.c{S:Spec}(h:V2u E S)(args:List AV)(H:List AObj)(o:Out)(b:S.c args H=some o):J9n E S.f args H o:=by
 obtain⟨x,r,d,e,rfl⟩:=Spec.c_some b
 have:=h x r d
 rw[e]at this
 exact this
def Q0i{α b:Type}(x:Option (Int ⊕ α))(f:α->Option (Int ⊕ b)):Option (Int ⊕ b):=
 match x with
 | none=>none
 | some (.inl n)=>some (.inl n)
 | some (.inr a)=>f a
theorem Q1g{α b:Type}{x:Option (Int ⊕ α)}{f:α->Option (Int ⊕ b)}{r:Int ⊕ b}(h:Q0i x f=some r):(∃n,x=some (.inl n)/\r=.inl n)\/∃a,x=some (.inr a)/\f a=some r:=by
 unfold Q0i at h
 split at h
 ·cases h
 ·rename_i n
  injection h with h
  exact .inl ⟨n,rfl,h.symm⟩
 rename_i a
 exact .inr ⟨a,rfl,h⟩
theorem X0l{X:XO}{H:List AObj}{f:FuncId}{args:List AV}{sel:List Nat}{az:List AV}{Hs:List AObj}{v:Value}{Hn:List AObj}(b:Q6f (Q1t H args++Q1k H (Q1t H args))=sel)(d:Q1c H (idx sel) sel=some Hs)(e:Q1a H (idx sel) args=some az)
 (g:X f az Hs=some v) (i:Q0r H sel (Hs.map xg)=Hn):Z9y X H f args=some (v,Hn):=by
 unfold Z9y
 simp only
 rw[b,d,e]
 simp only
 rw[g,i]
end
mutual
def PV.same:PV->PV->Bool
 | .bool a,.bool b=>a==b
 | .int k n,.int d e=>decide (k=d)&&decide (n=e)
 | .str s,.str f=>decide (s=f)
 | .nil,.nil=>true
 | .slice xs,.slice ys=>PV.sames xs ys
 | .agg xs,.agg ys=>PV.sames xs ys
 | .ifc,.ifc=>true
 | .nilp,.nilp=>true
 | _,_=>false
def PV.sames:List PV->List PV->Bool
 | [],[]=>true
 | x::xs,y::ys=>PV.same x y&&PV.sames xs ys
 | _,_=>false
end
mutual
theorem PV.same_eq:∀ {a b:PV},PV.same a b=true->a=b
 | .bool a,b,h=>by cases b<;>simp_all [PV.same]
 | .int k n,b,h=>by cases b<;>simp_all [PV.same]
 | .str s,b,h=>by cases b<;>simp_all [PV.same]
 | .nil,b,h=>by cases b<;>simp_all [PV.same]
 | .ifc,b,h=>by cases b<;>simp_all [PV.same]
 | .nilp,b,h=>by cases b<;>simp_all [PV.same]
 | .slice xs,b,h=>by
   cases b with
   | slice ys=>exact G4e PV.slice (PV.sames_eq (by simpa only[PV.same]using h))
   | _=>simp[PV.same]at h
 | .agg xs,b,h=>by
   cases b with
   | agg ys=>exact G4e PV.agg (PV.sames_eq (by simpa only[PV.same]using h))
   | _=>simp[PV.same]at h
theorem PV.sames_eq:∀ {a b:List PV},PV.sames a b=true->a=b
 | [],b,h=>by cases b<;>simp_all [PV.sames]
 | x::xs,b,h=>by
   cases b with
   | nil=>simp[PV.sames]at h
   | cons y ys=>
     simp only[PV.sames,G0d]at h
     rw[PV.same_eq h.1,PV.sames_eq h.2]
end
mutual
def AV.same:AV->AV->Bool
 | .any,.any=>true
 | .pv p,.pv q=>p.same q
 | .ref l o,.ref l' o'=>l==l'&&o==o'
 | .pptr xs,.pptr ys=>PV.sames xs ys
 | .vec l n,.vec l' b=>l==l'&&n==b
 | .vptr l n i o,.vptr l' b d o'=>l==l'&&n==b&&i==d&&o==o'
 | .selfp l,.selfp l'=>l==l'
 | .nils,.nils=>true
 | .full xs,.full ys=>PV.sames xs ys
 | .tup xs,.tup ys=>AV.sames xs ys
 | .agg xs,.agg ys=>AV.sames xs ys
 | .fn f cs,.fn e cs'=>f==e&&cs==cs'
 | .ifc t p,.ifc g j=>t==g&&p.same j
 | _,_=>false
def AV.sames:List AV->List AV->Bool
 | [],[]=>true
 | x::xs,y::ys=>AV.same x y&&AV.sames xs ys
 | _,_=>false
end
mutual
theorem AV.same_eq:∀ {a b:AV},AV.same a b=true->a=b
 | .any,b,h=>by cases b<;>simp_all [AV.same]
 | .pv p,b,h=>by
   cases b with
   | pv q=>exact G4e AV.pv (PV.same_eq (by simpa only[AV.same]using h))
   | _=>simp[AV.same]at h
 | .ref l o,b,h=>by cases b<;>simp_all [AV.same]
 | .pptr xs,b,h=>by
   cases b with
   | pptr q=>exact G4e AV.pptr (PV.sames_eq (by simpa only[AV.same]using h))
   | _=>simp[AV.same]at h
 | .vec l n,b,h=>by cases b<;>simp_all [AV.same]
 | .vptr l n i o,b,h=>by cases b<;>simp_all [AV.same]
 | .selfp l,b,h=>by cases b<;>simp_all [AV.same]
 | .nils,b,h=>by cases b<;>simp_all [AV.same]
 | .full xs,b,h=>by
   cases b with
   | full q=>exact G4e AV.full (PV.sames_eq (by simpa only[AV.same]using h))
   | _=>simp[AV.same]at h
 | .tup xs,b,h=>by
   cases b with
   | tup q=>exact G4e AV.tup (AV.sames_eq (by simpa only[AV.same]using h))
   | _=>simp[AV.same]at h
 | .agg xs,b,h=>by
   cases b with
   | agg q=>exact G4e AV.agg (AV.sames_eq (by simpa only[AV.same]using h))
   | _=>simp[AV.same]at h
 | .fn f cs,b,h=>by cases b<;>simp_all [AV.same]
 | .ifc t p,b,h=>by
   cases b with
   | ifc d q=>
     simp only[AV.same,G0d,G3o]at h
     rw[h.1,PV.same_eq h.2]
   | _=>simp[AV.same]at h
theorem AV.sames_eq:∀ {a b:List AV},AV.sames a b=true->a=b
 | [],b,h=>by cases b<;>simp_all [AV.sames]
 | x::xs,b,h=>by
   cases b with
   | nil=>simp[AV.sames]at h
   | cons y ys=>
     simp only[AV.sames,G0d]at h
     rw[AV.same_eq h.1,AV.sames_eq h.2]
end
end Go.Abs
