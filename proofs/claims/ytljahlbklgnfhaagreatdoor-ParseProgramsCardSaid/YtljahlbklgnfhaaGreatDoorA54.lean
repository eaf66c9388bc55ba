import Derived.Test.YtljahlbklgnfhaaGreatDoorA45
set_option linter.unusedVariables false
set_option linter.unusedSimpArgs false
set_option linter.defProp false
namespace Go.Abs
open Go.RowKit
def mayAt2(A:List (List Nat))(b D:List Nat)(j:Nat):Bool:=
 (D.all λe=>e != j&&!(A.getD e []).contains j)&&(b.all λe=>D.contains e||!(A.getD j []).contains e)
def J4n(ops:Array Oper)(n:Nat)(b:List Nat)(S:List (List Nat))(fin:Nat)(F:List (Nat×Nat×Nat)):Bool:=
 let A:=ancs ops ops.size
 let R:=List.range ops.size
 (R.all λj=>((direct ops j).all λi=>decide (i<j))&&(match dstOf ops j with
   | some d=>decide (d<n)&&R.all λk=>match ops[k]? with
     | some o=>!(o.looksAt ops).contains d||(A.getD k []).contains j
     | none=>true
   | none=>true)&&((List.range j).all λi=>dstOf ops i==none||dstOf ops i != dstOf ops j) &&
   ((List.range S.length).all λs=>!mayAt2 A b (S.getD s []) j||F.any λf=>f.1==j&&f.2.1==s&&decide (f.2.2<S.length) &&
     (if b.contains j=true then b.all λe=>(S.getD f.2.2 []).contains e==(e==j||(S.getD s []).contains e)else f.2.2==s))) &&
 (b.all λe=>decide (e<ops.size))&&(S.all λD=>D.all λe=>b.contains e)&&((List.range S.length).all λs=>s==fin||b.any λe=>!(S.getD s []).contains e)&&decide (0<S.length)&&(S.getD 0 []==[])
def V9d(E:Env)(O:Orc)(ops:Array Oper)(σ:St)(o:Oper)(v:AV)(h':List AObj):Prop:=
 Q2d E O ops σ o=some (v,h') \/
  ∃b d l ti z,o.op=.alloc b/\o.guard=none/\o.dst=some d/\E.bT≠some b/\E.T b=some ti/\ti.zero=some z/\σ.h[l]?=some (.hold d)/\v=.ref l 0/\h'=σ.h.set l (.var (z.map zAV))
def Q3l(E:Env)(O:Orc)(ops:Array Oper)(t:Nat->AV)(n:Nat)(val:List AV)(hs:List (List AObj)):List (Nat×Nat×Nat)->Prop
 | []=>True
 | (j,s,b)::r=>(∀o,ops[j]?=some o->V9d E O ops ⟨t,n,hs.getD s []⟩ o (val.getD j .any) (hs.getD b []))/\Q3l E O ops t n val hs r
section
variable {E:Env}{O:Orc}{γ₀:List Gh}{H₀:List AObj}{Φ₀:Nat->Nat->Prop}{w₀:World}{σ:St}{k:Nat}
theorem Weak.hold(d:Nat):Weak E k σ ⟨σ.t,σ.n,σ.h++[.hold d]⟩:=by
 intro γ₀ H₀ Φ₀ w₀ l w _ f
 obtain⟨⟨γ,Φ,e,hs⟩,g,hd,j⟩:=f
 have hk:=e.inv.pushObj (w':=w) (Φ':=Φ) (λ_ _=>rfl) (G0o _) rfl rfl rfl (λ_ _ h=>h) (λ_ _ h _=>h) (λb k h=>e.inv.phi b k h) ⟨.slice none 0 0,[]⟩ (.hold d) (λb hb=>by cases hb) (λm=>⟨rfl,rfl⟩)
 exact⟨⟨_,_,e.trans hk,λi=>(hs i).mono hk.evo⟩,g,hd,j⟩
theorem Q3l.at{ops:Array Oper}{t:Nat->AV}{n:Nat}{val:List AV}{hs:List (List AObj)}:∀ {F:List (Nat×Nat×Nat)},Q3l E O ops t n val hs F->∀ {j s b:Nat},(j,s,b)∈F->∀ {o:Oper},ops[j]?=some o->
 V9d E O ops ⟨t,n,hs.getD s []⟩ o (val.getD j .any) (hs.getD b [])
 | [],_,_,_,_,h=>by cases h
 | (j',m,p)::r,⟨f,g⟩,j,s,b,h=>by
   rcases G1q.1 h with h|h
   ·injection h with i d
    injection d with d l
    subst i d l
    exact λe=>f _ e
   exact λe=>g.at h e
theorem Z7t{ops:Array Oper}{o:Oper}{a:Act}{w:World}{f d l:Nat}{ti:TI}{z:List PV}(A:o.op=.alloc f)(C:o.guard=none)(hd:o.dst=some d)(_hb:E.bT≠some f)(hT:E.T f=some ti)(D:ti.zero=some z)(s:σ.h[l]?=some (.hold d))(F:d<σ.n)
 (I:Rel E γ₀ H₀ Φ₀ w₀ σ a w) {K:Act->World->Prop} {Q:Exit->Act->World->Prop} (J:∀t w',Rel E γ₀ H₀ Φ₀ w₀ ⟨upd σ.t d (.ref l 0),σ.n,σ.h.set l (.var (z.map zAV))⟩ t w'->K t w'):
 if Region.wanted o (yielded ops a.tmps)=true then o.wp E.P a w K Q else K (a.put o.dst undef) w:=by
 obtain⟨⟨γ,Φ,u,hs⟩,M,N,P⟩:=I
 rw[if_pos (by simp[Region.wanted,C])]
 have j:=u.inv
 obtain⟨g,x,y⟩:=j.gh s
 obtain⟨i,ag,S,ah,_,aj,hk,T⟩:=(E.hT _ _ hT).info
 obtain⟨zv,U,V,_,W,_⟩:=T z D
 have Y:(zeroValue f).run E.P w=.ok zv w:=by simp[zeroValue,typeInfo,S,U]
 have aa:(w.alloc (.cells ⟨zv.cells.toList⟩ f)).heap[w.heap.size]?=some (.cells ⟨zv.cells.toList⟩ f (0,0)):=heap_alloc_new w _
 have ac:=j.setObj (o':=.var (z.map zAV)) (g':=⟨.pointer (some ⟨w.heap.size,0,none⟩),[w.heap.size]⟩) (w':=w.alloc (.cells ⟨zv.cells.toList⟩ f)) (Φ':=Φ) s x (λb hb _=>Q2q _ b hb) (by simp) rfl rfl rfl (λ_ _ h=>h) (λ_ _ h _ _=>h) (λb k h=>G1f (j.phi b k h) (by simp))
  (λb k _ hb=>by rw[y.2]at hb;cases hb) (λb hb=>by simp at hb;subst hb;exact⟨.inr (G0o _),by simp⟩) (.inr ⟨none,0,0,y.1⟩) (λe sz n h=>by cases h)
  (λhE=>⟨w.heap.size,f,zv.cells.toList,rfl,rfl,aa,by simpa using V,λk v c hv m=>by
    rw[G0x]at m
    obtain⟨p,q,rfl⟩:=G0g.1 m
    have r:=W k v p hv q
    exact⟨(r.2.1 Φ w).one r.1,J3u r⟩,(λk hk=>by
    have:=j.phi _ k hk
    omega),λc m hs=>by
    obtain⟨p,_,rfl⟩:=G3i.1 m
    rw[X0g]at hs
    cases hs⟩)
 have ae:(Instr.alloc f true (.tuple #[])).run E.P w=.ok (.pointer (some ⟨w.heap.size,0,none⟩)) (w.alloc (.cells ⟨zv.cells.toList⟩ f)):=by simp[Instr.alloc,Y,newVar,newRow]
 have he:(do pure (Next.value (<- Instr.alloc f true (.tuple #[]))):Sem Next).run E.P w=(execOp a.eval o).run E.P w:=by unfold execOp;simp only[A]<;>rfl
 have q:put σ o.dst (.ref l 0) (σ.h.set l (.var (z.map zAV)))=some ⟨upd σ.t d (.ref l 0),σ.n,σ.h.set l (.var (z.map zAV))⟩:=by
  unfold put
  rw[hd]
  simp only[if_pos F]
 refine Q2f (by rw[<-he];exact Q0t ae) (J _ _ (Z9z u hs M N P ac (.inr ?_) q))
 refine .ref _ _ _ ?_
 unfold gv
 rw[G1c (G0f.1 x).1]
 rfl
structure Planned2(ops:Array Oper)(n:Nat)(eff:List Nat)(S:List (List Nat))(fin:Nat)(F:List (Nat×Nat×Nat)):Prop where
 lt:∀ {i j:Nat},j<ops.size->i∈direct ops j->i<j
 dst:∀ {j d:Nat},dstOf ops j=some d->d<n/\∀ {k:Nat} {o:Oper},ops[k]?=some o->d∈o.looksAt ops->j∈(ancs ops ops.size).getD k []
 one:∀ {i j d:Nat},dstOf ops i=some d->dstOf ops j=some d->i=j
 may:∀ {j s:Nat},j<ops.size->s<S.length->mayAt2 (ancs ops ops.size) eff (S.getD s []) j=true->∃s',(j,s,s')∈F/\s'<S.length/\(if eff.contains j=true then ∀e∈eff,(S.getD s' []).contains e=(e==j||(S.getD s []).contains e)else s'=s)
 effs:∀ {e:Nat},e∈eff->e<ops.size
 sub:∀ {s e:Nat},e∈S.getD s []->e∈eff
 last:∀ {s:Nat},s<S.length->(∀e∈eff,(S.getD s []).contains e=true)->s=fin
 pos:0<S.length
 first:S.getD 0 []=[]
theorem J2n{ops:Array Oper}{n:Nat}{q:List Nat}{S:List (List Nat)}{fin:Nat}{F:List (Nat×Nat×Nat)}(h:J4n ops n q S fin F=true):Planned2 ops n q S fin F:=by
 unfold J4n at h
 simp only[G0k]at h
 obtain⟨⟨⟨⟨⟨u,x⟩,y⟩,z⟩,A⟩,C⟩:=h
 have g:=λj (g:j<ops.size)=>G0t.1 u j (G1k.2 g)
 simp only[G0k]at g
 have r:∀ {i j d:Nat},i<j->dstOf ops i=some d->dstOf ops j=some d->False:=by
  intro i j d D l m
  have:=G0t.1 (g j (Q5z m)).1.2 i (G1k.2 D)
  rw[l,m]at this
  simp at this
 refine⟨λ{i j} p l=>by simpa using G0t.1 (g j p).1.1.1 i l,λ{j d} hd=>?_,λ{i j d} l m=>?_,λ{j s} p hs I=>?_,λ{e} b=>by simpa using G0t.1 x e b,λ{s e} b=>?_,λ{s} hs J=>?_,by simpa using A,by simpa using C⟩
 ·have:=(g j (Q5z hd)).1.1.2
  rw[hd]at this
  simp only[G0k,G0s]at this
  refine⟨this.1,λ{k o} t M=>?_⟩
  have hk:=G0t.1 this.2 k (G1k.2 (G1b.1 t).1)
  simp only[t]at hk
  rcases G2r _ _▸hk with hk|hk
  ·simp[M]at hk
  simpa using hk
 ·rcases G6u i j with h|h|h
  ·exact(r h l m).elim
  ·exact h
  exact(r h m l).elim
 ·have:=G0t.1 (g j p).2 s (G1k.2 hs)
  rcases G2r _ _▸this with h|h
  ·rw[I]at h
   cases h
  obtain⟨⟨j',U,N⟩,P,f⟩:=G6f.1 h
  simp only[G0k,G3h,G0s]at f
  obtain⟨⟨⟨rfl,rfl⟩,c3⟩,c4⟩:=f
  refine⟨N,P,c3,?_⟩
  split at c4
  ·rename_i f
   rw[if_pos f]
   intro e b
   simpa using G0t.1 c4 e b
  rename_i f
  rw[if_neg f]
  simpa using c4
 ·rcases G4t s S.length with hs|hs
  ·have T:S.getD s []∈S:=by
    rw[G0v,G0c hs]
    exact G2u hs
   have:=G0t.1 (G0t.1 y _ T) e b
   simpa using this
  rw[G0v,G1a hs]at b
  cases b
 have:=G0t.1 z s (G1k.2 hs)
 rcases G2r _ _▸this with h|h
 ·simpa using h
 obtain⟨e,b,f⟩:=G6f.1 h
 rw[J e b]at f
 cases f
theorem J3f(hS:Q1p E O){ops:Array Oper}{n:Nat}{W:List Nat}{S:List (List Nat)}{fin:Nat}{F:List (Nat×Nat×Nat)}(y:Planned2 ops n W S fin F){val:List AV}{hs:List (List AObj)}{L0:List (Nat×AV)}
 (hf:Q3l E O ops (sl (Q4f ops val++L0)) n val hs F) {Q:Exit->Act->World->Prop} (hQ:∀C w',Rel E γ₀ H₀ Φ₀ w₀ ⟨sl (Q4f ops val++L0),n,hs.getD fin []⟩ C w'->Q .normal C w'):
 ∀ (I:Nat) (listed:Array Bool) (σ:St) (a:Act) (w:World) (s:Nat),listed.size=ops.size->(todo ops listed).length<=I->(∀j,listed.getD j false=true->∀i∈direct ops j,listed.getD i false=true)->
  s<S.length->(∀e∈W,listed.getD e false=(S.getD s []).contains e)->σ.h=hs.getD s []->σ.n=n->
  (∀j d,listed.getD j false=true->dstOf ops j=some d->σ.t d=val.getD j .any)->(∀i,(∀j,listed.getD j false=true->dstOf ops j≠some i)->σ.t i=sl L0 i)->
  Rel E γ₀ H₀ Φ₀ w₀ σ a w->wpAny E.P .any ops Q I listed a w:=by
 have tF:∀j d,dstOf ops j=some d->sl (Q4f ops val++L0) d=val.getD j .any:=by
  intro j d hd
  refine X1d L0 _ d _ (G3m.2 ⟨j,G1k.2 (Q5z hd),by rw[hd];rfl⟩) λu hu=>?_
  obtain⟨k,hk,b⟩:=G3m.1 hu
  obtain⟨Y,al,P⟩:=G0g.1 b
  injection P with e1 e2
  subst e1
  rw[<-e2,y.one al hd]
 have aJ:∀i,(∀j,dstOf ops j≠some i)->sl (Q4f ops val++L0) i=sl L0 i:=by
  intro i f
  refine Z5g L0 _ i λv hv=>?_
  obtain⟨k,hk,b⟩:=G3m.1 hv
  obtain⟨Y,al,P⟩:=G0g.1 b
  injection P with e1 e2
  subst e1
  exact f k al
 have gt:∀ (listed:Array Bool) (j:Nat),listed.size=ops.size->j<ops.size->(listed.getD j true=listed.getD j false):=by
  intro listed j q g
  have:j<listed.size:=by omega
  simp[this]
 have aL:∀ (listed:Array Bool) (σ:St) (s:Nat),listed.size=ops.size->todo ops listed=[]->s<S.length->(∀e∈W,listed.getD e false=(S.getD s []).contains e)->σ.h=hs.getD s []->σ.n=n->
  (∀j d,listed.getD j false=true->dstOf ops j=some d->σ.t d=val.getD j .any)->(∀i,(∀j,listed.getD j false=true->dstOf ops j≠some i)->σ.t i=sl L0 i)->σ=⟨sl (Q4f ops val++L0),n,hs.getD fin []⟩:=by
  intro listed σ s q M T hd A x D hb
  have aM:∀j,j<ops.size->listed.getD j false=true:=by
   intro j g
   cases hb:listed.getD j false with
   | true=>rfl
   | false=>
     have:j∈todo ops listed:=G2a.2 ⟨G1k.2 g,by rw[gt listed j q g,hb];rfl⟩
     rw[M]at this
     cases this
  have a2:s=fin:=y.last T λe b=>by rw[<-hd e b];exact aM e (y.effs b)
  obtain⟨t,m,a3⟩:=σ
  simp only at A x D hb
  subst x a2
  rw[A]
  congr 1
  funext i
  by_cases f:∃j,dstOf ops j=some i
  ·obtain⟨j,g⟩:=f
   rw[D j i (aM j (Q5z g)) g,tF j i g]
  rw[aJ i λj g=>f ⟨j,g⟩,hb i λj _ g=>f ⟨j,g⟩]
 have a4:∀ (listed:Array Bool),listed.size=ops.size->todo ops listed=[]->Region.ready .any ops listed=[]:=by
  intro listed q h
  refine G4u.2 λj g=>?_
  obtain⟨h1,o,J,_⟩:=mem_ready.1 g
  have:j∈todo ops listed:=G2a.2 ⟨G1k.2 (G1b.1 J).1,by simp[h1]⟩
  rw[h]at this
  cases this
 have a5:∀ (listed:Array Bool),listed.size=ops.size->todo ops listed≠[]->Region.ready .any ops listed≠[]:=by
  intro listed q a6 aq
  obtain⟨j,rest,ar⟩:=G5k a6
  have g:j∈todo ops listed:=by rw[ar];simp
  obtain⟨ac,a7⟩:=G2a.1 g
  have au:=G1k.1 ac
  have aN:(todo ops listed).Pairwise (·<·):=(G5b (n:=ops.size)).filter _
  rw[ar]at aN
  have aO:j∈Region.ready .any ops listed:=by
   refine mem_ready.2 ⟨by simpa using a7,ops[j],G2k au,λe b hb=>?_⟩
   have hd:e.on∈direct ops j:=by
    simp only[direct,G2k au]
    exact G3i.2 ⟨e,G2a.2 ⟨by simpa using b,hb⟩,rfl⟩
   have bm:=y.lt au hd
   have a8:e.on<listed.size:=by omega
   cases av:listed.getD e.on true with
   | true=>
     simp[a8]at av |-
     exact av
   | false=>
     exfalso
     have hm:e.on∈todo ops listed:=G2a.2 ⟨G1k.2 (by omega),by simpa using av⟩
     rw[ar]at hm
     rcases G1q.1 hm with h|h
     ·omega
     have:=(G6o.1 aN).1 e.on h
     omega
  rw[aq]at aO
  cases aO
 intro I
 induction I with
 | zero=>
   intro listed σ a w p q hl ad T N A x D hb hR
   have M:todo ops listed=[]:=G1g (by omega)
   have:=aL listed σ p q M T N A x D hb
   subst this
   exact⟨a4 listed q M,hQ a w hR⟩
 | succ I ih=>
   intro listed σ a w p q hl ad T N A x D hb hR
   refine⟨λaq=>?_,λj g=>?_⟩
   ·by_cases M:todo ops listed=[]
    ·have:=aL listed σ p q M T N A x D hb
     subst this
     exact hQ a w hR
    exact absurd aq (a5 listed q M)
   obtain⟨h1,o,J,ba⟩:=mem_ready.1 g
   have ac:j<ops.size:=(G1b.1 J).1
   have aQ:j∈todo ops listed:=G2a.2 ⟨G1k.2 ac,by simp[h1]⟩
   have aR:listed.getD j false=false:=by
    have:=(G2a.1 aQ).2
    rw[gt listed j q ac]at this
    simpa using this
   obtain⟨l,r,e1,e2,bn⟩:=Z2b aQ
   have aS:∀i∈direct ops j,listed.getD i false=true:=by
    intro i f
    simp only[direct,J]at f
    obtain⟨e,b,rfl⟩:=G3i.1 f
    have P:=G2a.1 b
    exact ba e (by simpa using P.1) P.2
   have aT:=Q2z (ops:=ops) (L:=λi=>listed.getD i false=true) ad ops.size j aS
   have bb:mayAt2 (ancs ops ops.size) W (S.getD p []) j=true:=by
    unfold mayAt2
    rw[G0k]
    refine⟨G0t.2 λe b=>?_,G0t.2 λe b=>?_⟩
    ·have U:listed.getD e false=true:=by rw[N e (y.sub b)];simpa using b
     rw[G0k]
     refine⟨?_,?_⟩
     ·simp only[G5x,ne_eq]
      intro e'
      rw[e',aR]at U
      cases U
     cases hc:((ancs ops ops.size).getD e []).contains j with
     | false=>rfl
     | true=>
       have:=Q2z (ops:=ops) (L:=λi=>listed.getD i false=true) ad ops.size e (ad e U) j (by simpa using hc)
       rw[aR]at this
       cases this
    cases hD:(S.getD p []).contains e with
    | true=>rfl
    | false=>
      have U:=N e b
      rw[hD]at U
      cases hc:((ancs ops ops.size).getD j []).contains e with
      | false=>rfl
      | true=>
        have:=aT e (by simpa using hc)
        rw[U]at this
        cases this
   obtain⟨V,hF,bf,aj⟩:=y.may ac T bb
   have ay:=hf.at hF J
   have aU:∀d∈o.looksAt ops,σ.t d=sl (Q4f ops val++L0) d:=by
    intro d hd
    by_cases hk:∃k,dstOf ops k=some d
    ·obtain⟨k,hk⟩:=hk
     rw[tF k d hk]
     exact D k d (aT k ((y.dst hk).2 J hd)) hk
    rw[aJ d λk az=>hk ⟨k,az⟩]
    exact hb d λk _ az=>hk ⟨k,az⟩
   have af:o.dst=dstOf ops j:=by simp[dstOf,J]
   have aV:∀i,(listed.setIfInBounds j true).getD i false=true->i=j\/listed.getD i false=true:=by
    intro i f
    by_cases aW:j=i
    ·exact .inl aW.symm
    rw[getD_set_ne false aW]at f
    exact .inr f
   have aX:(listed.setIfInBounds j true).getD j false=true:=by
    have:j<listed.size:=by omega
    simp[this]
   have aA:∀i,listed.getD i false=true->(listed.setIfInBounds j true).getD i false=true:=λi f=>getD_set_true f
   have next:∀C w',Rel E γ₀ H₀ Φ₀ w₀ ⟨putT σ.t (val.getD j .any) o.dst,n,hs.getD V []⟩ C w'->wpAny E.P .any ops Q I (listed.setIfInBounds j true) C w':=λC w' aB=>by
    refine ih (listed.setIfInBounds j true) _ C w' V (by simpa using q) ?_ ?_ bf ?_ rfl rfl ?_ ?_ aB
    ·rw[e2]
     rw[e1]at hl
     simp only[G0i,G0h]at hl |-
     omega
    ·intro k hk i f
     rcases aV k hk with rfl|hk
     ·exact aA _ (aS i f)
     exact aA _ (ad k hk i f)
    ·intro e b
     by_cases aC:W.contains j=true
     ·rw[if_pos aC]at aj
      rw[aj e b]
      by_cases ag:e=j
      ·rw[ag,aX]
       simp
      rw[getD_set_ne false (λh=>ag h.symm),N e b,show(e==j)=false by simpa using ag,G1p]
     rw[if_neg aC]at aj
     have ag:j≠e:=λh=>aC (by rw[h];simpa using b)
     rw[getD_set_ne false ag,aj,N e b]
    ·intro k d hk hd
     show putT σ.t (val.getD j .any) o.dst d=_
     by_cases aD:k=j
     ·subst aD
      rw[af,hd]
      show upd σ.t d _ d=_
      simp[upd]
     rcases aV k hk with h|hk
     ·exact absurd h aD
     rw[af]
     cases aE:dstOf ops j with
     | none=>exact D k d hk hd
     | some Y=>
       show upd σ.t Y _ d=_
       unfold upd
       rw[if_neg (λe=>aD (y.one hd (by rw[aE,e])))]
       exact D k d hk hd
    intro i f
    show putT σ.t (val.getD j .any) o.dst i=_
    rw[af]
    have hold:=hb i λk hk=>f k (aA k hk)
    cases aE:dstOf ops j with
    | none=>exact hold
    | some Y=>
      show upd σ.t Y _ i=_
      unfold upd
      rw[if_neg (λe=>f j aX (by rw[aE,e]))]
      exact hold
   have ak:if Region.wanted o (yielded ops a.tmps)=true then o.wp E.P a w (wpAny E.P .any ops Q I (listed.setIfInBounds j true)) Q else wpAny E.P .any ops Q I (listed.setIfInBounds j true) (a.put o.dst undef) w:=by
    rcases ay with ay|⟨ty,d,l,ti,z,bg,hg,hd,bi,hT,hz,aY,hv,aZ⟩
    ·have bk:Q2d E O ops σ o=some (val.getD j .any,hs.getD V []):=by
      obtain⟨t,m,a3⟩:=σ
      simp only at A x aU
      subst A x
      rw[Z3t aU]
      exact ay
     have bl:put σ o.dst (val.getD j .any) (hs.getD V [])=some ⟨putT σ.t (val.getD j .any) o.dst,n,hs.getD V []⟩:=by
      unfold put putT
      cases hd:o.dst with
      | none=>simp only[x]
      | some d=>
        have aF:=(y.dst (by rw[<-af,hd]:dstOf ops j=some d)).1
        simp only[x,if_pos aF]
     have hs1:Q8a E O ops σ o=some ⟨putT σ.t (val.getD j .any) o.dst,n,hs.getD V []⟩:=by
      rw[Q4u,bk]
      exact bl
     exact Q5d hS hs1 hR next
    have aF:=(y.dst (by rw[<-af,hd]:dstOf ops j=some d)).1
    simp only at aY aZ
    refine Z7t bg hg hd bi hT hz (by rw[A];exact aY) (by rw[x];exact aF) hR λC w' aB=>next C w' ?_
    rw[hv,hd,aZ,<-A,<-x]
    exact aB
   unfold wpOp
   rw[J]
   simp only
   split
   ·rename_i hw
    rw[if_pos hw]at ak
    exact .inl ak
   rename_i hw
   rw[if_neg hw]at ak
   exact ak
theorem AW.dregW(q:E.P.follows .mixedOrders=true)(hS:Q1p E O){id n:Nat}{L0:List (Nat×AV)}{h:List AObj}{ops:Array Oper}{Q:Exit->St->Prop}(r:List Nat)(S:List (List Nat))(fin:Nat)(F:List (Nat×Nat×Nat))(val:List AV)(hs:List (List AObj))(LF:List (Nat×AV))
 (s:Q4f ops val++L0=LF) (t:J4n ops n r S fin F=true) (u:hs.getD 0 []=h) (x:Q3l E O ops (sl LF) n val hs F) (L:List (Nat×AV)) (h':List AObj) (y:Q8l (sl LF) L) (z:hs.getD fin []=h') (A:Q .normal ⟨sl L,n,h'⟩):
 AW E k (.region id ops true) Q ⟨sl L0,n,h⟩:=by
 subst s
 intro γ₀ H₀ Φ₀ w₀ a w C D
 refine wp_region_any q ?_
 have I:todo ops (Array.replicate ops.size false)=List.range ops.size:=by
  refine G5n.2 λi f=>?_
  simp[G1k.1 f]
 have g:∀i,(Array.replicate ops.size false).getD i false=false:=by
  intro i
  by_cases f:i<ops.size
  ·simp[f]
  simp[f]
 have l:=J2n t
 refine J3f hS l x (γ₀:=γ₀) (H₀:=H₀) (Φ₀:=Φ₀) (w₀:=w₀) (λJ w' M=>?_) ops.size _ ⟨sl L0,n,h⟩ a _ 0 (by simp) (by rw[I];simp) (λj b=>by rw[g]at b;cases b) l.pos (λe V=>by rw[g,l.first];rfl) u.symm rfl
  (λj d b=>by rw[g]at b;cases b) (λi _=>rfl) ?_
 ·have N:Weak E k ⟨sl (Q4f ops val++L0),n,hs.getD fin []⟩ ⟨sl L,n,hs.getD fin []⟩:=Weak.forget (Q4m y)
  have p:=N γ₀ H₀ Φ₀ w₀ J w' C M
  rw[z]at p
  exact⟨_,p,A⟩
 obtain⟨⟨γ,Φ,m,P⟩,T,hd,U⟩:=D
 have hk:Ok E γ h Φ w γ h Φ { w with drawn:=w.drawn+1 }:=m.inv.grow (λ_ _=>rfl) (G0o _) rfl rfl rfl (λ_ _ h=>h) (λ_ _ h _=>h) m.inv.phi
 exact⟨⟨γ,Φ,m.trans hk,λi=>(P i).mono hk.evo⟩,T,hd,U⟩
theorem Q3l.nil{ops:Array Oper}{t:Nat->AV}{n:Nat}{val:List AV}{hs:List (List AObj)}:Q3l E O ops t n val hs []:=trivial
theorem Q3l.does{ops:Array Oper}{t:Nat->AV}{n:Nat}{val:List AV}{hs:List (List AObj)}{j s b:Nat}{F:List (Nat×Nat×Nat)}{v:AV}{d e:List AObj}(f:val.getD j .any=v)(g:hs.getD s []=d)(i:hs.getD b []=e)
 (h:((ops[j]?).bind λo=>Q2d E O ops ⟨t,n,d⟩ o)=some (v,e)) (l:Q3l E O ops t n val hs F):Q3l E O ops t n val hs ((j,s,b)::F):=
 ⟨λo' m=>.inl (by
  rw[m,G0a]at h
  rw[g,i,f]
  exact h),l⟩
theorem Q3l.fill{ops:Array Oper}{t:Nat->AV}{n:Nat}{val:List AV}{hs:List (List AObj)}{j s f:Nat}{F:List (Nat×Nat×Nat)}{e:List AObj}{o:Oper}{b d l:Nat}{ti:TI}{z:List PV}(g:hs.getD s []=e)(m:ops[j]?=some o)(p:o.op=.alloc b)(q:o.guard=none)(hd:o.dst=some d)
 (hb:E.bT≠some b) (hT:E.T b=some ti) (r:ti.zero=some z) (u:val.getD j .any=.ref l 0) (x:e[l]?=some (.hold d)) (y:hs.getD f []=e.set l (.var (z.map zAV))) (A:Q3l E O ops t n val hs F):Q3l E O ops t n val hs ((j,s,f)::F):=
 ⟨λo' i=>.inr (by
  rw[m]at i
  cases i
  exact⟨b,d,l,ti,z,p,q,hd,hb,hT,r,by rw[g];exact x,u,by rw[g];exact y⟩),A⟩
end
end Go.Abs
namespace Go.Abs
open Go.RowKit
def xg:AObj->AObj
 | .var _=>.gone
 | o=>o
def J1e(E:Env)(f:FuncId)(args:List AV)(H:List AObj)(v:Value):Prop:=
 ∀ (w:World) (Φ:Nat->Nat->Prop) (γ:List Gh) (b:List Value),OInv E γ H Φ w->b.length=args.length->(∀ (i:Nat) v a,b[i]?=some v->args[i]?=some a->ARel γ H Φ w v a)->
  Calls E.P f ⟨b⟩ w λe w'=>∃d Φ',e=.panicked [{ v:=v,recovered:=false }]/\Ok E γ H Φ w d (H.map xg) Φ' w'
abbrev XO:=FuncId->List AV->List AObj->Option Value
def Q6x(E:Env)(X:XO):Prop:=∀f args H v,X f args H=some v->J1e E f args H v/\Z6t E f
def Z7q(X:XO)(H:List AObj)(f:FuncId)(args:List AV):Option (Value×List AObj):=
 let base:=Q1l H args
 let sel:=Q5p (base++Q1j H base)
 match Q1a H (idx sel) sel,Q0v H (idx sel) args with
 | some Hs,some az=>match X f az Hs with
   | some v=>some (v,Q0q H sel (Hs.map xg))
   | none=>none
 | _,_=>none
section
variable {E:Env}{O:Orc}{X:XO}{γ γ₀:List Gh}{H H₀ H':List AObj}{Φ Φ₀:Nat->Nat->Prop}{w w₀:World}{σ σ':St}{a:Act}{o:Oper}{v:Value}{k:Nat}
theorem J8v(o:AObj):Q1o (xg o)=Q1o o:=by cases o<;>rfl
theorem J8w(H:List AObj)(l:Nat):rowAt (H.map xg) l=rowAt H l:=by
 unfold rowAt
 rw[G0x]
 cases H[l]? with
 | none=>rfl
 | some o=>exact J8v o
theorem J7j:Evo γ H Φ w γ (H.map xg) Φ w:=
 ⟨λ_ _ h=>h,λ_ _ _=>rfl,λ_ _ h=>.inl h,λl _ _ n h=>⟨n,(J8w H l).trans h,G0o _,λ_=>rfl⟩⟩
theorem OInv.gone(b:OInv E γ H Φ w):OInv E γ (H.map xg) Φ w:=by
 refine⟨by rw[G1m];exact b.len,λl o g d e=>?_,b.disj,b.own,b.phi,b.gi,b.gn⟩
 rw[G0x]at d
 obtain⟨o',f,rfl⟩:=G0g.1 d
 have i:=b.obj l o' g f e
 cases o' with
 | var cs=>trivial
 | _=>exact ObjRel.keep J7j i (λ_ _=>rfl) (λ_ _ _ h=>h)
theorem Ok.gone(h:Ok E γ₀ H₀ Φ₀ w₀ γ H Φ w):Ok E γ₀ H₀ Φ₀ w₀ γ (H.map xg) Φ w:=
 h.trans ⟨h.inv.gone,J7j,Since.refl _ _ _⟩
theorem Z5b(hX:Q6x E X)(d:OInv E γ H Φ w){f:FuncId}{args:List AV}{g:List Value}(J:g.length=args.length)(s:∀ (i:Nat) v b,g[i]?=some v->args[i]?=some b->ARel γ H Φ w v b)
 (h:Z7q X H f args=some (v,H')):Z6t E f/\Calls E.P f ⟨g⟩ w λe w'=>∃l Φ',e=.panicked [{ v:=v,recovered:=false }]/\Ok E γ H Φ w l H' Φ' w':=by
 unfold Z7q at h
 simp only at h
 generalize t:Q5p (Q1l H args++Q1j H (Q1l H args))=sel at h
 have m:sel.Nodup:=by rw[<-t];exact Q7n _
 split at h
 ·rename_i Hs az j x
  split at h
  ·rename_i u y
   simp only[G0b,G1d]at h
   obtain⟨rfl,rfl⟩:=h
   obtain⟨z,A⟩:=hX f az Hs u y
   obtain⟨M,C⟩:=Q5s x
   refine⟨A,(z w Φ (Q6h γ sel) g (d.select m j) (by omega) (λi v b n hb=>?_)).mono ?_⟩
   ·have q:i<args.length:=by
     have:=(G0f.1 n).1
     omega
    have r:=s i v args[i] n (G0c q)
    rcases C i args[i] b (G0c q) hb with⟨p,D,rfl⟩|F
    ·exact .pv (Q1q d r D)
    exact r.select d j F
   rintro e w' ⟨l,Φ',rfl,I⟩
   obtain⟨N,_⟩:=Q2x j
   exact⟨_,Φ',rfl,I.back d m j (by rw[G1m];omega)⟩
  cases h
 cases h
theorem Z0m(hS:Q1p E O){ops:Array Oper}{Q:Exit->Act->World->Prop}{f:List Oper}:∀ (l:List Oper) (σ:St) (a:Act) (w:World),arun E O ops l σ=some σ'->Rel E γ₀ H₀ Φ₀ w₀ σ a w->
 (∀b w',Rel E γ₀ H₀ Φ₀ w₀ σ' b w'->wpList E.P ops Q f b w')->wpList E.P ops Q (l++f) a w
 | [],σ,a,w,h,d,e=>by
   simp only[arun,G0b]at h
   subst h
   exact e a w d
 | o::l,σ,a,w,h,d,e=>by
   obtain⟨g,i,j⟩:=G1n.1 h
   exact wpList_step λK m=>Q5d hS i d (λb w' n=>m b w' (Z0m hS l g b w' j n e))
variable {Q:Exit->St->Prop}
inductive Out where
 | ret (rs:List AV) (H':List AObj)
 | boom (v:Value)
def J5p(E:Env)(f:FuncId)(args:List AV)(H:List AObj):Out->Prop
 | .ret rs H'=>Good E f args H rs H'
 | .boom v=>J1e E f args H v
def retB(E:Env)(fn:Func)(m:Nat)(b:List Nat)(H:List AObj):Out->Exit->St->Prop
 | .ret rs H',e,σ=>retQ E fn m b rs H' e σ
 | .boom v,e,σ=>e=.panic [{ v:=v,recovered:=false }]/\(σ.h.map xg).take m=H.map xg/\((σ.h.map xg).take m).all (AObj.ltB m)=true
theorem J1e.of_body{f:FuncId}{fn:Func}{c:Code}(l:E.P.funcs[f]?=some fn)(hb:fn.body=some c){args:List AV}{H:List AObj}{v:Value}(x:args.length<=fn.ntmps)(hd0:E.dfs=[])
 (h:AW E H.length c (retB E fn H.length [] H (.boom v)) ⟨Z3p args,fn.ntmps,H⟩):J1e E f args H v:=by
 intro w Φ γ b d y m
 refine calls_of_wp l hb ?_
 have n:Rel E γ H Φ w ⟨Z3p args,fn.ntmps,H⟩ { tmps:=(⟨b⟩:Array Value)++Array.replicate (fn.ntmps-(⟨b⟩:Array Value).size) undef,defers:=[] } w:=by
  refine⟨⟨γ,Φ,.refl d,λi=>?_⟩,?_,hd0.symm,d.len⟩
  ·show ARel γ H Φ w _ (args.getD i .any)
   rw[G0v]
   by_cases g:i<args.length
   ·rw[G0c g]
    have j:i<b.length:=by omega
    refine m i _ _ ?_ (G0c g)
    rw[G0c j]
    simp[G2m,G6d,j]
   rw[G1a (by omega)]
   exact .any _
  show((⟨b⟩:Array Value)++Array.replicate (fn.ntmps-(⟨b⟩:Array Value).size) undef).size=fn.ntmps
  simp
  omega
 refine wp_mono (h γ H Φ w _ w rfl n) (λe z w' ⟨σ',p,q⟩=>?_)
 obtain⟨rfl,r,s⟩:=q
 obtain⟨⟨A,Φ',t,_⟩,_,hd,u⟩:=p
 have hk:=t.gone.take (G0o _) u s
 rw[r]at hk
 exact⟨hd.trans hd0,_,Φ',rfl,hk⟩
def Says(O:Orc)(X:XO)(f:FuncId)(args:List AV)(H:List AObj):Out->Prop
 | .ret rs H'=>O.C f args H=some (rs,H')
 | .boom v=>X f args H=some v
end
end Go.Abs
namespace Go.Abs
open Go.RowKit
structure Spec where
 f:FuncId
 α:Type
 ρ:Type
 F:α->Option ρ
 A:α->List AV×List AObj
 R:α->ρ->Out
 inj:∀x y,A x=A y->x=y
open Classical in
noncomputable def Spec.c(S:Spec)(args:List AV)(H:List AObj):Option Out:=
 if h:∃x,S.A x=(args,H)then(S.F (Classical.choose h)).map (S.R (Classical.choose h))else none
theorem Spec.c_at(S:Spec)(x:S.α):S.c (S.A x).1 (S.A x).2=(S.F x).map (S.R x):=by
 have h:∃y,S.A y=((S.A x).1,(S.A x).2):=⟨x,rfl⟩
 unfold Spec.c
 rw[dif_pos h,S.inj _ x (G5d h)]
theorem Spec.c_some{S:Spec}{args:List AV}{H:List AObj}{o:Out}(h:S.c args H=some o):∃x r,S.F x=some r/\S.A x=(args,H)/\S.R x r=o:=by
 unfold Spec.c at h
 split at h
 ·rename_i b
  obtain⟨r,d,e⟩:=G0g.1 h
  exact⟨_,r,d,G5d b,e⟩
 cases h
abbrev KL:=List (FuncId×(List AV->List AObj->Option Out))
section
variable {E:Env}{K:KL}{pf:FuncId->Bool}
def K4m(E:Env)(S:Spec):Prop:=∀x r,S.F x=some r->J5p E S.f (S.A x).1 (S.A x).2 (S.R x r)
theorem K4m.c{S:Spec}(h:K4m E S)(args:List AV)(H:List AObj)(o:Out)(b:S.c args H=some o):J5p E S.f args H o:=by
 obtain⟨x,r,d,e,rfl⟩:=Spec.c_some b
 have:=h x r d
 rw[e]at this
 exact this
def Q0i{α b:Type}(x:Option (Int ⊕ α))(f:α->Option (Int ⊕ b)):Option (Int ⊕ b):=
 match x with
 | none=>none
 | some (.inl n)=>some (.inl n)
 | some (.inr a)=>f a
theorem Q0y{α b:Type}{x:Option (Int ⊕ α)}{f:α->Option (Int ⊕ b)}{r:Int ⊕ b}(h:Q0i x f=some r):(∃n,x=some (.inl n)/\r=.inl n)\/∃a,x=some (.inr a)/\f a=some r:=by
 unfold Q0i at h
 split at h
 ·cases h
 ·rename_i n
  injection h with h
  exact .inl ⟨n,rfl,h.symm⟩
 rename_i a
 exact .inr ⟨a,rfl,h⟩
theorem J6g{X:XO}{H:List AObj}{f:FuncId}{args:List AV}{sel:List Nat}{az:List AV}{Hs:List AObj}{v:Value}{Hn:List AObj}(b:Q5p (Q1l H args++Q1j H (Q1l H args))=sel)(d:Q1a H (idx sel) sel=some Hs)(e:Q0v H (idx sel) args=some az)
 (g:X f az Hs=some v) (i:Q0q H sel (Hs.map xg)=Hn):Z7q X H f args=some (v,Hn):=by
 unfold Z7q
 simp only
 rw[b,d,e]
 simp only
 rw[g,i]
end
end Go.Abs
namespace Go.Abs
open Go.RowKit
mutual
def PV.same:PV->PV->Bool
 | .bool a,.bool b=>a==b
 | .int k n,.int d e=>decide (k=d)&&decide (n=e)
 | .str s,.str f=>decide (s=f)
 | .nil,.nil=>true
 | .slice xs,.slice ys=>PV.sames xs ys
 | .agg xs,.agg ys=>PV.sames xs ys
 | .ifc,.ifc=>true
 | .nilp,.nilp=>true
 | _,_=>false
def PV.sames:List PV->List PV->Bool
 | [],[]=>true
 | x::xs,y::ys=>PV.same x y&&PV.sames xs ys
 | _,_=>false
end
mutual
theorem PV.same_eq:∀ {a b:PV},PV.same a b=true->a=b
 | .bool a,b,h=>by cases b<;>simp_all [PV.same]
 | .int k n,b,h=>by cases b<;>simp_all [PV.same]
 | .str s,b,h=>by cases b<;>simp_all [PV.same]
 | .nil,b,h=>by cases b<;>simp_all [PV.same]
 | .ifc,b,h=>by cases b<;>simp_all [PV.same]
 | .nilp,b,h=>by cases b<;>simp_all [PV.same]
 | .slice xs,b,h=>by
   cases b with
   | slice ys=>exact G3t PV.slice (PV.sames_eq (by simpa only[PV.same]using h))
   | _=>simp[PV.same]at h
 | .agg xs,b,h=>by
   cases b with
   | agg ys=>exact G3t PV.agg (PV.sames_eq (by simpa only[PV.same]using h))
   | _=>simp[PV.same]at h
theorem PV.sames_eq:∀ {a b:List PV},PV.sames a b=true->a=b
 | [],b,h=>by cases b<;>simp_all [PV.sames]
 | x::xs,b,h=>by
   cases b with
   | nil=>simp[PV.sames]at h
   | cons y ys=>
     simp only[PV.sames,G0k]at h
     rw[PV.same_eq h.1,PV.sames_eq h.2]
end
mutual
def AV.same:AV->AV->Bool
 | .any,.any=>true
 | .pv p,.pv q=>p.same q
 | .ref l o,.ref l' o'=>l==l'&&o==o'
 | .pptr xs,.pptr ys=>PV.sames xs ys
 | .vec l n,.vec l' b=>l==l'&&n==b
 | .vptr l n i o,.vptr l' b i' o'=>l==l'&&n==b&&i==i'&&o==o'
 | .mref l,.mref l'=>l==l'
 | .selfp l,.selfp l'=>l==l'
 | .nils,.nils=>true
 | .full xs,.full ys=>PV.sames xs ys
 | .tup xs,.tup ys=>AV.sames xs ys
 | .agg xs,.agg ys=>AV.sames xs ys
 | .fn f cs,.fn d cs'=>f==d&&cs==cs'
 | .ifc t p,.ifc e g=>t==e&&p.same g
 | _,_=>false
def AV.sames:List AV->List AV->Bool
 | [],[]=>true
 | x::xs,y::ys=>AV.same x y&&AV.sames xs ys
 | _,_=>false
end
mutual
theorem AV.same_eq:∀ {a b:AV},AV.same a b=true->a=b
 | .any,b,h=>by cases b<;>simp_all [AV.same]
 | .pv p,b,h=>by
   cases b with
   | pv q=>exact G3t AV.pv (PV.same_eq (by simpa only[AV.same]using h))
   | _=>simp[AV.same]at h
 | .ref l o,b,h=>by cases b<;>simp_all [AV.same]
 | .pptr xs,b,h=>by
   cases b with
   | pptr q=>exact G3t AV.pptr (PV.sames_eq (by simpa only[AV.same]using h))
   | _=>simp[AV.same]at h
 | .vec l n,b,h=>by cases b<;>simp_all [AV.same]
 | .vptr l n i o,b,h=>by cases b<;>simp_all [AV.same]
 | .mref l,b,h=>by cases b<;>simp_all [AV.same]
 | .selfp l,b,h=>by cases b<;>simp_all [AV.same]
 | .nils,b,h=>by cases b<;>simp_all [AV.same]
 | .full xs,b,h=>by
   cases b with
   | full q=>exact G3t AV.full (PV.sames_eq (by simpa only[AV.same]using h))
   | _=>simp[AV.same]at h
 | .tup xs,b,h=>by
   cases b with
   | tup q=>exact G3t AV.tup (AV.sames_eq (by simpa only[AV.same]using h))
   | _=>simp[AV.same]at h
 | .agg xs,b,h=>by
   cases b with
   | agg q=>exact G3t AV.agg (AV.sames_eq (by simpa only[AV.same]using h))
   | _=>simp[AV.same]at h
 | .fn f cs,b,h=>by cases b<;>simp_all [AV.same]
 | .ifc t p,b,h=>by
   cases b with
   | ifc d q=>
     simp only[AV.same,G0k,G3h]at h
     rw[h.1,PV.same_eq h.2]
   | _=>simp[AV.same]at h
theorem AV.sames_eq:∀ {a b:List AV},AV.sames a b=true->a=b
 | [],b,h=>by cases b<;>simp_all [AV.sames]
 | x::xs,b,h=>by
   cases b with
   | nil=>simp[AV.sames]at h
   | cons y ys=>
     simp only[AV.sames,G0k]at h
     rw[AV.same_eq h.1,AV.sames_eq h.2]
end
end Go.Abs
namespace Go.Abs
open Go.RowKit
abbrev KO:=FuncId->List AV->List AObj->Option Out
inductive XR where
 | val (v:AV) (h:List AObj)
 | boom (v:Value) (h:List AObj)
end Go.Abs
namespace Go.Abs
open Go.RowKit
inductive XE where
 | normal
 | exit (id:Nat)
 | ret
 | panic (v:Value)
section
variable {E:Env}{L:KO}{k:Nat}
end
end Go.Abs
