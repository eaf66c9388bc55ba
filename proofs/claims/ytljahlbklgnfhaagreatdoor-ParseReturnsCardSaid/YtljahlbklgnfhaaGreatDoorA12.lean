import Derived.Test.YtljahlbklgnfhaaGreatDoorA10
import Derived.Laws.OwnMore
import Derived.Maps.AppendAt
set_option linter.unusedVariables false
set_option linter.unusedSimpArgs false
set_option linter.defProp false
namespace Go.Abs
open Go.RowKit
def zAV:PV->AV
 | .slice []=>.nils
 | p=>.pv p
def J6o(E:Env)(H:List AObj)(a:TypeId):Option (AV×List AObj):=
 if E.bT=some a then some (.ref H.length 0,H++[.bld []])
 else if E.pT=some a then some (.ref H.length 0,H++[.prn E.pe1 [] E.pe2 E.psz []])
 else match E.T a with
  | some ti=>match ti.zero with
    | some z=>some (.ref H.length 0,H++[.var (z.map zAV)])
    | none=>none
  | none=>none
def ebox(H:List AObj)(x:AV):Option (AV×List AObj):=
 match x with
 | .pv p=>some (.ref H.length 0,H++[.var (p.cells.map AV.pv)])
 | .vec l n=>some (.ref H.length 0,H++[.var [.vec l n]])
 | .ref l o=>some (.ref H.length 0,H++[.var [.ref l o]])
 | .nils=>some (.ref H.length 0,H++[.var [.nils]])
 | .full xs=>some (.ref H.length 0,H++[.var [.full xs]])
 | .agg cs=>if noS cs=true then some (.ref H.length 0,H++[.var cs])else none
 | _=>none
def Q6t(H:List AObj):List AV->Option (List PV)
 | []=>some []
 | a::r=>match toPV H a,Q6t H r with
   | some p,some s=>some (p::s)
   | _,_=>none
theorem Z1p{H:List AObj}:∀ {az:List AV} {ps:List PV},Q6t H az=some ps->az.length=ps.length/\∀ (i:Nat) a p,az[i]?=some a->ps[i]?=some p->toPV H a=some p
 | [],ps,h=>by
   simp only[Q6t,G0c]at h
   subst h
   exact⟨rfl,λi a p d=>by simp at d⟩
 | a::az,ps,h=>by
   simp only[Q6t]at h
   split at h
   ·rename_i p s e hs
    simp only[G0c]at h
    subst h
    obtain⟨f,g⟩:=Z1p hs
    refine⟨by simp[f],λi b q hb hq=>?_⟩
    cases i with
    | zero=>simp only[G0s,G0c]at hb hq;subst hb hq;exact e
    | succ i=>rw[G1f]at hb hq;exact g i b q hb hq
   cases h
def Z0i(H:List AObj):AV->Option PV
 | .pv p=>some p
 | .nils=>some (.slice [])
 | .full xs=>some (.slice xs)
 | .vec l n=>toPV H (.vec l n)
 | .agg vs=>(Q6t H vs).map PV.agg
 | _=>none
def Q9b(H:List AObj)(sz:Nat):Nat->List (Nat×AV)->Option (List PV)
 | _,[]=>some []
 | i,(j,v)::r=>if i=j then match Z0i H v with
    | some p=>if p.cells.length=sz then(Q9b H sz (i+1) r).map (p::·)else none
    | none=>none
   else none
def Q3f(E:Env)(H:List AObj)(b:TypeId)(len:Nat)(Q0l:List (Nat×AV)):Option (AV×List AObj):=
 match E.T b with
 | some ⟨.slice e,_,_,_⟩=>match E.T e with
   | some a=>if Q0l.length=len/\len * a.size<=16777216/\a.zero.isSome=true/\a.size≠0 then match Q9b H a.size 0 Q0l with
      | some xs=>some (.full xs,H)
      | none=>none
     else none
   | none=>none
 | _=>none
section
variable {E:Env}{γ:List Gh}{H:List AObj}{Φ:Nat->Nat->Prop}{w:World}
def Q8j(E:Env)(γ:List Gh)(H:List AObj)(Φ:Nat->Nat->Prop)(w:World)(r:AV)(H':List AObj)(u:Value)(w':World):Prop:=
 ∃a Φ',Ok E γ H Φ w a H' Φ' w'/\ARel a H' Φ' w' u r
theorem Q2s(o:Obj)(b:Nat)(hb:b<w.heap.size):(w.alloc o).heap[b]?=w.heap[b]?:=G7a w o b hb
theorem X6e(p:PV):(zAV p).isS=false:=by unfold zAV;split<;>rfl
theorem J7g{v:Value}{p:PV}(h:Zero1 v p){γ:List Gh}{H:List AObj}{Φ:Nat->Nat->Prop}{w:World}:ARel γ H Φ w v (zAV p):=by
 unfold zAV
 split
 ·rw[h.2.2 rfl]
  exact .nils
 exact .pv (h.2.1 Φ w)
theorem Q6l(a:OInv E γ H Φ w)(t:TypeId)(vs:List Value)(cs:List AV)(i:vs.length=cs.length)
 (e:∀ (k:Nat) v c,vs[k]?=some v->cs[k]?=some c->v.oneCell'=true/\∀f H' Φ' w',Evo γ H Φ w f H' Φ' w'->ARel f H' Φ' w' v c) (j:∀c∈cs,c.isS=false):
 Q8j E γ H Φ w (.ref H.length 0) (H++[.var cs]) (.pointer (some ⟨w.heap.size,0,none⟩)) (w.alloc (.cells ⟨vs⟩ t)):=by
 have l:(w.alloc (.cells ⟨vs⟩ t)).heap[w.heap.size]?=some (.cells ⟨vs⟩ t (0,0)):=G4r w _
 refine⟨_,Φ,a.pushObj (λb hb=>Q2s _ b hb) (by simp) rfl rfl rfl (λ_ _ h=>h) (λ_ _ h _=>h) (λb k h=>G1m (a.phi b k h) (by simp)) ⟨.pointer (some ⟨w.heap.size,0,none⟩),[w.heap.size]⟩ (.var cs)
  (λb hb=>by simp at hb;subst hb;exact⟨G0r _,by simp⟩) (λm=>⟨w.heap.size,t,vs,rfl,rfl,l,i,λk v c g d=>⟨(e k v c g d).1,(e k v c g d).2 _ _ _ _ m⟩,λk hk=>?_,λc d hs=>by rw[j c d]at hs;cases hs⟩),.ref _ _ _ ?_⟩
 ·have:=a.phi _ k hk
  omega
 unfold gv
 rw[<-a.len]
 simp
theorem J6n(f:OInv E γ H Φ w){a:TypeId}{r:AV}{H':List AObj}(h:J6o E H a=some (r,H')):
 ∃u w',(Instr.alloc a true (.tuple #[])).run E.P w=.ok u w'/\Q8j E γ H Φ w r H' u w':=by
 unfold J6o at h
 split at h
 ·rename_i j
  simp only[G0c,G1k]at h
  obtain⟨rfl,rfl⟩:=h
  have g:=E.hbT a j w
  have l:(w.alloc (.cells #[.pointer none,.slice none 0 0] a)).heap[w.heap.size]?=some (.cells #[.pointer none,.slice none 0 0] a (0,0)):=G4r w _
  refine⟨.pointer (some ⟨w.heap.size,0,none⟩),w.alloc (.cells #[.pointer none,.slice none 0 0] a),?_,_,Φ,
   f.pushObj (λb hb=>Q2s _ b hb) (by simp) rfl rfl rfl (λ_ _ h=>h) (λ_ _ h _=>h) (λb k h=>G1m (f.phi b k h) (by simp)) ⟨.pointer (some ⟨w.heap.size,0,none⟩),[w.heap.size]⟩ (.bld [])
    (λb hb=>by simp at hb;subst hb;exact⟨G0r _,by simp⟩) (λo=>⟨w.heap.size,.pointer none,.slice none 0 0,rfl,rfl,.inl rfl,by rw[j];exact l,G5b _ _ _ _,by simp[Value.ownBlock],λk hk=>?_,λc e=>by simp[Value.ownBlock]at e⟩),.ref _ _ _ ?_⟩
  ·simp[Instr.alloc,g,newVar,newRow,Value.cells]
  ·have:=f.phi _ k hk
   omega
  unfold gv
  rw[<-f.len]
  simp
 split at h
 ·rename_i j
  simp only[G0c,G1k]at h
  obtain⟨rfl,rfl⟩:=h
  have g:=E.hpT a j w
  have l:(w.alloc (.cells #[.pointer none,.slice none 0 0,.slice none 0 0] a)).heap[w.heap.size]?=some (.cells #[.pointer none,.slice none 0 0,.slice none 0 0] a (0,0)):=G4r w _
  refine⟨.pointer (some ⟨w.heap.size,0,none⟩),w.alloc (.cells #[.pointer none,.slice none 0 0,.slice none 0 0] a),?_,_,Φ,
   f.pushObj (λb hb=>Q2s _ b hb) (by simp) rfl rfl rfl (λ_ _ h=>h) (λ_ _ h _=>h) (λb k h=>G1m (f.phi b k h) (by simp)) ⟨.pointer (some ⟨w.heap.size,0,none⟩),[w.heap.size]⟩ (.prn E.pe1 [] E.pe2 E.psz [])
    (λb hb=>by simp at hb;subst hb;exact⟨G0r _,by simp⟩) (λo=>⟨w.heap.size,.pointer none,.slice none 0 0,.slice none 0 0,rfl,rfl,by simp,by rw[j];exact l,.inl rfl,λk hk=>?_,World.ownsRowF_nil _ _ _ _,λc e=>by simp[Value.ownBlock]at e,
      ⟨[],G5b _ _ _ _,rfl,λk v c m _=>by simp at m,λz g=>(by cases g),λc e=>by simp[Q4h]at e,rfl,E.hpz,λb hb=>by cases hb⟩⟩),.ref _ _ _ ?_⟩
  ·simp[Instr.alloc,g,newVar,newRow,Value.cells]
  ·have:=f.phi _ k hk
   omega
  unfold gv
  rw[<-f.len]
  simp
 split at h
 ·rename_i ti hT
  split at h
  ·rename_i z g
   simp only[G0c,G1k]at h
   obtain⟨rfl,rfl⟩:=h
   obtain⟨i,d,q,hs,_,hd,hk,t⟩:=(E.hT _ _ hT).info
   obtain⟨zv,x,y,_,A,_⟩:=t z g
   have C:(zeroValue a).run E.P w=.ok zv w:=by simp[zeroValue,typeInfo,q,x]
   refine⟨_,_,?_,Q6l f a zv.cells.toList (z.map zAV) (by simpa using y) (λk v c m e=>?_) (λc e=>by obtain⟨p,_,rfl⟩:=G3r.1 e;exact X6e p)⟩
   ·simp[Instr.alloc,C,newVar,newRow]
   rw[G1i]at e
   obtain⟨p,D,rfl⟩:=G0k.1 e
   have n:=A k v p m D
   exact⟨(n.2.1 Φ w).one n.1,λ_ _ _ _ _=>J7g n⟩
  cases h
 cases h
theorem X2r{v:Value}{a:AV}(h:ARel γ H Φ w v a)(b:∀p,a≠.pv p)(d:∀vs,a≠.tup vs)(e:a≠.any)(f:∀vs,a≠.agg vs):v.oneCell'=true:=by
 cases h<;>first|rfl|exact absurd rfl (b _)|exact absurd rfl (d _)|exact absurd rfl e|exact absurd rfl (f _)
theorem X5d(l:OInv E γ H Φ w){e:TypeId}{v:Value}{x r:AV}{H':List AObj}(m:ARel γ H Φ w v x)(h:ebox H x=some (r,H')):
 ∃u w',(Instr.box e v).run E.P w=.ok u w'/\Q8j E γ H Φ w r H' u w':=by
 have n:(Instr.box e v).run E.P w=.ok (.pointer (some ⟨w.heap.size,0,none⟩)) (w.alloc (.cells v.cells e)):=by simp[Instr.box,newVar,newRow]
 have j:v.cells=#[v]->(∀p,x≠.pv p)->(∀vs,x≠.tup vs)->x≠.any->(∀vs,x≠.agg vs)->x.isS=false->some (AV.ref H.length 0,H++[.var [x]])=some (r,H')->∃u w',(Instr.box e v).run E.P w=.ok u w'/\Q8j E γ H Φ w r H' u w':=by
  intro d g A C D F y
  simp only[G0c,G1k]at y
  obtain⟨rfl,rfl⟩:=y
  refine⟨_,_,n,?_⟩
  rw[d]
  exact Q6l l e [v] [x] rfl (λk a c b i=>by
   match k,b,i with
   | 0,b,i=>
     simp at b i
     subst b i
     exact⟨X2r m g A C D,λ_ _ _ _ f=>m.mono f⟩
   | k+1,b,i=>simp at b) (λc d=>by rw[G1p.1 d];exact F)
 cases m with
 | @pv v p I=>
   simp only[ebox,G0c,G1k]at h
   obtain⟨rfl,rfl⟩:=h
   obtain⟨o,g,t⟩:=Q7d I
   refine⟨_,_,n,Q6l l e v.cells.toList (p.cells.map AV.pv) (by simpa using o) (λk a c b d=>?_) (λc d=>by obtain⟨q,_,rfl⟩:=G3r.1 d;rfl)⟩
   rw[G1i]at d
   obtain⟨q,hq,rfl⟩:=G0k.1 d
   have z:=t k a q b hq
   exact⟨z.one (g q (G1o hq)),λ_ _ _ _ f=>.pv (z.mono f.phi f.cell)⟩
 | vec=>exact j rfl (by simp) (by simp) (by simp) (by simp) rfl h
 | ref=>exact j rfl (by simp) (by simp) (by simp) (by simp) rfl h
 | selfp=>simp[ebox]at h
 | nils=>exact j rfl (by simp) (by simp) (by simp) (by simp) rfl h
 | full=>exact j rfl (by simp) (by simp) (by simp) (by simp) rfl h
 | agg ws vs o g t=>
   simp only[ebox]at h
   split at h
   ·rename_i J
    simp only[G0c,G1k]at h
    obtain⟨rfl,rfl⟩:=h
    exact⟨_,_,n,Q6l l e ws vs o (λk a c b d=>⟨g a (G1o b),λ_ _ _ _ f=>(t k a c b d).mono f⟩) (J8c J)⟩
   cases h
 | any=>simp[ebox]at h
 | ifc=>simp[ebox]at h
 | pptr=>simp[ebox]at h
 | vptr=>simp[ebox]at h
 | tup=>simp[ebox]at h
 | fn=>simp[ebox]at h
theorem Q9x(e:TypeId)(cs:Array Value):(newRow e cs).run E.P w=.ok ⟨w.heap.size,0,none⟩ (w.alloc (.cells cs e)):=rfl
theorem J8v(sz:Nat):∀ (vparts:List (Nat×Value)) (i:Nat) (cs:Array Value),(∀ (j:Nat) p,vparts[j]?=some p->p.1=i+j/\p.2.cells.size=sz)->(i+vparts.length) * sz<=cs.size->
 ∃us,Instr.fill (λi=>some (i * sz,sz)) cs vparts=some us/\us.size=cs.size/\us.toList.take ((i+vparts.length) * sz)=cs.toList.take (i * sz)++vparts.flatMap λp=>p.2.cells.toList
 | [],i,cs,_,_=>⟨cs,rfl,rfl,by simp⟩
 | (a,v)::r,i,cs,e,hs=>by
   obtain⟨f,b⟩:=e 0 (a,v) rfl
   simp only[G3m]at f
   subst f
   have b:v.cells.size=sz:=b
   simp only[G0i]at hs
   have y:a * sz+sz<=cs.size:=by
    have:=G3n sz (show a+1<=a+(r.length+1) from by omega)
    rw[G5k]at this
    omega
   obtain⟨d,g⟩:=Z6y (a * sz) v.cells.toList 0 cs (by simp only[G2h];omega)
   have m:v.cells.zipIdx.foldl (λcs (c,j)=>cs.setIfInBounds (a * sz+j) c) cs=(v.cells.toList.zipIdx 0).foldl (λcs (c,j)=>cs.setIfInBounds (a * sz+j) c) cs:=by
    rw[<-G7v,G7m]
   have l:Instr.fill (λi=>some (i * sz,sz)) cs ((a,v)::r)=Instr.fill (λi=>some (i * sz,sz)) ((v.cells.toList.zipIdx 0).foldl (λcs (c,j)=>cs.setIfInBounds (a * sz+j) c) cs) r:=by
    rw[<-m]
    simp only[Instr.fill]
    rw[if_neg]
    simp only[b,ne_eq,G5a,G7d,G2k,G0l]
    omega
   generalize z:(v.cells.toList.zipIdx 0).foldl (λcs (c,j)=>cs.setIfInBounds (a * sz+j) c) cs=cs' at l d g
   obtain⟨us,n,o,q⟩:=J8v sz r (a+1) cs' (λj p t=>by
    have:=e (j+1) p (by simpa using t)
    exact⟨by omega,this.2⟩) (by rw[d,show a+1+r.length=a+(r.length+1) from by omega];exact hs)
   refine⟨us,by rw[l,n],by rw[o,d],?_⟩
   rw[G0i,show a+(r.length+1)=a+1+r.length from by omega,q,G4m,<-G0e]
   congr 1
   refine G4n λk=>?_
   have u:v.cells.toList.length=sz:=by simpa using b
   have x:(cs.toList.take (a * sz)).length=a * sz:=by rw[G1v,G2h];omega
   rw[G2a]
   by_cases hk:k<(a+1) * sz
   ·rw[if_pos hk,G2j,g k]
    rw[G5k]at hk
    by_cases A:a * sz<=k
    ·rw[if_pos ⟨by omega,by omega⟩,G0w (by omega),x]
     congr 1
    rw[if_neg (by omega),G0q (by omega),G2a,if_pos (by omega),G2j]
   rw[if_neg hk]
   rw[G5k]at hk
   have C:((a,v).snd.cells.toList).length=sz:=u
   rw[G2c (by rw[G0g];omega)]
theorem J4v(d:OInv E γ H Φ w){v:Value}{a:AV}{p:PV}(h:ARel γ H Φ w v a)(b:Z0i H a=some p):Rep Φ w v p:=by
 cases a with
 | agg vs=>
   simp only[Z0i]at b
   obtain⟨ps,r,rfl⟩:=G0k.1 b
   obtain⟨y,g⟩:=Z1p r
   cases h with
   | agg ws vs z t i=>
     refine .agg ws ps (by omega) (λc e=>?_) (λk u c x e=>?_)
     ·obtain⟨k,hk,rfl⟩:=G3f e
      have j:vs[k]?=some (vs[k]'(by omega)):=G0f (by omega)
      have m:ws[k]?=some (ws[k]'(by omega)):=G0f (by omega)
      have f:=Q2b d (i k _ _ m j) (g k _ _ j (G0f hk))
      have o:=t _ (G1o m)
      generalize ws[k]=u at f o
      generalize ps[k]=q at f
      cases f<;>first|rfl|(simp[Value.oneCell']at o)
     have hk:k<vs.length:=by
      have:=(G0j.1 e).1
      omega
     exact Q2b d (i k u _ x (G0f hk)) (g k _ c (G0f hk) e)
 | vec l n=>exact Q2b d h b
 | pv q=>exact Q2b d h b
 | nils=>exact Q2b d h b
 | full xs=>exact Q2b d h b
 | _=>simp[Z0i]at b
theorem Q9a(o:OInv E γ H Φ w)(sz:Nat):∀ (Q0l:List (Nat×AV)) (vparts:List (Nat×Value)) (i:Nat) (xs:List PV),vparts.length=Q0l.length->
 (∀ (j:Nat) (p:Nat×AV) (q:Nat×Value),Q0l[j]?=some p->vparts[j]?=some q->q.1=p.1/\ARel γ H Φ w q.2 p.2)->Q9b H sz i Q0l=some xs->
 xs.length=Q0l.length/\(∀x∈xs,x.cells.length=sz)/\(∀ (j:Nat) p,vparts[j]?=some p->p.1=i+j/\p.2.cells.size=sz)/\Q1f Φ w (vparts.flatMap λp=>p.2.cells.toList) (flat xs)
 | [],vparts,i,xs,e,_,h=>by
   simp only[Q9b,G0c]at h
   subst h
   cases vparts with
   | nil=>exact⟨rfl,λx f=>(by cases f),λj p l=>(by simp at l),⟨rfl,λc d=>(by simp[Q4h]at d),λk v c A _=>(by simp at A)⟩⟩
   | cons a b=>simp at e
 | (j,v)::Q0l,[],i,xs,e,_,_=>by simp at e
 | (j,v)::Q0l,(r,v')::vparts,i,xs,e,t,h=>by
   simp only[Q9b]at h
   split at h
   ·rename_i C
    subst C
    split at h
    ·rename_i p l
     split at h
     ·rename_i y
      obtain⟨ys,D,rfl⟩:=G0k.1 h
      obtain⟨z,F⟩:=t 0 (i,v) (r,v') rfl rfl
      simp only at z
      subst z
      obtain⟨I,J,K,m⟩:=Q9a o sz Q0l vparts (r+1) ys (by simpa using e) (λj a b L hb=>t (j+1) a b (by simpa using L) (by simpa using hb)) D
      obtain⟨n,c2,M⟩:=Q7d (J4v o F l)
      refine⟨by simp[I],λx f=>?_,λk q hq=>?_,⟨?_,λc d=>?_,λk u c g d=>?_⟩⟩
      ·rcases G1j.1 f with rfl|f
       ·exact y
       exact J x f
      ·cases k with
       | zero=>
         simp only[G0s,G0c]at hq
         subst hq
         exact⟨rfl,by rw[<-y,<-n];simp⟩
       | succ k=>
         have:=K k q (by simpa using hq)
         exact⟨by omega,this.2⟩
      ·rw[G4m,Q3q,G0g,G0g,n,m.1]
      ·rw[Q3q]at d
       rcases G2z.1 d with d|d
       ·exact c2 c d
       exact m.2.1 c d
      rw[G4m]at g
      rw[Q3q]at d
      by_cases hk:k<p.cells.length
      ·rw[G0q (by omega)]at g
       rw[G0q hk]at d
       exact M k u c g d
      rw[G0w (by omega)]at g
      rw[G0w (by omega)]at d
      exact m.2.2 _ u c (by rw[<-n];exact g) d
     cases h
    cases h
   cases h
theorem J8d(a:OInv E γ H Φ w)(cs:Array Value)(e:TypeId)(n:Nat):
 Ok E γ H Φ w γ H (λb k=>Φ b k\/(b=w.heap.size/\k<n)) (w.alloc (.cells cs e)):=by
 refine a.grow (λb hb=>Q2s _ b hb) (by simp) rfl rfl rfl (λ_ _ h=>.inl h) (λb k h hb=>?_) (λb k h=>?_)
 ·rcases h with h|⟨rfl,_⟩
  ·exact h
  omega
 rcases h with h|⟨rfl,_⟩
 ·exact G1m (a.phi b k h) (by simp)
 simp
theorem Z4c(m:OInv E γ H Φ w){t:TypeId}{len:Nat}{Q0l:List (Nat×AV)}{vparts:Array (Nat×Value)}(N:vparts.size=Q0l.length)
 (O:∀ (j:Nat) (p:Nat×AV) (q:Nat×Value),Q0l[j]?=some p->vparts[j]?=some q->q.1=p.1/\ARel γ H Φ w q.2 p.2) {r:AV} {H':List AObj} (h:Q3f E H t len Q0l=some (r,H')):
 ∃u w',(Instr.buildSlice t len vparts).run E.P w=.ok u w'/\Q8j E γ H Φ w r H' u w':=by
 unfold Q3f at h
 split at h
 ·rename_i e _ _ _ hT
  split at h
  ·rename_i a Q
   split at h
   ·rename_i l
    obtain⟨x,af,S,ag⟩:=l
    split at h
    ·rename_i xs T
     simp only[G0c,G1k]at h
     obtain⟨rfl,rfl⟩:=h
     obtain⟨d,hd,hk⟩:=(E.hT _ _ hT).und
     rw[Q4b hk]at hd
     obtain⟨i,d',y,A,_,ak,f,U⟩:=(E.hT _ _ Q).info
     obtain⟨z,V⟩:=G6q.1 S
     obtain⟨zv,W,al,am,_⟩:=U z V
     obtain⟨C,D,X,n⟩:=Q9a m a.size Q0l vparts.toList 0 xs (by simpa using N) (λj p q Y hq=>O j p q Y (by simpa using hq)) T
     have F:vparts.toList.length=len:=by rw[G2h];omega
     generalize g:(Array.range (len * a.size)).map ((if len * a.size=0 then #[]else zv.cells)[· % (if len * a.size=0 then #[]else zv.cells).size]!)=base
     have o:base.size=len * a.size:=by rw[<-g];simp
     obtain⟨us,I,J,K⟩:=J8v a.size vparts.toList 0 base X (by rw[F,o];simp)
     have L:us.toList=vparts.toList.flatMap λp=>p.2.cells.toList:=by
      rw[G3h,F,Nat.zero_mul,G6k,G0t,G5y (by simp[J,o])]at K
      exact K
     have aa:=Q0s D
     have ac:len<=maxLen:=by
      have:len<=len * a.size:=G5u _ (by omega)
      unfold maxLen
      omega
     refine⟨.slice (some ⟨w.heap.size,0,none⟩) len len,w.alloc (.cells us e),?_,γ,_,J8d m us e (len * a.size),.full _ _ _ (.slice w.heap.size 0 len len a.size xs (λk=>us.toList.getD k undef) (by omega) (G0r _) ac D n.2.1 (λk hk=>?_) (λk c l=>?_))⟩
     ·have ad:¬ len * i.size>2 ^ 24:=by rw[A];omega
      unfold Instr.buildSlice
      simp only[bind,G1n,G1c hd,G1b,Q1q y,ad,G2v]
      rw[A]
      have ae:(zeroValue e).run E.P w=.ok zv w:=by simp[zeroValue,typeInfo,y,W]
      by_cases M:len * a.size=0
      ·rw[if_pos M]at g |-
       simp only[G1n,G5l,G1b]
       rw[g,I]
       simp only[G1n,Q9x,G1b,G5l]
      rw[if_neg M]at g |-
      simp only[G1n,G5l,G1b,ae]
      rw[g,I]
      simp only[G1n,Q9x,G1b,G5l]
     ·rw[aa]at hk
      have f:k<us.toList.length:=by rw[G2h,J,o];rw[<-x,<-C];exact hk
      refine⟨.inr ⟨rfl,by rw[G3h,<-x,<-C];exact hk⟩,?_⟩
      rw[G3h,cell_of_row _ _ _ _ _ _ (G4r w (.cells us e)),G0y,G2j]
      rw[G2h]at f
      simp[G3i f]
     have hk:k<(flat xs).length:=(G0j.1 l).1
     have f:k<us.toList.length:=by rw[L,n.1];exact hk
     rw[G0y,G0f f]
     refine(n.2.2 k _ c ?_ l).mono (λ_ _ h=>.inl h) (λb k h=>cell_of_heap (Q2s _ b (m.phi b k h)))
     rw[<-L,G0f f]
     rfl
    cases h
   cases h
  cases h
 cases h
end
structure Grew(w w':World)(v v':Value):Prop where
 os:w'.os=w.os
 tape:w'.tape=w.tape
 output:w'.output=w.output
 size:w.heap.size<=w'.heap.size
 way:(v'.ownBlock=some w.heap.size/\w.heap.size<w'.heap.size/\∀b,b<w.heap.size->w'.heap[b]?=w.heap[b]?) \/
  (v'.ownBlock=v.ownBlock/\w'.heap.size=w.heap.size/\∀b,some b≠v.ownBlock->w'.heap[b]?=w.heap[b]?)
def Z4d(E:Env)(H:List AObj)(d:TypeId)(x y:AV):Option (AV×List AObj):=
 match E.T d with
 | some ⟨.slice e,_,_,_⟩=>match E.T e,toPV H y with
   | some a,some (.slice ys)=>
     if a.size≠0/\a.bytes≠0/\a.zero.isSome=true/\(ys.all λz=>z.cells.length==a.size)=true then
      match x with
      | .nils=>if ys.length * a.bytes<=140737488355328 then some (.vec H.length ys.length,H++[.row e a.size ys true])else none
      | .full xs=>if (xs.length+ys.length) * a.bytes<=140737488355328/\ys.isEmpty=false/\(xs.all λz=>z.cells.length==a.size)=true then
         some (.vec H.length (xs.length+ys.length),H++[.row e a.size (xs++ys) true])else none
      | .vec l n=>match H[l]? with
        | some (.row b sz xs fz)=>if n=xs.length/\b=e/\sz=a.size/\(xs.length+ys.length) * a.bytes<=140737488355328 then
           some (.vec l (xs.length+ys.length),H.set l (.row b sz (xs++ys) fz))else none
        | _=>none
      | _=>none
     else none
   | _,_=>none
 | _=>none
section
variable {P:Program}{w:World}
def Src(w:World)(size m:Nat)(v:Value)(b:List Value):Prop:=
 b.length=m * size/\(∀u∈b,u.oneCell'=true)/\((v=.slice none 0 0/\m=0)\/∃a c,v=.slice (some a) m c/\∀ (j:Nat) u,b[j]?=some u->w.cell? (a.add j)=some u)
theorem Z0w(t a e:TypeId)(i:TypeInfo)(b:P.underlying t=some (.slice e))(d:P.info? e=some i)(A:Option Addr)(n cap:Nat)(f:n<=cap):
 (Builtin.append_ #[t,t] a #[.slice A n cap,.slice none 0 0]).run P w=.ok (.slice A n cap) w:=by
 cases A<;>simp[Builtin.append_,G1c b,sizeOf,typeInfo,d,Builtin.lenOf,Builtin.firstCells,f,storeCells]
theorem Z2t(e:TypeId)(i:TypeInfo)(z:Value)(g:z.cells.size=i.size)(xs a:List Value)(n m old:Nat)(b:xs.length=n * i.size)(d:a.length=m * i.size)(j:n+m<=maxLen):
 (w.drew.alloc (.cells (xs.toArray++a.toArray++Builtin.zeroCells z.cells (grownCap w (n+m) old e-(n+m))) e)).ownsRow 0 e i.size
   (.slice (some ⟨w.heap.size,0,none⟩) (n+m) (grownCap w (n+m) old e)) (n+m) (xs++a):=by
 have f:(xs++a).length=(n+m) * i.size:=by rw[G0g,b,d,G8y]
 have l:=grownCap_ge w (n+m) old e
 refine⟨f,.inr ⟨w.heap.size,_,_,rfl,G1t _,G4r w.drew _,l,grownCap_le_maxLen w (n+m) old e j,?_,?_⟩⟩
 ·simp only[Array.size_append,G5q,size_zeroCells,g,b,d,<-G8y]
  congr 1
  omega
 simp only[Array.toList_append,G0e]
 rw[<-G0e,<-f]
 exact G7b
theorem Z0f(v:Value)(cs:Array Value)(e:TypeId)(n c:Nat):Grew w (w.drew.alloc (.cells cs e)) v (.slice (some ⟨w.heap.size,0,none⟩) n c):=
 ⟨rfl,rfl,rfl,by simp,.inl ⟨rfl,by simp,λb hb=>G7a w.drew _ b hb⟩⟩
theorem Z4f(t o e:TypeId)(i:TypeInfo)(z:Value)(p:P.underlying t=some (.slice e))(q:P.info? e=some i)(I:i.zero=some z)(J:z.cells.size=i.size)
 (v:Value) (n:Nat) (xs:List Value) (l:w.ownsRow 0 e i.size v n xs) (x:Value) (m:Nat) (d:List Value) (S:Src w i.size m x d)
 (A:n+m<=maxLen) (K:(n+m) * i.bytes<=140737488355328):
 ∃v' w',(Builtin.append_ #[t,t] o #[v,x]).run P w=.ok v' w'/\w'.ownsRow 0 e i.size v' (n+m) (xs++d)/\Grew w w' v v'/\(m=0->v'=v):=by
 obtain⟨f,T,C⟩:=S
 have ae:n+m<=9223372036854775807:=by unfold maxLen at A;omega
 rcases C with⟨rfl,rfl⟩|⟨a,c,rfl,D⟩
 ·have U:d=[]:=G0u (by simpa using f)
  subst U
  refine⟨v,w,?_,by simpa using l,⟨rfl,rfl,rfl,G0r _,.inr ⟨rfl,rfl,λ_ _=>rfl⟩⟩,λ_=>rfl⟩
  rcases l.2 with⟨rfl,rfl⟩|⟨g,cap,y,rfl,_,_,L,_⟩
  ·exact Z0w t o e i p q none 0 0 (G0r _)
  exact Z0w t o e i p q _ n cap L
 rcases l.2 with⟨rfl,rfl⟩|⟨g,cap,y,rfl,V,M,L,W,X,Y⟩
 ·have C:xs=[]:=G0u (by simpa using l.1)
  subst C
  by_cases N:m=0
  ·subst N
   have hn:d=[]:=G0u (by simpa using f)
   subst hn
   refine⟨.slice none 0 0,w,?_,G5b w 0 e i.size,⟨rfl,rfl,rfl,G0r _,.inr ⟨rfl,rfl,λ_ _=>rfl⟩⟩,λ_=>rfl⟩
   simp[Builtin.append_,G1c p,sizeOf,typeInfo,q,Builtin.lenOf,Builtin.firstCells,loadCells,loadCellsFrom]
  have r:=run_append_nil (P:=P) w t o e i z p q I a m c d f D (by omega) (by omega) (by have hb:=K;simp only[G3h]at hb;omega)
  have O:=Z2t (w:=w) e i z J [] d 0 m 0 (by simp) f A
  simp only[G3h,G0t,G7w]at O |-
  exact⟨_,_,r,O,Z0f _ _ _ _ _,λh=>absurd h N⟩
 by_cases F:n+m<=cap
 ·have ac:n * i.size+d.length<=y.size:=by rw[f,X,<-G8y];exact G3n _ F
  have r:=run_append_room (P:=P) w t o e i p q g n cap y M a m c d f D T F ac
  have Q:(xs++d).length=(n+m) * i.size:=by rw[G0g,l.1,f,G8y]
  refine⟨_,_,r,⟨Q,.inr ⟨g,cap,_,rfl,V,G8g w g y _ e _ M,F,W,?_,?_⟩⟩,⟨rfl,rfl,rfl,by simp,.inr ⟨rfl,by simp,λb hb=>G8m w g b _ (λe=>hb (by simp[Value.ownBlock,e]))⟩⟩,λh=>by rw[h];rfl⟩
  ·simp only[G5q,G0g,G1v,G1w,G2h]
   omega
  rw[Y,<-Q]
  exact G7b
 have ad:∀ (j:Nat) u,xs[j]?=some u->w.cell? ((⟨g,0,none⟩:Addr).add j)=some u:=l.cells (g:=g) rfl
 have r:=run_append_grow (P:=P) w t o e i z p q I ⟨g,0,none⟩ n cap xs l.1 ad a m c d f D (by omega) (by omega) (G7z (by omega) K)
 exact⟨_,_,r,Z2t e i z J xs d n m cap l.1 f A,Z0f _ _ _ _ _,λh=>by omega⟩
theorem J9h(t j e:TypeId)(i:TypeInfo)(z:Value)(r:P.underlying t=some (.slice e))(u:P.info? e=some i)(y:i.zero=some z)(C:z.cells.size=i.size)
 (v:Value) (n:Nat) (xs:List Value) (l:Src w i.size n v xs) (J:∃A,v=.slice A n n) (x:Value) (m:Nat) (f:List Value) (K:Src w i.size m x f) (O:0<m)
 (o:n+m<=maxLen) (D:(n+m) * i.bytes<=140737488355328):
 ∃v' w',(Builtin.append_ #[t,t] j #[v,x]).run P w=.ok v' w'/\w'.ownsRow 0 e i.size v' (n+m) (xs++f)/\Grew w w' (.slice none 0 0) v':=by
 obtain⟨g,Q,L⟩:=K
 obtain⟨p,_,M⟩:=l
 obtain⟨A,rfl⟩:=J
 have S:n+m<=9223372036854775807:=by unfold maxLen at o;omega
 rcases L with⟨_,rfl⟩|⟨a,c,rfl,F⟩
 ·omega
 rcases M with⟨d,rfl⟩|⟨b,c',d,N⟩
 ·injection d with d
  subst d
  have l:xs=[]:=G0u (by simpa using p)
  subst l
  have q:=run_append_nil (P:=P) w t j e i z r u y a m c f g F (by omega) (by omega) (by have hb:=D;simp only[G3h]at hb;omega)
  have I:=Z2t (w:=w) e i z C [] f 0 m 0 (by simp) g o
  simp only[G3h,G0t,G7w]at I |-
  exact⟨_,_,q,I,Z0f _ _ _ _ _⟩
 injection d with d
 subst d
 have q:=run_append_grow (P:=P) w t j e i z r u y b n n xs p N a m c f g F (by omega) (by omega) (G7z (by omega) D)
 exact⟨_,_,q,Z2t e i z C xs f n m n p g o,Z0f _ _ _ _ _⟩
end
end Go.Abs
