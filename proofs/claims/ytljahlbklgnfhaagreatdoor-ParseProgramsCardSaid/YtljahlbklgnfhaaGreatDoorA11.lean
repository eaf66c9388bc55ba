import Derived.Test.YtljahlbklgnfhaaGreatDoorA9
import Derived.Laws.OwnMore
set_option linter.unusedVariables false
set_option linter.unusedSimpArgs false
set_option linter.defProp false
namespace Go.Abs
open Go.RowKit
structure Since(γ₀:List Gh)(Φ₀:Nat->Nat->Prop)(w₀:World)(γ:List Gh)(Φ:Nat->Nat->Prop)(w:World):Prop where
 os:w.os=w₀.os
 tape:w.tape=w₀.tape
 output:w.output=w₀.output
 size:w₀.heap.size<=w.heap.size
 foreign:∀b,b<w₀.heap.size->(∀ (i:Nat) g,γ₀[i]?=some g->b∉g.own)->w.heap[b]?=w₀.heap[b]?
 phi:∀b k,Φ b k->b<w₀.heap.size->(∀ (i:Nat) g,γ₀[i]?=some g->b∉g.own)->Φ₀ b k
 own:∀ (i:Nat) g,γ[i]?=some g->∀b∈g.own,w₀.heap.size<=b\/∃ (j:Nat) (g₀:Gh),γ₀[j]?=some g₀/\b∈g₀.own
theorem Since.refl(γ:List Gh)(Φ:Nat->Nat->Prop)(w:World):Since γ Φ w γ Φ w:=
 ⟨rfl,rfl,rfl,G0o _,λ_ _ _=>rfl,λ_ _ h _ _=>h,λi g a _ hb=>.inr ⟨i,g,a,hb⟩⟩
theorem Since.trans{γ₀ d m:List Gh}{Φ₀ n o:Nat->Nat->Prop}{w₀ p w₂:World}(h:Since γ₀ Φ₀ w₀ d n p)(k:Since d n p m o w₂):Since γ₀ Φ₀ w₀ m o w₂:=by
 have q:∀b,b<w₀.heap.size->(∀ (i:Nat) g,γ₀[i]?=some g->b∉g.own)->∀ (i:Nat) g,d[i]?=some g->b∉g.own:=by
  intro b hb a i g e f
  rcases h.own i g e b f with r|⟨j,s,l,t⟩
  ·omega
  exact a j s l t
 refine⟨k.os.trans h.os,k.tape.trans h.tape,k.output.trans h.output,G3u h.size k.size,λb hb a=>?_,λb i u hb a=>?_,λi g e b hb=>?_⟩
 ·exact(k.foreign b (G1f hb h.size) (q b hb a)).trans (h.foreign b hb a)
 ·exact h.phi b i (k.phi b i u (G1f hb h.size) (q b hb a)) hb a
 rcases k.own i g e b hb with r|⟨j,x,l,f⟩
 ·exact .inl (G3u h.size r)
 exact h.own j x l b f
structure Ok(E:Env)(γ₀:List Gh)(H₀:List AObj)(Φ₀:Nat->Nat->Prop)(w₀:World)(γ:List Gh)(H:List AObj)(Φ:Nat->Nat->Prop)(w:World):Prop where
 inv:OInv E γ H Φ w
 evo:Evo γ₀ H₀ Φ₀ w₀ γ H Φ w
 since:Since γ₀ Φ₀ w₀ γ Φ w
theorem Ok.refl{E:Env}{γ:List Gh}{H:List AObj}{Φ:Nat->Nat->Prop}{w:World}(h:OInv E γ H Φ w):Ok E γ H Φ w γ H Φ w:=⟨h,.refl _ _ _ _,.refl _ _ _⟩
theorem Ok.trans{E:Env}{γ₀ a b:List Gh}{H₀ H₁ H₂:List AObj}{Φ₀ d e:Nat->Nat->Prop}{w₀ f w₂:World}(h:Ok E γ₀ H₀ Φ₀ w₀ a H₁ d f)(k:Ok E a H₁ d f b H₂ e w₂):
 Ok E γ₀ H₀ Φ₀ w₀ b H₂ e w₂:=⟨k.inv,h.evo.trans k.evo,h.since.trans k.since⟩
section
variable {E:Env}{γ γ':List Gh}{H H':List AObj}{Φ Φ':Nat->Nat->Prop}{w w':World}
theorem cell_of_heap{b k:Nat}(h:w'.heap[b]?=w.heap[b]?):w'.cell? ⟨b,k,none⟩=w.cell? ⟨b,k,none⟩:=World.cell?_of_block (a:=⟨b,k,none⟩) h
theorem Q0w{e:TypeId}{sz n:Nat}{v:Value}{cells:List Value}(h:w.ownsRow 0 e sz v n cells)(hb:∀b,v.ownBlock=some b->w'.heap[b]?=w.heap[b]?):w'.ownsRow 0 e sz v n cells:=by
 refine⟨h.1,?_⟩
 rcases h.2 with a|⟨g,cap,d,rfl,f,i,rest⟩
 ·exact .inl a
 exact .inr ⟨g,cap,d,rfl,f,(hb g rfl).trans i,rest⟩
theorem Q9y.keep{e:TypeId}{sz:Nat}{xs:List PV}{fz:Bool}{g:Gh}(a:∀b k,Φ b k->Φ' b k)(j:∀b k,Φ b k->w'.cell? ⟨b,k,none⟩=w.cell? ⟨b,k,none⟩)(l:Q9y Φ w e sz xs fz g)(m:∀b∈g.own,w'.heap[b]?=w.heap[b]?)(n:∀b∈g.own,∀k,Φ' b k->Φ b k):
 Q9y Φ' w' e sz xs fz g:=by
 obtain⟨cells,o,p,q,r,s,d,t,f⟩:=l
 have i:∀b,g.v.ownBlock=some b->b∈g.own:=λb hb=>by rw[d,hb];simp
 exact⟨cells,Q0w o (λb hb=>m b (i b hb)),p,λk v c u x=>(q k v c u x).mono a j,r,s,d,t,λb hb k=>
  ⟨λhk=>(f b hb k).1 (n b (i b hb) k hk),λy hk=>a _ _ ((f b hb k).2 y hk)⟩⟩
theorem ObjRel.keep(t:Evo γ H Φ w γ' H' Φ' w'){o:AObj}{g:Gh}(D:ObjRel E γ H Φ w o g)(z:∀b∈g.own,w'.heap[b]?=w.heap[b]?)(A:∀b∈g.own,∀k,Φ' b k->Φ b k):
 ObjRel E γ' H' Φ' w' o g:=by
 cases o with
 | var cs=>
   obtain⟨b,T,vs,q,a,hb,hl,K,u⟩:=D
   exact⟨b,T,vs,q,a,(z b (by simp[a])).trans hb,hl,λk v c F W=>⟨(K k v c F W).1,(K k v c F W).2.mono t⟩,λk hk=>u.1 k (A b (by simp[a]) k hk),u.2⟩
 | row e sz xs fz=>
   obtain⟨cells,C,L,M,N,F,a,I,J⟩:=D
   have y:∀b,g.v.ownBlock=some b->b∈g.own:=λb hb=>by rw[a,hb];simp
   exact⟨cells,Q0w C (λb hb=>z b (y b hb)),L,λk v c q f=>(M k v c q f).mono t.phi t.cell,N,F,a,I,λb hb k=>
    ⟨λhk=>(J b hb k).1 (A b (y b hb) k hk),λhf hk=>t.phi _ _ ((J b hb k).2 hf hk)⟩⟩
 | map es=>
   obtain⟨b,ag,ah,q,a,hb,hs,K,u⟩:=D
   exact⟨b,ag,ah,q,a,(z b (by simp[a])).trans hb,hs,λk x p X J=>⟨(K k x p X J).1.mono t.phi t.cell,(K k x p X J).2.mono t.phi t.cell⟩,λk hk=>u k (A b (by simp[a]) k hk)⟩
 | bld s=>
   obtain⟨b,p,v,q,a,J,hb,C,aj,u,ak⟩:=D
   have y:∀c,v.ownBlock=some c->c∈g.own:=λc f=>by rw[a,f];simp
   exact⟨b,p,v,q,a,J,(z b (by simp[a])).trans hb,Q0w C (λc f=>z c (y c f)),aj,λk hk=>u k (A b (by simp[a]) k hk),λc f k hk=>ak c f k (A c (y c f) k hk)⟩
 | brow e s=>
   obtain⟨C,a,u⟩:=D
   have y:∀c,g.v.ownBlock=some c->c∈g.own:=λc f=>by rw[a,f];simp
   refine⟨⟨C.1,C.2.imp id λ⟨b,cap,P,fz,q,Q,hb,r⟩=>⟨b,cap,P,fz,q,Q,(z b (y b (by rw[q];rfl))).trans hb,r⟩⟩,a,λc f k hk=>u c f k (A c (y c f) k hk)⟩
 | prn e1 s e2 sz xs=>
   obtain⟨b,v0,v1,v2,q,a,S,hb,I,u,C,am,U⟩:=D
   have Y:b∈g.own:=by rw[a];simp
   have aa:∀c,v1.ownBlock=some c->c∈g.own:=λc f=>by rw[a,f];simp
   have ac:∀c,v2.ownBlock=some c->c∈g.own:=λc f=>by rw[a,f];simp
   refine⟨b,v0,v1,v2,q,a,S,(z b Y).trans hb,I,λk hk=>u k (A b Y k hk),⟨C.1,C.2.imp id λ⟨b,cap,P,fz,q,Q,hb,r⟩=>⟨b,cap,P,fz,q,Q,(z b (aa b (by rw[q];rfl))).trans hb,r⟩⟩,λc f k hk=>am c f k (A c (aa c f) k hk),?_⟩
   exact U.keep t.phi t.cell (λc f=>z c (ac c (by simpa using f))) (λc f=>A c (ac c (by simpa using f)))
 | iter s p=>
   obtain⟨b,q,a,hb,u⟩:=D
   exact⟨b,q,a,(z b (by simp[a])).trans hb,λk hk=>u k (A b (by simp[a]) k hk)⟩
 | tree e sz off e2 aA m xs=>
   obtain⟨cells,gs,C,L,N,F,I,V,u,ao,hm,a,S,M,ar⟩:=D
   have y:∀b,g.v.ownBlock=some b->b∈g.own:=λb hb=>by rw[a,hb];simp
   have ad:∀ (i:Nat) gi,gs[i]?=some gi->∀b∈gi.own,b∈g.own:=λi gi O b hb=>by
    rw[a]
    exact G5c _ (G4f.2 ⟨gi,G0r O,hb⟩)
   exact⟨cells,gs,Q0w C (λb hb=>z b (y b hb)),L,N,F,I,V,λb hb k hk=>u b hb k (A b (y b hb) k hk),ao,hm,a,S,
    λk v c q f hk=>(M k v c q f hk).mono t.phi t.cell,λi gi O=>by
     obtain⟨ys,hy,av,U⟩:=ar i gi O
     exact⟨ys,hy,av,U.keep t.phi t.cell (λb hb=>z b (ad i gi O b hb)) (λb hb=>A b (ad i gi O b hb))⟩⟩
 | hrow e sz xs j off l n=>
   obtain⟨cells,C,L,N,F,a,I,V,hj,u,M,hh⟩:=D
   have y:∀b,g.v.ownBlock=some b->b∈g.own:=λb hb=>by rw[a,hb];simp
   exact⟨cells,Q0w C (λb hb=>z b (y b hb)),L,N,F,a,I,V,hj,λb hb k hk=>u b hb k (A b (y b hb) k hk),
    λk v c q f hk=>(M k v c q f hk).mono t.phi t.cell,λv q=>(hh v q).mono t⟩
 | moved e sz n=>trivial
 | hold d=>exact D
 | gone=>trivial
theorem Q9t{g:Gh}{l:Nat}(h:l<γ.length):gv (γ++[g]) l=gv γ l:=by
 unfold gv
 rw[G0l h]
theorem Z2l{l:Nat}{v:Value}(h:gv γ l=some v):∃g,γ[l]?=some g/\g.v=v:=by
 unfold gv at h
 obtain⟨g,a,b⟩:=G0g.1 h
 exact⟨g,a,b⟩
theorem OInv.grow(a:OInv E γ H Φ w)(f:∀b,b<w.heap.size->w'.heap[b]?=w.heap[b]?)(hs:w.heap.size<=w'.heap.size)(p:w'.os=w.os)(q:w'.tape=w.tape)(r:w'.output=w.output)
 (s:∀b k,Φ b k->Φ' b k) (j:∀b k,Φ' b k->b<w.heap.size->Φ b k) (t:∀b k,Φ' b k->b<w'.heap.size):Ok E γ H Φ w γ H Φ' w':=by
 have m:Evo γ H Φ w γ H Φ' w':=⟨s,λb k h=>cell_of_heap (f b (a.phi b k h)),λ_ _ h=>.inl h,λl e sz n h=>⟨n,h,G0o _,λ_=>rfl⟩⟩
 refine⟨⟨a.len,λl o g u d=>?_,a.disj,λi g d b hb=>⟨(a.own i g d b hb).1,G1f (a.own i g d b hb).2 hs⟩,t,E.hG w w' a.gi (λb hb=>f b (G1f hb a.gn)),G3u a.gn hs⟩,m,
  ⟨p,q,r,hs,λb hb _=>f b hb,λb k h hb _=>j b k h hb,λi g d b hb=>.inr ⟨i,g,d,hb⟩⟩⟩
 exact(a.obj l o g u d).keep m (λb hb=>f b (a.own l g d b hb).2) (λb hb k hk=>j b k hk (a.own l g d b hb).2)
theorem OInv.pushObj(a:OInv E γ H Φ w)(q:∀b,b<w.heap.size->w'.heap[b]?=w.heap[b]?)(hs:w.heap.size<=w'.heap.size)(F:w'.os=w.os)(I:w'.tape=w.tape)(J:w'.output=w.output)
 (K:∀b k,Φ b k->Φ' b k) (A:∀b k,Φ' b k->b<w.heap.size->Φ b k) (L:∀b k,Φ' b k->b<w'.heap.size) (g:Gh) (o:AObj)
 (f:∀b∈g.own,w.heap.size<=b/\b<w'.heap.size) (M:Evo γ H Φ w (γ++[g]) (H++[o]) Φ' w'->ObjRel E (γ++[g]) (H++[o]) Φ' w' o g):Ok E γ H Φ w (γ++[g]) (H++[o]) Φ' w':=by
 have t:Evo γ H Φ w (γ++[g]) (H++[o]) Φ' w':=by
  refine⟨K,λb k h=>cell_of_heap (q b (a.phi b k h)),λl v h=>.inl ?_,λl e sz n h=>⟨n,?_,G0o _,λ_=>?_⟩⟩
  ·obtain⟨g',m,_⟩:=Z2l h
   rw[Q9t (G0f.1 m).1]
   exact h
  ·unfold rowAt
   rw[G0l (Q7d h)]
   exact h
  rw[Q9t (by rw[a.len];exact Q7d h)]
 have old:∀ (i:Nat) x,(γ++[g])[i]?=some x->(i<γ.length/\γ[i]?=some x)\/(i=γ.length/\x=g):=by
  intro i x d
  by_cases r:i<γ.length
  ·rw[G0l r]at d
   exact .inl ⟨r,d⟩
  rw[G0m (by omega)]at d
  have N:i-γ.length=0:=by
   have:=(G0f.1 d).1
   simp at this
   omega
  rw[N]at d
  simp only[G0n,G0b]at d
  exact .inr ⟨by omega,d.symm⟩
 refine⟨⟨by simp[a.len],λl o' g' p O=>?_,λi j gi u r P Q b hb=>?_,λi x d b hb=>?_,L,E.hG w w' a.gi (λb hb=>q b (G1f hb a.gn)),G3u a.gn hs⟩,t,
  ⟨F,I,J,hs,λb hb _=>q b hb,λb k h hb _=>A b k h hb,λi x d b hb=>?_⟩⟩
 ·rcases old l g' O with⟨y,m⟩|⟨y,rfl⟩
  ·rw[G0l (by rw[<-a.len];exact y)]at p
   exact(a.obj l o' g' p m).keep t (λb hb=>q b (a.own l g' m b hb).2) (λb hb k hk=>A b k hk (a.own l g' m b hb).2)
  rw[y,a.len,G0m (G0o _)]at p
  simp only[G6z,G0n,G0b]at p
  rw[<-p]
  exact M t
 ·rcases old i gi r with⟨S,C⟩|⟨S,rfl⟩<;>rcases old j u P with⟨T,D⟩|⟨T,rfl⟩
  ·exact a.disj i j gi u C D Q b hb
  ·intro z
   have U:=(a.own i gi C b hb).2
   have V:=(f b z).1
   omega
  ·intro z
   have U:=(a.own j u D b z).2
   have V:=(f b hb).1
   omega
  omega
 ·rcases old i x d with⟨_,s⟩|⟨_,rfl⟩
  ·exact⟨(a.own i x s b hb).1,G1f (a.own i x s b hb).2 hs⟩
  exact⟨G3u a.gn (f b hb).1,(f b hb).2⟩
 rcases old i x d with⟨_,s⟩|⟨_,rfl⟩
 ·exact .inr ⟨i,x,s,hb⟩
 exact .inl (f b hb).1
theorem Z2d{α:Type}{xs:List α}{l i:Nat}{x y:α}(h:(xs.set l x)[i]?=some y):(i=l/\y=x/\l<xs.length)\/(i≠l/\xs[i]?=some y):=by
 by_cases a:i=l
 ·subst a
  have b:i<xs.length:=by
   have:=(G0f.1 h).1
   simpa using this
  rw[G1c b]at h
  simp only[G0b]at h
  exact .inl ⟨rfl,h.symm,b⟩
 rw[G1e (Ne.symm a)]at h
 exact .inr ⟨a,h⟩
theorem Q8d{e:TypeId}{sz:Nat}{xs b:List PV}{fz i:Bool}{v v':Value}(j:xs.length<=b.length)(k:xs.length=b.length->v'=v):
 ∀d f a,Q1o (.row e sz xs fz)=some (d,f,a)->∃g,Q1o (.row e sz b i)=some (d,f,g)/\a<=g/\(a=g->v'=v):=by
 intro d f a h
 simp only[Q1o,G0b,G1d]at h
 obtain⟨rfl,rfl,rfl⟩:=h
 exact⟨_,rfl,j,k⟩
theorem OInv.setObj(a:OInv E γ H Φ w){l:Nat}{o o':AObj}{g g':Gh}(M:H[l]?=some o)(p:γ[l]?=some g)
 (t:∀b,b<w.heap.size->b∉g.own->w'.heap[b]?=w.heap[b]?) (hs:w.heap.size<=w'.heap.size) (Q:w'.os=w.os) (S:w'.tape=w.tape) (T:w'.output=w.output)
 (U:∀b k,Φ b k->Φ' b k) (N:∀b k,Φ' b k->b<w.heap.size->b∉g.own->Φ b k) (V:∀b k,Φ' b k->b<w'.heap.size)
 (W:∀b k,Φ b k->b∈g.own->w'.cell? ⟨b,k,none⟩=w.cell? ⟨b,k,none⟩)
 (r:∀b∈g'.own,(b∈g.own\/w.heap.size<=b)/\b<w'.heap.size) (X:g'.v=g.v\/∃A n c,g.v=.slice A n c)
 (hrow:∀e sz n,Q1o o=some (e,sz,n)->∃s,Q1o o'=some (e,sz,s)/\n<=s/\(n=s->g'.v=g.v))
 (Y:Evo γ H Φ w (γ.set l g') (H.set l o') Φ' w'->ObjRel E (γ.set l g') (H.set l o') Φ' w' o' g'):Ok E γ H Φ w (γ.set l g') (H.set l o') Φ' w':=by
 have aa:l<γ.length:=(G0f.1 p).1
 have O:l<H.length:=(G0f.1 M).1
 have D:∀i,gv (γ.set l g') i=if i=l then some g'.v else gv γ i:=by
  intro i
  unfold gv
  by_cases f:i=l
  ·subst f
   rw[if_pos rfl,G1c aa]
   rfl
  rw[if_neg f,G1e (Ne.symm f)]
 have P:gv γ l=some g.v:=by
  unfold gv
  rw[p]
  rfl
 have F:Evo γ H Φ w (γ.set l g') (H.set l o') Φ' w':=by
  refine⟨U,λb k h=>?_,λi v h=>?_,λi e sz n h=>?_⟩
  ·by_cases hb:b∈g.own
   ·exact W b k h hb
   exact cell_of_heap (t b (a.phi b k h) hb)
  ·rw[D i]
   by_cases f:i=l
   ·subst f
    rw[P]at h
    simp only[G0b]at h
    subst h
    rw[if_pos rfl]
    rcases X with d|d
    ·exact .inl (by rw[d])
    exact .inr d
   rw[if_neg f]
   exact .inl h
  by_cases f:i=l
  ·subst f
   unfold rowAt at h
   rw[M,G0a]at h
   obtain⟨s,d,h2,h3⟩:=hrow e sz n h
   refine⟨s,?_,h2,λm=>?_⟩
   ·unfold rowAt
    rw[G1c O,G0a,d]
   rw[D i,if_pos rfl,P,h3 m]
  refine⟨n,?_,G0o _,λ_=>?_⟩
  ·unfold rowAt
   rw[G1e (Ne.symm f)]
   exact h
  rw[D i,if_neg f]
 refine⟨⟨by simp[a.len],λi x y m hy=>?_,λi j gi I f hj u b hb=>?_,λi x m b hb=>?_,V,
  E.hG w w' a.gi (λb hb=>t b (G1f hb a.gn) (λq=>by have:=(a.own l g p b q).1;omega)),G3u a.gn hs⟩,F,
  ⟨Q,S,T,hs,λb hb J=>t b hb (J l g p),λb k h hb J=>N b k h hb (J l g p),λi x m b hb=>?_⟩⟩
 ·rcases Z2d hy with⟨rfl,rfl,_⟩|⟨f,z⟩
  ·rw[G1c O]at m
   simp only[G0b]at m
   subst m
   exact Y F
  rw[G1e (Ne.symm f)]at m
  have hd:∀b∈y.own,b∉g.own:=a.disj i l y g z p f
  exact(a.obj i x y m z).keep F (λb hb=>t b (a.own i y z b hb).2 (hd b hb)) (λb hb k hk=>N b k hk (a.own i y z b hb).2 (hd b hb))
 ·rcases Z2d f with⟨rfl,rfl,_⟩|⟨ag,K⟩<;>rcases Z2d hj with⟨rfl,rfl,_⟩|⟨ah,L⟩
  ·exact absurd rfl u
  ·intro q
   rcases(r b hb).1 with d|d
   ·exact a.disj i j g I p L u b d q
   have:=(a.own j I L b q).2
   omega
  ·intro q
   rcases(r b q).1 with d|d
   ·exact a.disj i j gi g K p u b hb d
   have:=(a.own i gi K b hb).2
   omega
  exact a.disj i j gi I K L u b hb
 ·rcases Z2d m with⟨rfl,rfl,_⟩|⟨f,C⟩
  ·refine⟨?_,(r b hb).2⟩
   rcases(r b hb).1 with d|d
   ·exact(a.own i g p b d).1
   exact G3u a.gn d
  exact⟨(a.own i x C b hb).1,G1f (a.own i x C b hb).2 hs⟩
 rcases Z2d m with⟨rfl,rfl,_⟩|⟨f,C⟩
 ·rcases(r b hb).1 with d|d
  ·exact .inr ⟨i,g,p,d⟩
  exact .inl d
 exact .inr ⟨i,x,C,hb⟩
end
end Go.Abs
namespace Go.Abs
open Go.RowKit
def zAV:PV->AV
 | .slice []=>.nils
 | p=>.pv p
def J3d(E:Env)(H:List AObj)(a:TypeId):Option (AV×List AObj):=
 if E.bT=some a then some (.ref H.length 0,H++[.bld []])
 else if E.pT=some a then some (.ref H.length 0,H++[.prn E.pe1 [] E.pe2 E.psz []])
 else match E.T a with
  | some ti=>match ti.zero with
    | some z=>some (.ref H.length 0,H++[.var (z.map zAV)])
    | none=>none
  | none=>none
def ebox(H:List AObj)(x:AV):Option (AV×List AObj):=
 match x with
 | .pv p=>some (.ref H.length 0,H++[.var (p.cells.map AV.pv)])
 | .vec l n=>some (.ref H.length 0,H++[.var [.vec l n]])
 | .ref l o=>some (.ref H.length 0,H++[.var [.ref l o]])
 | .mref l=>some (.ref H.length 0,H++[.var [.mref l]])
 | .nils=>some (.ref H.length 0,H++[.var [.nils]])
 | .full xs=>some (.ref H.length 0,H++[.var [.full xs]])
 | .agg cs=>if noS cs=true then some (.ref H.length 0,H++[.var cs])else none
 | _=>none
def Q6c(H:List AObj):List AV->Option (List PV)
 | []=>some []
 | a::r=>match toPV H a,Q6c H r with
   | some p,some s=>some (p::s)
   | _,_=>none
theorem Z0n{H:List AObj}:∀ {az:List AV} {ps:List PV},Q6c H az=some ps->az.length=ps.length/\∀ (i:Nat) a p,az[i]?=some a->ps[i]?=some p->toPV H a=some p
 | [],ps,h=>by
   simp only[Q6c,G0b]at h
   subst h
   exact⟨rfl,λi a p d=>by simp at d⟩
 | a::az,ps,h=>by
   simp only[Q6c]at h
   split at h
   ·rename_i p s e hs
    simp only[G0b]at h
    subst h
    obtain⟨f,g⟩:=Z0n hs
    refine⟨by simp[f],λi b q hb hq=>?_⟩
    cases i with
    | zero=>simp only[G0n,G0b]at hb hq;subst hb hq;exact e
    | succ i=>rw[G0y]at hb hq;exact g i b q hb hq
   cases h
def Q9o(H:List AObj):AV->Option PV
 | .pv p=>some p
 | .nils=>some (.slice [])
 | .full xs=>some (.slice xs)
 | .vec l n=>toPV H (.vec l n)
 | .agg vs=>(Q6c H vs).map PV.agg
 | _=>none
def Q8q(H:List AObj)(sz:Nat):Nat->List (Nat×AV)->Option (List PV)
 | _,[]=>some []
 | i,(j,v)::r=>if i=j then match Q9o H v with
    | some p=>if p.cells.length=sz then(Q8q H sz (i+1) r).map (p::·)else none
    | none=>none
   else none
def Q2y(E:Env)(H:List AObj)(d:TypeId)(len:Nat)(b:List (Nat×AV)):Option (AV×List AObj):=
 match E.T d with
 | some ⟨.slice e,_,_,_⟩=>match E.T e with
   | some a=>if b.length=len/\len * a.size<=16777216/\a.zero.isSome=true/\a.size≠0 then match Q8q H a.size 0 b with
      | some xs=>some (.full xs,H)
      | none=>none
     else none
   | none=>none
 | _=>none
section
variable {E:Env}{γ:List Gh}{H:List AObj}{Φ:Nat->Nat->Prop}{w:World}
def Q7w(E:Env)(γ:List Gh)(H:List AObj)(Φ:Nat->Nat->Prop)(w:World)(r:AV)(H':List AObj)(u:Value)(w':World):Prop:=
 ∃γ' Φ',Ok E γ H Φ w γ' H' Φ' w'/\ARel γ' H' Φ' w' u r
theorem Q2q(o:Obj)(b:Nat)(hb:b<w.heap.size):(w.alloc o).heap[b]?=w.heap[b]?:=heap_alloc_old w o b hb
theorem X0g(p:PV):(zAV p).isS=false:=by unfold zAV;split<;>rfl
theorem J3u{v:Value}{p:PV}(h:Zero1 v p){γ:List Gh}{H:List AObj}{Φ:Nat->Nat->Prop}{w:World}:ARel γ H Φ w v (zAV p):=by
 unfold zAV
 split
 ·rw[h.2.2 rfl]
  exact .nils
 exact .pv (h.2.1 Φ w)
theorem Q5u(a:OInv E γ H Φ w)(t:TypeId)(vs:List Value)(cs:List AV)(g:vs.length=cs.length)
 (e:∀ (k:Nat) v c,vs[k]?=some v->cs[k]?=some c->v.oneCell'=true/\∀γ' H' Φ' w',Evo γ H Φ w γ' H' Φ' w'->ARel γ' H' Φ' w' v c) (i:∀c∈cs,c.isS=false):
 Q7w E γ H Φ w (.ref H.length 0) (H++[.var cs]) (.pointer (some ⟨w.heap.size,0,none⟩)) (w.alloc (.cells ⟨vs⟩ t)):=by
 have j:(w.alloc (.cells ⟨vs⟩ t)).heap[w.heap.size]?=some (.cells ⟨vs⟩ t (0,0)):=heap_alloc_new w _
 refine⟨_,Φ,a.pushObj (λb hb=>Q2q _ b hb) (by simp) rfl rfl rfl (λ_ _ h=>h) (λ_ _ h _=>h) (λb k h=>G1f (a.phi b k h) (by simp)) ⟨.pointer (some ⟨w.heap.size,0,none⟩),[w.heap.size]⟩ (.var cs)
  (λb hb=>by simp at hb;subst hb;exact⟨G0o _,by simp⟩) (λl=>⟨w.heap.size,t,vs,rfl,rfl,j,g,λk v c f d=>⟨(e k v c f d).1,(e k v c f d).2 _ _ _ _ l⟩,λk hk=>?_,λc d hs=>by rw[i c d]at hs;cases hs⟩),.ref _ _ _ ?_⟩
 ·have:=a.phi _ k hk
  omega
 unfold gv
 rw[<-a.len]
 simp
theorem J3c(f:OInv E γ H Φ w){a:TypeId}{r:AV}{H':List AObj}(h:J3d E H a=some (r,H')):
 ∃u w',(Instr.alloc a true (.tuple #[])).run E.P w=.ok u w'/\Q7w E γ H Φ w r H' u w':=by
 unfold J3d at h
 split at h
 ·rename_i j
  simp only[G0b,G1d]at h
  obtain⟨rfl,rfl⟩:=h
  have g:=E.hbT a j w
  have l:(w.alloc (.cells #[.pointer none,.slice none 0 0] a)).heap[w.heap.size]?=some (.cells #[.pointer none,.slice none 0 0] a (0,0)):=heap_alloc_new w _
  refine⟨.pointer (some ⟨w.heap.size,0,none⟩),w.alloc (.cells #[.pointer none,.slice none 0 0] a),?_,_,Φ,
   f.pushObj (λb hb=>Q2q _ b hb) (by simp) rfl rfl rfl (λ_ _ h=>h) (λ_ _ h _=>h) (λb k h=>G1f (f.phi b k h) (by simp)) ⟨.pointer (some ⟨w.heap.size,0,none⟩),[w.heap.size]⟩ (.bld [])
    (λb hb=>by simp at hb;subst hb;exact⟨G0o _,by simp⟩) (λo=>⟨w.heap.size,.pointer none,.slice none 0 0,rfl,rfl,.inl rfl,by rw[j];exact l,World.ownsRow_nil _ _ _ _,by simp[Value.ownBlock],λk hk=>?_,λc e=>by simp[Value.ownBlock]at e⟩),.ref _ _ _ ?_⟩
  ·simp[Instr.alloc,g,newVar,newRow,Value.cells]
  ·have:=f.phi _ k hk
   omega
  unfold gv
  rw[<-f.len]
  simp
 split at h
 ·rename_i j
  simp only[G0b,G1d]at h
  obtain⟨rfl,rfl⟩:=h
  have g:=E.hpT a j w
  have l:(w.alloc (.cells #[.pointer none,.slice none 0 0,.slice none 0 0] a)).heap[w.heap.size]?=some (.cells #[.pointer none,.slice none 0 0,.slice none 0 0] a (0,0)):=heap_alloc_new w _
  refine⟨.pointer (some ⟨w.heap.size,0,none⟩),w.alloc (.cells #[.pointer none,.slice none 0 0,.slice none 0 0] a),?_,_,Φ,
   f.pushObj (λb hb=>Q2q _ b hb) (by simp) rfl rfl rfl (λ_ _ h=>h) (λ_ _ h _=>h) (λb k h=>G1f (f.phi b k h) (by simp)) ⟨.pointer (some ⟨w.heap.size,0,none⟩),[w.heap.size]⟩ (.prn E.pe1 [] E.pe2 E.psz [])
    (λb hb=>by simp at hb;subst hb;exact⟨G0o _,by simp⟩) (λo=>⟨w.heap.size,.pointer none,.slice none 0 0,.slice none 0 0,rfl,rfl,by simp,by rw[j];exact l,.inl rfl,λk hk=>?_,World.ownsRowF_nil _ _ _ _,λc e=>by simp[Value.ownBlock]at e,
      ⟨[],World.ownsRow_nil _ _ _ _,rfl,λk v c m _=>by simp at m,λz g=>(by cases g),λc e=>by simp[Q3y]at e,rfl,E.hpz,λb hb=>by cases hb⟩⟩),.ref _ _ _ ?_⟩
  ·simp[Instr.alloc,g,newVar,newRow,Value.cells]
  ·have:=f.phi _ k hk
   omega
  unfold gv
  rw[<-f.len]
  simp
 split at h
 ·rename_i ti hT
  split at h
  ·rename_i z g
   simp only[G0b,G1d]at h
   obtain⟨rfl,rfl⟩:=h
   obtain⟨i,d,q,hs,_,hd,hk,s⟩:=(E.hT _ _ hT).info
   obtain⟨zv,t,x,_,y,_⟩:=s z g
   have A:(zeroValue a).run E.P w=.ok zv w:=by simp[zeroValue,typeInfo,q,t]
   refine⟨_,_,?_,Q5u f a zv.cells.toList (z.map zAV) (by simpa using x) (λk v c m e=>?_) (λc e=>by obtain⟨p,_,rfl⟩:=G3i.1 e;exact X0g p)⟩
   ·simp[Instr.alloc,A,newVar,newRow]
   rw[G0x]at e
   obtain⟨p,C,rfl⟩:=G0g.1 e
   have n:=y k v p m C
   exact⟨(n.2.1 Φ w).one n.1,λ_ _ _ _ _=>J3u n⟩
  cases h
 cases h
theorem J7p{v:Value}{a:AV}(h:ARel γ H Φ w v a)(b:∀p,a≠.pv p)(d:∀vs,a≠.tup vs)(e:a≠.any)(f:∀vs,a≠.agg vs):v.oneCell'=true:=by
 cases h<;>first|rfl|exact absurd rfl (b _)|exact absurd rfl (d _)|exact absurd rfl e|exact absurd rfl (f _)
theorem J9t(l:OInv E γ H Φ w){e:TypeId}{v:Value}{x r:AV}{H':List AObj}(m:ARel γ H Φ w v x)(h:ebox H x=some (r,H')):
 ∃u w',(Instr.box e v).run E.P w=.ok u w'/\Q7w E γ H Φ w r H' u w':=by
 have n:(Instr.box e v).run E.P w=.ok (.pointer (some ⟨w.heap.size,0,none⟩)) (w.alloc (.cells v.cells e)):=by simp[Instr.box,newVar,newRow]
 have g:v.cells=#[v]->(∀p,x≠.pv p)->(∀vs,x≠.tup vs)->x≠.any->(∀vs,x≠.agg vs)->x.isS=false->some (AV.ref H.length 0,H++[.var [x]])=some (r,H')->∃u w',(Instr.box e v).run E.P w=.ok u w'/\Q7w E γ H Φ w r H' u w':=by
  intro d i z A C D t
  simp only[G0b,G1d]at t
  obtain⟨rfl,rfl⟩:=t
  refine⟨_,_,n,?_⟩
  rw[d]
  exact Q5u l e [v] [x] rfl (λk a c b j=>by
   match k,b,j with
   | 0,b,j=>
     simp at b j
     subst b j
     exact⟨J7p m i z A C,λ_ _ _ _ f=>m.mono f⟩
   | k+1,b,j=>simp at b) (λc d=>by rw[G4d.1 d];exact D)
 cases m with
 | @pv v p F=>
   simp only[ebox,G0b,G1d]at h
   obtain⟨rfl,rfl⟩:=h
   obtain⟨o,i,s⟩:=Q4x F
   refine⟨_,_,n,Q5u l e v.cells.toList (p.cells.map AV.pv) (by simpa using o) (λk a c b d=>?_) (λc d=>by obtain⟨q,_,rfl⟩:=G3i.1 d;rfl)⟩
   rw[G0x]at d
   obtain⟨q,hq,rfl⟩:=G0g.1 d
   have y:=s k a q b hq
   exact⟨y.one (i q (G0r hq)),λ_ _ _ _ f=>.pv (y.mono f.phi f.cell)⟩
 | vec=>exact g rfl (by simp) (by simp) (by simp) (by simp) rfl h
 | ref=>exact g rfl (by simp) (by simp) (by simp) (by simp) rfl h
 | mref=>exact g rfl (by simp) (by simp) (by simp) (by simp) rfl h
 | selfp=>simp[ebox]at h
 | nils=>exact g rfl (by simp) (by simp) (by simp) (by simp) rfl h
 | full=>exact g rfl (by simp) (by simp) (by simp) (by simp) rfl h
 | agg I vs o i s=>
   simp only[ebox]at h
   split at h
   ·rename_i J
    simp only[G0b,G1d]at h
    obtain⟨rfl,rfl⟩:=h
    exact⟨_,_,n,Q5u l e I vs o (λk a c b d=>⟨i a (G0r b),λ_ _ _ _ f=>(s k a c b d).mono f⟩) (J4p J)⟩
   cases h
 | any=>simp[ebox]at h
 | ifc=>simp[ebox]at h
 | pptr=>simp[ebox]at h
 | vptr=>simp[ebox]at h
 | tup=>simp[ebox]at h
 | fn=>simp[ebox]at h
theorem Q9d(e:TypeId)(cs:Array Value):(newRow e cs).run E.P w=.ok ⟨w.heap.size,0,none⟩ (w.alloc (.cells cs e)):=rfl
theorem J5c(sz:Nat):∀ (vparts:List (Nat×Value)) (i:Nat) (cs:Array Value),(∀ (j:Nat) p,vparts[j]?=some p->p.1=i+j/\p.2.cells.size=sz)->(i+vparts.length) * sz<=cs.size->
 ∃us,Instr.fill (λi=>some (i * sz,sz)) cs vparts=some us/\us.size=cs.size/\us.toList.take ((i+vparts.length) * sz)=cs.toList.take (i * sz)++vparts.flatMap λp=>p.2.cells.toList
 | [],i,cs,_,_=>⟨cs,rfl,rfl,by simp⟩
 | (i',v)::r,i,cs,d,hs=>by
   obtain⟨e,a⟩:=d 0 (i',v) rfl
   simp only[G2j]at e
   subst e
   have a:v.cells.size=sz:=a
   simp only[G0h]at hs
   have u:i' * sz+sz<=cs.size:=by
    have:=G2f sz (show i'+1<=i'+(r.length+1) from by omega)
    rw[G3j]at this
    omega
   obtain⟨b,f⟩:=Z4x (i' * sz) v.cells.toList 0 cs (by simp only[G1j];omega)
   have l:v.cells.zipIdx.foldl (λcs (c,j)=>cs.setIfInBounds (i' * sz+j) c) cs=(v.cells.toList.zipIdx 0).foldl (λcs (c,j)=>cs.setIfInBounds (i' * sz+j) c) cs:=by
    rw[<-G6l,G6i]
   have g:Instr.fill (λi=>some (i * sz,sz)) cs ((i',v)::r)=Instr.fill (λi=>some (i * sz,sz)) ((v.cells.toList.zipIdx 0).foldl (λcs (c,j)=>cs.setIfInBounds (i' * sz+j) c) cs) r:=by
    rw[<-l]
    simp only[Instr.fill]
    rw[if_neg]
    simp only[a,ne_eq,G3w,G6c,G1p,G0s]
    omega
   generalize x:(v.cells.toList.zipIdx 0).foldl (λcs (c,j)=>cs.setIfInBounds (i' * sz+j) c) cs=cs' at g b f
   obtain⟨us,m,n,o⟩:=J5c sz r (i'+1) cs' (λj p q=>by
    have:=d (j+1) p (by simpa using q)
    exact⟨by omega,this.2⟩) (by rw[b,show i'+1+r.length=i'+(r.length+1) from by omega];exact hs)
   refine⟨us,by rw[g,m],by rw[n,b],?_⟩
   rw[G0h,show i'+(r.length+1)=i'+1+r.length from by omega,o,G5g,<-G0z]
   congr 1
   refine G3x λk=>?_
   have s:v.cells.toList.length=sz:=by simpa using a
   have t:(cs.toList.take (i' * sz)).length=i' * sz:=by rw[G1h,G1j];omega
   rw[G1l]
   by_cases hk:k<(i'+1) * sz
   ·rw[if_pos hk,G1z,f k]
    rw[G3j]at hk
    by_cases y:i' * sz<=k
    ·rw[if_pos ⟨by omega,by omega⟩,G0m (by omega),t]
     congr 1
    rw[if_neg (by omega),G0l (by omega),G1l,if_pos (by omega),G1z]
   rw[if_neg hk]
   rw[G3j]at hk
   have z:((i',v).snd.cells.toList).length=sz:=s
   rw[G1a (by rw[G0i];omega)]
theorem J1q(d:OInv E γ H Φ w){v:Value}{a:AV}{p:PV}(h:ARel γ H Φ w v a)(b:Q9o H a=some p):Rep Φ w v p:=by
 cases a with
 | agg vs=>
   simp only[Q9o]at b
   obtain⟨ps,s,rfl⟩:=G0g.1 b
   obtain⟨y,i⟩:=Z0n s
   cases h with
   | agg e vs z t j=>
     refine .agg e ps (by omega) (λc f=>?_) (λk u c x f=>?_)
     ·obtain⟨k,hk,rfl⟩:=G2e f
      have m:vs[k]?=some (vs[k]'(by omega)):=G0c (by omega)
      have o:e[k]?=some (e[k]'(by omega)):=G0c (by omega)
      have g:=Q1q d (j k _ _ o m) (i k _ _ m (G0c hk))
      have r:=t _ (G0r o)
      generalize e[k]=u at g r
      generalize ps[k]=q at g
      cases g<;>first|rfl|(simp[Value.oneCell']at r)
     have hk:k<vs.length:=by
      have:=(G0f.1 f).1
      omega
     exact Q1q d (j k u _ x (G0c hk)) (i k _ c (G0c hk) f)
 | vec l n=>exact Q1q d h b
 | pv q=>exact Q1q d h b
 | nils=>exact Q1q d h b
 | full xs=>exact Q1q d h b
 | _=>simp[Q9o]at b
theorem Q8p(r:OInv E γ H Φ w)(sz:Nat):∀ (e:List (Nat×AV)) (vparts:List (Nat×Value)) (i:Nat) (xs:List PV),vparts.length=e.length->
 (∀ (j:Nat) (p:Nat×AV) (q:Nat×Value),e[j]?=some p->vparts[j]?=some q->q.1=p.1/\ARel γ H Φ w q.2 p.2)->Q8q H sz i e=some xs->
 xs.length=e.length/\(∀x∈xs,x.cells.length=sz)/\(∀ (j:Nat) p,vparts[j]?=some p->p.1=i+j/\p.2.cells.size=sz)/\Q1h Φ w (vparts.flatMap λp=>p.2.cells.toList) (flat xs)
 | [],vparts,i,xs,f,_,h=>by
   simp only[Q8q,G0b]at h
   subst h
   cases vparts with
   | nil=>exact⟨rfl,λx g=>(by cases g),λj p m=>(by simp at m),⟨rfl,λc d=>(by simp[Q3y]at d),λk v c z _=>(by simp at z)⟩⟩
   | cons a b=>simp at f
 | (j,v)::e,[],i,xs,f,_,_=>by simp at f
 | (j,v)::e,(j',v')::vparts,i,xs,f,s,h=>by
   simp only[Q8q]at h
   split at h
   ·rename_i A
    subst A
    split at h
    ·rename_i p m
     split at h
     ·rename_i t
      obtain⟨ys,C,rfl⟩:=G0g.1 h
      obtain⟨y,D⟩:=s 0 (i,v) (j',v') rfl rfl
      simp only at y
      subst y
      obtain⟨F,I,J,n⟩:=Q8p r sz e vparts (j'+1) ys (by simpa using f) (λj a b K hb=>s (j+1) a b (by simpa using K) (by simpa using hb)) C
      obtain⟨o,c2,c3⟩:=Q4x (J1q r D m)
      refine⟨by simp[F],λx g=>?_,λk q hq=>?_,⟨?_,λc d=>?_,λk u c l d=>?_⟩⟩
      ·rcases G1q.1 g with rfl|g
       ·exact t
       exact I x g
      ·cases k with
       | zero=>
         simp only[G0n,G0b]at hq
         subst hq
         exact⟨rfl,by rw[<-t,<-o];simp⟩
       | succ k=>
         have:=J k q (by simpa using hq)
         exact⟨by omega,this.2⟩
      ·rw[G5g,Q4e,G0i,G0i,o,n.1]
      ·rw[Q4e]at d
       rcases G2v.1 d with d|d
       ·exact c2 c d
       exact n.2.1 c d
      rw[G5g]at l
      rw[Q4e]at d
      by_cases hk:k<p.cells.length
      ·rw[G0l (by omega)]at l
       rw[G0l hk]at d
       exact c3 k u c l d
      rw[G0m (by omega)]at l
      rw[G0m (by omega)]at d
      exact n.2.2 _ u c (by rw[<-o];exact l) d
     cases h
    cases h
   cases h
theorem J4q(a:OInv E γ H Φ w)(cs:Array Value)(e:TypeId)(n:Nat):
 Ok E γ H Φ w γ H (λb k=>Φ b k\/(b=w.heap.size/\k<n)) (w.alloc (.cells cs e)):=by
 refine a.grow (λb hb=>Q2q _ b hb) (by simp) rfl rfl rfl (λ_ _ h=>.inl h) (λb k h hb=>?_) (λb k h=>?_)
 ·rcases h with h|⟨rfl,_⟩
  ·exact h
  omega
 rcases h with h|⟨rfl,_⟩
 ·exact G1f (a.phi b k h) (by simp)
 simp
theorem Z2o(n:OInv E γ H Φ w){t:TypeId}{len:Nat}{l:List (Nat×AV)}{vparts:Array (Nat×Value)}(N:vparts.size=l.length)
 (O:∀ (j:Nat) (p:Nat×AV) (q:Nat×Value),l[j]?=some p->vparts[j]?=some q->q.1=p.1/\ARel γ H Φ w q.2 p.2) {r:AV} {H':List AObj} (h:Q2y E H t len l=some (r,H')):
 ∃u w',(Instr.buildSlice t len vparts).run E.P w=.ok u w'/\Q7w E γ H Φ w r H' u w':=by
 unfold Q2y at h
 split at h
 ·rename_i e _ _ _ hT
  split at h
  ·rename_i a P
   split at h
   ·rename_i m
    obtain⟨x,ae,Q,af⟩:=m
    split at h
    ·rename_i xs S
     simp only[G0b,G1d]at h
     obtain⟨rfl,rfl⟩:=h
     obtain⟨d,hd,hk⟩:=(E.hT _ _ hT).und
     rw[Q3u hk]at hd
     obtain⟨i,d',y,A,_,ah,f,T⟩:=(E.hT _ _ P).info
     obtain⟨z,U⟩:=G5p.1 Q
     obtain⟨zv,V,aj,ak,_⟩:=T z U
     obtain⟨C,D,W,o⟩:=Q8p n a.size l vparts.toList 0 xs (by simpa using N) (λj p q X hq=>O j p q X (by simpa using hq)) S
     have F:vparts.toList.length=len:=by rw[G1j];omega
     generalize g:(Array.range (len * a.size)).map ((if len * a.size=0 then #[]else zv.cells)[· % (if len * a.size=0 then #[]else zv.cells).size]!)=base
     have s:base.size=len * a.size:=by rw[<-g];simp
     obtain⟨us,I,J,K⟩:=J5c a.size vparts.toList 0 base W (by rw[F,s];simp)
     have L:us.toList=vparts.toList.flatMap λp=>p.2.cells.toList:=by
      rw[G2y,F,Nat.zero_mul,G6q,G1y,G3v (by simp[J,s])]at K
      exact K
     have Y:=Q0j D
     have aa:len<=maxLen:=by
      have:len<=len * a.size:=G4v _ (by omega)
      unfold maxLen
      omega
     refine⟨.slice (some ⟨w.heap.size,0,none⟩) len len,w.alloc (.cells us e),?_,γ,_,J4q n us e (len * a.size),.full _ _ _ (.slice w.heap.size 0 len len a.size xs (λk=>us.toList.getD k undef) (by omega) (G0o _) aa D o.2.1 (λk hk=>?_) (λk c m=>?_))⟩
     ·have ac:¬ len * i.size>2 ^ 24:=by rw[A];omega
      unfold Instr.buildSlice
      simp only[bind,Sem.run_bind',run_underlying hd,Result.andThen_ok,Q1f y,ac,G2i]
      rw[A]
      have ad:(zeroValue e).run E.P w=.ok zv w:=by simp[zeroValue,typeInfo,y,V]
      by_cases M:len * a.size=0
      ·rw[if_pos M]at g |-
       simp only[Sem.run_bind',Sem.run_pure,Result.andThen_ok]
       rw[g,I]
       simp only[Sem.run_bind',Q9d,Result.andThen_ok,Sem.run_pure]
      rw[if_neg M]at g |-
      simp only[Sem.run_bind',Sem.run_pure,Result.andThen_ok,ad]
      rw[g,I]
      simp only[Sem.run_bind',Q9d,Result.andThen_ok,Sem.run_pure]
     ·rw[Y]at hk
      have f:k<us.toList.length:=by rw[G1j,J,s];rw[<-x,<-C];exact hk
      refine⟨.inr ⟨rfl,by rw[G2y,<-x,<-C];exact hk⟩,?_⟩
      rw[G2y,cell_of_row _ _ _ _ _ _ (heap_alloc_new w (.cells us e)),G0v,G1z]
      rw[G1j]at f
      simp[G2k f]
     have hk:k<(flat xs).length:=(G0f.1 m).1
     have f:k<us.toList.length:=by rw[L,o.1];exact hk
     rw[G0v,G0c f]
     refine(o.2.2 k _ c ?_ m).mono (λ_ _ h=>.inl h) (λb k h=>cell_of_heap (Q2q _ b (n.phi b k h)))
     rw[<-L,G0c f]
     rfl
    cases h
   cases h
  cases h
 cases h
end
end Go.Abs
