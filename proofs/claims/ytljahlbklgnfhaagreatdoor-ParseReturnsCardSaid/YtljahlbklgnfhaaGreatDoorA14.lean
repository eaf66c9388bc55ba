import Derived.Test.YtljahlbklgnfhaaGreatDoorA12
set_option linter.unusedVariables false
set_option linter.unusedSimpArgs false
set_option linter.defProp false
namespace Go.Abs
open Go.RowKit
section
variable {E:Env}{γ:List Gh}{H:List AObj}{Φ:Nat->Nat->Prop}{w:World}
theorem J0w{v:Value}{ys:List PV}{size:Nat}(h:Rep Φ w v (.slice ys))(hs:∀y∈ys,y.cells.length=size):∃f,Src w size ys.length v f/\Q1f Φ w f (flat ys):=by
 cases h with
 | sliceNil=>exact⟨[],⟨by simp,λu a=>(by cases a),.inl ⟨rfl,rfl⟩⟩,⟨rfl,λc d=>(by simp[Q4h]at d),λk v c e _=>(by simp at e)⟩⟩
 | sliceAny A cap p=>exact⟨[],⟨by simp,λu a=>(by cases a),.inr ⟨A,cap,rfl,λj u a=>(by simp at a)⟩⟩,⟨rfl,λc d=>(by simp[Q4h]at d),λk v c e _=>(by simp at e)⟩⟩
 | slice b o len cap sz xs vs q d p x g r i=>
   have t:=Q0s hs
   have l:∀k,k<(flat ys).length->((List.range (flat ys).length).map vs)[k]?=some (vs k):=λk hk=>by
    rw[G1i,G4f hk]
    rfl
   have m:((List.range (flat ys).length).map vs).length=(flat ys).length:=by simp
   refine⟨(List.range (flat ys).length).map vs,⟨by rw[m,t],λu a=>?_,.inr ⟨⟨b,o,none⟩,cap,by rw[q],λj u a=>?_⟩⟩,m,g,λk v c e d=>?_⟩
   ·obtain⟨k,hk,rfl⟩:=G3r.1 a
    have hk:k<(flat ys).length:=by simpa using hk
    exact(i k _ (G0f hk)).one (g _ (G4d hk))
   ·have n:j<(flat ys).length:=by
     have:=(G0j.1 a).1
     omega
    rw[l j n]at a
    simp only[G0c]at a
    rw[G5j,<-a]
    exact(r j n).2
   have hk:k<(flat ys).length:=(G0j.1 d).1
   rw[l k hk]at e
   simp only[G0c]at e
   rw[<-e]
   exact i k c d
theorem Q5w{vs us:List Value}{cs ds:List PV}(h:Q1f Φ w vs cs)(k:Q1f Φ w us ds):Q1f Φ w (vs++us) (cs++ds):=by
 refine⟨by rw[G0g,G0g,h.1,k.1],λc a=>?_,λi v c b a=>?_⟩
 ·rcases G2z.1 a with a|a
  ·exact h.2.1 c a
  exact k.2.1 c a
 by_cases d:i<cs.length
 ·rw[G0q (by rw[h.1];exact d)]at b
  rw[G0q d]at a
  exact h.2.2 i v c b a
 rw[G0w (by rw[h.1];omega)]at b
 rw[G0w (by omega)]at a
 exact k.2.2 _ v c (by rw[<-h.1];exact b) a
theorem J3w{Φ':Nat->Nat->Prop}{w':World}{vs:List Value}{cs:List PV}(h:Q1f Φ w vs cs)(a:∀b k,Φ b k->Φ' b k)(d:∀b k,Φ b k->w'.cell? ⟨b,k,none⟩=w.cell? ⟨b,k,none⟩):
 Q1f Φ' w' vs cs:=⟨h.1,h.2.1,λk v c e f=>(h.2.2 k v c e f).mono a d⟩
theorem J5u{e:TypeId}{sz n:Nat}{v:Value}{cells:List Value}(h:w.ownsRow 0 e sz v n cells){b:Nat}(hb:v.ownBlock=some b){k:Nat}(hk:k<n * sz):w.cell? ⟨b,k,none⟩=cells[k]?:=by
 have a:k<cells.length:=by rw[h.1];exact hk
 have:=h.cells hb k cells[k] (G0f a)
 rw[G5j,G3h]at this
 rw[this,G0f a]
theorem Q5b{e:TypeId}{sz n:Nat}{v:Value}{cells:List Value}(h:w.ownsRow 0 e sz v n cells):∃A c,v=.slice A n c/\(0<n->∃b,A=some ⟨b,0,none⟩):=by
 rcases h.2 with⟨rfl,rfl⟩|⟨g,cap,cur,rfl,_⟩
 ·exact⟨none,0,rfl,λh=>absurd h (by omega)⟩
 exact⟨_,_,rfl,λ_=>⟨g,rfl⟩⟩
theorem Z3r(a:OInv E γ H Φ w){w':World}{v v':Value}{e:TypeId}{sz:Nat}{zs:List PV}{cells:List Value}(i:w'.ownsRow 0 e sz v' zs.length cells)(hG:Grew w w' v v')(j:v.ownBlock=none)
 (f:Q1f Φ w cells (flat zs)) (l:∀z∈zs,z.cells.length=sz) (m:0<sz) (fz:Bool):
 Q8j E γ H Φ w (.vec H.length zs.length) (H++[.row e sz zs fz]) v' w':=by
 have n:∀b,b<w.heap.size->w'.heap[b]?=w.heap[b]?:=by
  rcases hG.way with⟨_,_,h⟩|⟨_,_,h⟩
  ·exact h
  exact λb _=>h b (by rw[j];simp)
 have d:∀b,v'.ownBlock=some b->w.heap.size<=b/\b<w'.heap.size:=by
  intro b hb
  rcases hG.way with⟨h,x,_⟩|⟨h,_,_⟩
  ·rw[h]at hb
   injection hb with hb
   omega
  rw[h,j]at hb
  cases hb
 obtain⟨A,c,o,p⟩:=Q5b i
 have y:=Q0s l
 refine⟨γ++[⟨v',v'.ownBlock.toList⟩],λb k=>Φ b k\/(fz=true/\v'.ownBlock=some b/\k<zs.length * sz),a.pushObj n hG.size hG.os hG.tape hG.output (λ_ _ h=>.inl h) (λb k h hb=>?_) (λb k h=>?_) _ _ (λb hb=>?_) (λq=>?_),?_⟩
 ·rcases h with h|⟨_,h,_⟩
  ·exact h
  have:=(d b h).1
  omega
 ·rcases h with h|⟨_,h,_⟩
  ·exact G1m (a.phi b k h) hG.size
  exact(d b h).2
 ·exact d b (by simpa using hb)
 ·refine⟨cells,i,f.1,λk u c r t=>(f.2.2 k u c r t).mono (λ_ _ h=>.inl h) q.cell,l,f.2.1,rfl,m,λb hb k=>⟨λh=>?_,λg hk=>.inr ⟨g,hb,hk⟩⟩⟩
  rcases h with h|⟨g,_,hk⟩
  ·have C:=a.phi b k h
   have D:=(d b hb).1
   omega
  exact⟨g,hk⟩
 rw[o]
 refine .vec A _ _ c e sz zs.length (Q3l (fz:=fz) (by simp)) (G0r _) p (λ_=>?_)
 unfold gv
 rw[<-a.len]
 simp
theorem J3s(p:OInv E γ H Φ w){F t:TypeId}{v u:Value}{x y r:AV}{H':List AObj}(I:ARel γ H Φ w v x)(hy:ARel γ H Φ w u y)(h:Z4d E H F x y=some (r,H')):
 ∃v' w',(Builtin.append_ #[F,F] t #[v,u]).run E.P w=.ok v' w'/\Q8j E γ H Φ w r H' v' w':=by
 unfold Z4d at h
 split at h
 ·rename_i e _ _ _ hT
  split at h
  ·rename_i X ys az aA
   split at h
   ·rename_i hc
    obtain⟨bb,bc,aD,N⟩:=hc
    obtain⟨d,hd,hk⟩:=(E.hT _ _ hT).und
    rw[Q4b hk]at hd
    obtain⟨i,d',Y,C,aa,be,bf,hz⟩:=(E.hT _ _ az).info
    obtain⟨z,aF⟩:=G6q.1 aD
    obtain⟨zv,ac,aG,aH,_⟩:=hz z aF
    have ad:zv.cells.size=i.size:=by rw[C,<-aH,<-aG];simp
    have O:∀q∈ys,q.cells.length=i.size:=λq hq=>by
     have:=G0p.1 N q hq
     rw[C]
     simpa using this
    obtain⟨Q,ae,af⟩:=J0w (Q2b p hy aA) O
    have ag:∀n:Nat,n * X.bytes<=140737488355328->n<=maxLen:=λn D=>by
     have:n<=n * X.bytes:=G5u _ (by omega)
     unfold maxLen
     omega
    split at h
    ·split at h
     ·rename_i f
      simp only[G0c,G1k]at h
      obtain⟨rfl,rfl⟩:=h
      cases I with
      | nils=>
        obtain⟨v',w',J,j,hG,_⟩:=Z4f (P:=E.P) (w:=w) F t e i zv hd Y ac ad (.slice none 0 0) 0 [] (G5b w 0 e i.size) u ys.length Q ae (by rw[G3h];exact ag _ f) (by rw[G3h,aa];exact f)
        rw[G3h,G0t]at j
        refine⟨v',w',J,?_⟩
        rw[<-C]
        exact Z3r p j hG rfl af O (by omega) true
     cases h
    ·rename_i xs
     split at h
     ·rename_i f
      obtain⟨f,aI,aL⟩:=f
      simp only[G0c,G1k]at h
      obtain⟨rfl,rfl⟩:=h
      have S:∀q∈xs,q.cells.length=i.size:=λq hq=>by
       have:=G0p.1 aL q hq
       rw[C]
       simpa using this
      cases I with
      | full A n xs ao=>
        obtain⟨aM,aN,aO⟩:=J0w ao S
        have D:n=xs.length:=by
         cases ao with
         | sliceNil=>rfl
         | sliceAny A cap hm=>rfl
         | slice b o len cap sz xs vs hl _ _ _ _ _ _=>exact hl.symm
        subst D
        have aQ:0<ys.length:=by
         cases ys with
         | nil=>simp at aI
         | cons a b=>simp
        obtain⟨v',w',J,j,hG⟩:=J9h (P:=E.P) (w:=w) F t e i zv hd Y ac ad _ xs.length aM aN ⟨A,rfl⟩ u ys.length Q ae aQ (ag _ f) (by rw[aa];exact f)
        refine⟨v',w',J,?_⟩
        have m:(xs++ys).length=xs.length+ys.length:=G0g
        rw[<-C,<-m]
        rw[<-m]at j
        refine Z3r p j hG rfl ?_ (λq hq=>?_) (by omega) true
        ·rw[Q7y]
         exact Q5w aO af
        rcases G2z.1 hq with hq|hq
        ·exact S q hq
        exact O q hq
     cases h
    ·rename_i l n
     split at h
     ·rename_i e' sz xs fz T
      split at h
      ·rename_i f
       obtain⟨rfl,rfl,rfl,f⟩:=f
       simp only[G0c,G1k]at h
       obtain⟨rfl,rfl⟩:=h
       obtain⟨g,K,hO⟩:=p.gh T
       have bh:=hO
       obtain⟨cells,j,aS,aU,au,U,aV,h0,ah⟩:=hO
       have aX:v=g.v:=by
        cases I with
        | vec A l n cap e0 bk len0 aY D hA aZ=>
          have hre:=Q3l T
          rw[aY]at hre
          injection hre with hre
          injection hre with _ hre
          injection hre with _ a0
          have:=aZ a0
          simp only[gv,K,G1s,G0c]at this
          exact this.symm
       subst aX
       rw[<-C]at j au ah
       obtain⟨v',w',J,ak,hG,a1⟩:=Z4f (P:=E.P) (w:=w) F t e' i zv hd Y ac ad g.v xs.length cells j u ys.length Q ae (ag _ f) (by rw[aa];exact f)
       refine⟨v',w',J,?_⟩
       have m:(xs++ys).length=xs.length+ys.length:=G0g
       have S:∀q∈xs++ys,q.cells.length=i.size:=λq hq=>by
        rcases G2z.1 hq with hq|hq
        ·exact au q hq
        exact O q hq
       have V:∀b,b∈g.own↔g.v.ownBlock=some b:=λb=>by rw[aV];simp
       have W:∀b,v'.ownBlock=some b->(b∈g.own\/w.heap.size<=b)/\b<w'.heap.size:=by
        intro b hb
        rcases hG.way with⟨h,bl,_⟩|⟨h,hs,_⟩
        ·rw[h]at hb
         injection hb with hb
         exact⟨.inr (by omega),by omega⟩
        rw[h]at hb
        have:=(V b).2 hb
        exact⟨.inl this,G1m (p.own l g K b this).2 hG.size⟩
       have bm:xs.length * i.size<=(xs.length+ys.length) * i.size:=G3n _ (by omega)
       have a2:∀b k,Φ b k->b∈g.own->w'.cell? ⟨b,k,none⟩=w.cell? ⟨b,k,none⟩:=by
        intro b k a3 hb
        have al:=(V b).1 hb
        obtain⟨_,hk⟩:=(ah b al k).1 a3
        rcases hG.way with⟨_,_,L⟩|⟨a4,_,_⟩
        ·exact cell_of_heap (L b (p.own l g K b hb).2)
        rw[J5u ak (b:=b) (by rw[a4];exact al) (by omega),J5u j al hk,G0q (by rw[j.1];exact hk)]
       obtain⟨A,c,a5,hA⟩:=Q5b ak
       obtain⟨A0,c0,a6,_⟩:=Q5b j
       refine⟨γ.set l ⟨v',v'.ownBlock.toList⟩,λb k=>Φ b k\/(fz=true/\v'.ownBlock=some b/\k<(xs.length+ys.length) * i.size),p.setObj T K (λb hb D=>?_) hG.size hG.os hG.tape hG.output (λ_ _ h=>.inl h) (λb k h hb D=>?_) (λb k h=>?_) a2
        (λb hb=>W b (by simpa using hb)) (.inr ⟨A0,_,c0,a6⟩) (Q8p (by rw[m];omega) (λI=>a1 (by rw[m]at I;omega))) (λhE=>?_),?_⟩
       ·rcases hG.way with⟨_,_,L⟩|⟨_,_,L⟩
        ·exact L b hb
        exact L b (λhh=>D ((V b).2 hh.symm))
       ·rcases h with h|⟨_,h,_⟩
        ·exact h
        rcases(W b h).1 with U|U
        ·exact absurd U D
        omega
       ·rcases h with h|⟨_,h,_⟩
        ·exact G1m (p.phi b k h) hG.size
        exact(W b h).2
       ·have N:=Q5w (Φ:=Φ) (w:=w) ⟨aS,U,aU⟩ af
        rw[<-Q7y]at N
        have am:=J3w N (Φ':=λb k=>Φ b k\/(fz=true/\v'.ownBlock=some b/\k<(xs.length+ys.length) * i.size)) (λ_ _ h=>.inl h) hE.cell
        rw[<-C]
        refine⟨cells++Q,by rw[m];exact ak,am.1,am.2.2,S,am.2.1,rfl,by omega,λb hb k=>⟨λh=>?_,λM hk=>.inr ⟨M,hb,by rw[m]at hk;exact hk⟩⟩⟩
        rcases h with h|⟨M,_,hk⟩
        ·rcases(W b hb).1 with aw|aw
         ·obtain⟨M,hk⟩:=(ah b ((V b).1 aw) k).1 h
          exact⟨M,by rw[m];omega⟩
         have:=p.phi b k h
         omega
        exact⟨M,by rw[m];exact hk⟩
       rw[a5]
       have a9:l<H.length:=(G0j.1 T).1
       have ba:l<γ.length:=(G0j.1 K).1
       refine .vec A l _ c e' X.size (xs++ys).length (Q3l (fz:=fz) (by rw[G1u a9])) (by rw[m];exact G0r _) hA (λ_=>?_)
       unfold gv
       rw[G1u ba]
       simp
      cases h
     cases h
    cases h
   cases h
  cases h
 cases h
end
section
variable {E:Env}{γ γ':List Gh}{H H':List AObj}{Φ Φ':Nat->Nat->Prop}{w w':World}
theorem Ok.of(l:OInv E γ H Φ w)(S:Nat->Prop)(M:γ'.length=H'.length)(ag:γ.length<=γ'.length)(ah:∀i,γ.length<=i->S i)
 (same:∀i,¬ S i->γ'[i]?=γ[i]?/\H'[i]?=H[i]?)
 (T:Nat->Prop) (hT:∀b,T b↔∃ (i:Nat) (g:Gh),S i/\γ[i]?=some g/\b∈g.own)
 (C:∀b,b<w.heap.size->¬ T b->w'.heap[b]?=w.heap[b]?) (hs:w.heap.size<=w'.heap.size) (N:w'.os=w.os) (O:w'.tape=w.tape) (P:w'.output=w.output)
 (Q:∀b k,Φ b k->Φ' b k) (K:∀b k,Φ' b k->b<w.heap.size->¬ T b->Φ b k) (U:∀b k,Φ' b k->b<w'.heap.size)
 (V:∀b k,Φ b k->T b->w'.cell? ⟨b,k,none⟩=w.cell? ⟨b,k,none⟩)
 (D:∀ (i:Nat) g,S i->γ'[i]?=some g->∀b∈g.own,(T b\/w.heap.size<=b)/\b<w'.heap.size)
 (W:∀ (i j:Nat) t d,S i->S j->γ'[i]?=some t->γ'[j]?=some d->i≠j->∀b∈t.own,b∉d.own)
 (X:∀ (i:Nat) v,S i->gv γ i=some v->gv γ' i=some v\/∃A n c,v=.slice A n c)
 (Y:∀ (i:Nat) e sz n,S i->rowAt H i=some (e,sz,n)->∃F,rowAt H' i=some (e,sz,F)/\n<=F/\(n=F->gv γ' i=gv γ i))
 (hO:Evo γ H Φ w γ' H' Φ' w'->∀ (i:Nat) o g,S i->H'[i]?=some o->γ'[i]?=some g->ObjRel E γ' H' Φ' w' o g):Ok E γ H Φ w γ' H' Φ' w':=by
 have out:∀ (i:Nat) g,¬ S i->γ[i]?=some g->∀b∈g.own,¬ T b:=by
  intro i g a f b hb p
  obtain⟨j,d,m,q,r⟩:=(hT b).1 p
  exact l.disj i j g d f q (λe=>a (by rw[e];exact m)) b hb r
 have old:∀b,T b->E.gN<=b/\b<w.heap.size:=by
  intro b p
  obtain⟨j,d,m,q,r⟩:=(hT b).1 p
  exact l.own j d q b r
 have I:Evo γ H Φ w γ' H' Φ' w':=by
  refine⟨Q,λb k h=>?_,λi v h=>?_,λi e sz n h=>?_⟩
  ·by_cases hb:T b
   ·exact V b k h hb
   exact cell_of_heap (C b (l.phi b k h) hb)
  ·by_cases a:S i
   ·exact X i v a h
   refine .inl ?_
   unfold gv at h |-
   rw[(same i a).1]
   exact h
  by_cases a:S i
  ·exact Y i e sz n a h
  refine⟨n,?_,G0r _,λ_=>?_⟩
  ·unfold rowAt at h |-
   rw[(same i a).2]
   exact h
  unfold gv
  rw[(same i a).1]
 refine⟨⟨M,λi o g J f=>?_,λi j t d a m L b hb x=>?_,λi g f b hb=>?_,U,E.hG w w' l.gi (λb hb=>C b (G1m hb l.gn) (λp=>by have:=(old b p).1;omega)),G3c l.gn hs⟩,I,
  ⟨N,O,P,hs,λb hb u=>C b hb (λp=>?_),λb k h hb u=>K b k h hb (λp=>?_),λi g f b hb=>?_⟩⟩
 ·by_cases a:S i
  ·exact hO I i o g a J f
  obtain⟨e1,e2⟩:=same i a
  rw[e1]at f
  rw[e2]at J
  have u:=out i g a f
  exact(l.obj i o g J f).keep I (λb hb=>C b (l.own i g f b hb).2 (u b hb)) (λb hb k hk=>K b k hk (l.own i g f b hb).2 (u b hb))
 ·by_cases y:S i<;>by_cases z:S j
  ·exact W i j t d y z a m L b hb x
  ·rw[(same j z).1]at m
   rcases(D i t y a b hb).1 with h|h
   ·exact out j d z m b x h
   have:=(l.own j d m b x).2
   omega
  ·rw[(same i y).1]at a
   rcases(D j d z m b x).1 with h|h
   ·exact out i t y a b hb h
   have:=(l.own i t a b hb).2
   omega
  rw[(same i y).1]at a
  rw[(same j z).1]at m
  exact l.disj i j t d a m L b hb x
 ·by_cases a:S i
  ·obtain⟨h1,h2⟩:=D i g a f b hb
   refine⟨?_,h2⟩
   rcases h1 with h|h
   ·exact(old b h).1
   exact G3c l.gn h
  rw[(same i a).1]at f
  exact⟨(l.own i g f b hb).1,G1m (l.own i g f b hb).2 hs⟩
 ·obtain⟨j,d,_,q,r⟩:=(hT b).1 p
  exact u j d q r
 ·obtain⟨j,d,_,q,r⟩:=(hT b).1 p
  exact u j d q r
 by_cases a:S i
 ·rcases(D i g a f b hb).1 with h|h
  ·obtain⟨j,d,_,q,r⟩:=(hT b).1 h
   exact .inr ⟨j,d,q,r⟩
  exact .inl h
 rw[(same i a).1]at f
 exact .inr ⟨i,g,f,hb⟩
end
def one1:AV->Bool
 | .pv p=>p.one
 | .vec _ _|.ref _ _|.nils|.full _=>true
 | _=>false
theorem K3r{a:AV}(h:one1 a=true):a.isS=false:=by cases a<;>first|rfl|cases h
def J6l(E:Env)(H:List AObj)(a:TypeId)(p x:AV):Option (List AObj):=
 match E.T a with
 | none=>none
 | some ti=>match p with
   | .ref l o=>match H[l]? with
     | some (.var cs)=>match ti.k with
       | .strct _=>match x with
         | .pv (.agg ps)=>if ps.length=ti.size/\o+ti.size<=cs.length then some (H.set l (.var (cs.take o++ps.map AV.pv++cs.drop (o+ti.size))))else none
         | .agg us=>if us.length=ti.size/\o+ti.size<=cs.length/\noS us=true then some (H.set l (.var (cs.take o++us++cs.drop (o+ti.size))))else none
         | _=>none
       | .other=>none
       | _=>if o<cs.length/\one1 x=true/\ti.size=1 then some (H.set l (.var (cs.set o x)))else none
     | _=>none
   | .vptr l n i o=>match H[l]?,toPV H x with
     | some (.row e sz xs false),some q=>match xs[i]? with
       | some y=>if n=xs.length/\q.cells.length=ti.size then match y with
          | .agg cs=>if o+ti.size<=cs.length then some (H.set l (.row e sz (xs.set i (.agg (Q3c cs o q.cells))) false))else none
          | _=>if o=0/\ti.size=1/\q.one=true then some (H.set l (.row e sz (xs.set i q) false))else none
         else none
       | none=>none
     | _,_=>none
   | _=>none
section
variable {E:Env}{γ:List Gh}{H:List AObj}{Φ:Nat->Nat->Prop}{w:World}
theorem X4s{v:Value}{x:AV}(d:ARel γ H Φ w v x)(h:one1 x=true):v.oneCell'=true/\v.cells=#[v]:=by
 cases d with
 | @pv v p a=>
   have b:=a.one h
   refine⟨b,?_⟩
   cases a<;>first|rfl|(simp[Value.oneCell']at b)
 | vec=>exact⟨rfl,rfl⟩
 | ref=>exact⟨rfl,rfl⟩
 | selfp=>exact⟨rfl,rfl⟩
 | nils=>exact⟨rfl,rfl⟩
 | full=>exact⟨rfl,rfl⟩
 | any=>simp[one1]at h
 | ifc=>simp[one1]at h
 | pptr=>simp[one1]at h
 | vptr=>simp[one1]at h
 | tup=>simp[one1]at h
 | agg=>simp[one1]at h
 | fn=>simp[one1]at h
theorem Q6i{t:TypeId}{i:TypeInfo}(f:E.P.info? t=some i)(b o:Nat)(T:TypeId)(a:Array Value)(hb:w.heap[b]?=some (.cells a T (0,0)))(v:Value)(d:v.cells.size=i.size)
 (g:∀u∈v.cells.toList,u.oneCell'=true) (j:o+v.cells.size<=a.size):
 (Instr.storeAt t (.pointer (some ⟨b,o,none⟩)) v).run E.P w=.ok () (w.setRow b (a.toList.take o++v.cells.toList++a.toList.drop (o+v.cells.size)).toArray):=by
 have e:=run_storeCells_at E.P b o T v.cells.toList 0 a w hb (by simpa using j) g
 simp only[G3m,G2h]at e
 unfold Instr.storeAt storeVar
 simp only[bind,G1n,Instr.sureAddr,pure,G5t,G1b,Q1q f,d,ne_eq,G5a,G2v]
 rw[e]
 rw[<-d]
theorem Z7h(b c:Nat)(cs:Array Value)(h:c≠b):(w.setRow b cs).heap[c]?=w.heap[c]?:=G8m w b c cs h
theorem J6k(I:OInv E γ H Φ w){ty:TypeId}{a v:Value}{p x:AV}{H':List AObj}(ha:ARel γ H Φ w a p)(S:ARel γ H Φ w v x)(h:J6l E H ty p x=some H'):
 ∃w',(Instr.storeAt ty a v).run E.P w=.ok () w'/\∃γ' Φ',Ok E γ H Φ w γ' H' Φ' w':=by
 unfold J6l at h
 split at h
 ·cases h
 rename_i ti hT
 obtain⟨i,d,hi,J,_,hd,hk,_⟩:=(E.hT _ _ hT).info
 split at h
 ·rename_i l o
  split at h
  ·rename_i cs M
   obtain⟨g,N,b,T,vs,hv,ho,hb,hl,U,V⟩:=I.gh M
   have bd:a=.pointer (some ⟨b,o,none⟩):=by
    cases ha with
    | ref b' l off t=>
      simp only[gv,N,G1s,G0c]at t
      rw[hv]at t
      injection t with t
      injection t with t
      injection t with t
      rw[t]
   subst bd
   have bU:l<H.length:=(G0j.1 M).1
   have P:∀ (cs':List AV) (Q:List Value),Q.length=cs'.length->(∀ (k:Nat) u c,Q[k]?=some u->cs'[k]?=some c->u.oneCell'=true/\ARel γ H Φ w u c)->(∀c∈cs',c∈cs\/c.isS=false)->
    Ok E γ H Φ w (γ.set l g) (H.set l (.var cs')) Φ (w.setRow b ⟨Q⟩):=by
    intro cs' Q be aS bf
    have ag:=G8g w b ⟨vs⟩ ⟨Q⟩ T (0,0) hb
    refine I.setObj (o':=.var cs') (g':=g) M N (λc f aD=>Z7h b c _ (λe=>aD (by rw[ho,e];simp))) (by simp) rfl rfl rfl (λ_ _ h=>h) (λ_ _ h _ _=>h) (λc k h=>by simpa using I.phi c k h)
     (λc k aE f=>by rw[ho]at f;simp at f;subst f;exact absurd aE (V.1 k)) (λc f=>⟨.inl f,by simpa using(I.own l g N c f).2⟩) (.inl rfl) (λ_ _ _ h=>by cases h) (λhE=>⟨b,T,Q,hv,ho,ag,be,λk u c m f=>⟨(aS k u c m f).1,(aS k u c m f).2.mono hE⟩,V.1,λc f hs=>(bf c f).elim (λh=>V.2 c h hs) (λh=>by rw[h]at hs;cases hs)⟩)
   split at h
   ·split at h
    ·rename_i ps
     split at h
     ·rename_i f
      obtain⟨bg,aF⟩:=f
      simp only[G0c]at h
      subst h
      cases Q0p S with
      | agg us bV W X ak=>
        have r:(Value.agg ⟨us⟩).cells.size=i.size:=by simp[Value.cells];omega
        have C:=Q6i (E:=E) (w:=w) hi b o T ⟨vs⟩ hb (.agg ⟨us⟩) r (λu m=>by
         obtain⟨k,hk,Y⟩:=G3f m
         have bh:k<us.length:=by simpa[Value.cells]using hk
         have bi:us[k]=u:=by simpa[Value.cells]using Y
         rw[<-bi]
         exact(ak k us[k] (ps[k]'(by omega)) (G0f bh) (G0f (by omega))).one (X _ (G4d _))) (by rw[r,J];simp;omega)
        have K:(Value.agg ⟨us⟩).cells.size=ti.size:=by rw[r,J]
        rw[K]at C
        refine⟨_,C,_,_,P (cs.take o++ps.map AV.pv++cs.drop (o+ti.size)) (vs.take o++us++vs.drop (o+ti.size)) (by simp[hl,W]) (λk u c m f=>?_) (λc f=>by
         rcases G2z.1 f with f|f
         ·rcases G2z.1 f with f|f
          ·exact .inl (G4c f)
          obtain⟨q,_,rfl⟩:=G3r.1 f;exact .inr rfl
         exact .inl (G3u f))⟩
        have aG:(vs.take o).length=o:=by rw[G1v];omega
        have aH:(cs.take o).length=o:=by rw[G1v];omega
        by_cases aa:k<o
        ·rw[G0e,G0q (by omega),G2a,if_pos aa]at m f
         exact U k u c m f
        rw[G0e,G0w (by omega)]at m f
        rw[aG]at m
        rw[aH]at f
        by_cases ac:k-o<us.length
        ·rw[G0q ac]at m
         rw[G0q (by simp;omega),G1i]at f
         obtain⟨q,hq,rfl⟩:=G0k.1 f
         have aU:=ak (k-o) u q m hq
         exact⟨aU.one (X q (G1o hq)),.pv aU⟩
        rw[G0w (by omega),G2e]at m
        rw[G0w (by simp;omega),G2e,G1h]at f
        have aI:us.length=ps.length:=W
        exact U _ u c m (by rw[aI];exact f)
     cases h
    ·rename_i ps
     split at h
     ·rename_i f
      obtain⟨bg,aF,bj⟩:=f
      simp only[G0c]at h
      subst h
      cases S with
      | agg us _ W X ak=>
        have r:(Value.agg ⟨us⟩).cells.size=i.size:=by simp[Value.cells];omega
        have C:=Q6i (E:=E) (w:=w) hi b o T ⟨vs⟩ hb (.agg ⟨us⟩) r (λu m=>X u (by simpa[Value.cells]using m)) (by rw[r,J];simp;omega)
        have K:(Value.agg ⟨us⟩).cells.size=ti.size:=by rw[r,J]
        rw[K]at C
        refine⟨_,C,_,_,P (cs.take o++ps++cs.drop (o+ti.size)) (vs.take o++us++vs.drop (o+ti.size)) (by simp[hl,W]) (λk u c m f=>?_) (λc f=>by
         rcases G2z.1 f with f|f
         ·rcases G2z.1 f with f|f
          ·exact .inl (G4c f)
          exact .inr (J8c bj c f)
         exact .inl (G3u f))⟩
        have aG:(vs.take o).length=o:=by rw[G1v];omega
        have aH:(cs.take o).length=o:=by rw[G1v];omega
        by_cases aa:k<o
        ·rw[G0e,G0q (by omega),G2a,if_pos aa]at m f
         exact U k u c m f
        rw[G0e,G0w (by omega)]at m f
        rw[aG]at m
        rw[aH]at f
        by_cases ac:k-o<us.length
        ·rw[G0q ac]at m
         rw[G0q (by omega)]at f
         exact⟨X u (G1o m),ak (k-o) u c m f⟩
        rw[G0w (by omega),G2e]at m
        rw[G0w (by omega),G2e]at f
        have aI:us.length=ps.length:=W
        exact U _ u c m (by rw[aI];exact f)
     cases h
    cases h
   ·cases h
   rename_i k1 k2
   split at h
   ·rename_i f
    obtain⟨bX,L,hs1⟩:=f
    simp only[G0c]at h
    subst h
    obtain⟨aV,al⟩:=X4s S L
    have r:v.cells.size=i.size:=by rw[al,J,hs1];rfl
    have C:=Q6i (E:=E) (w:=w) hi b o T ⟨vs⟩ hb v r (λu m=>by rw[al]at m;simp at m;rw[m];exact aV) (by rw[al];simp;omega)
    have bk:((⟨vs⟩:Array Value).toList.take o++v.cells.toList++(⟨vs⟩:Array Value).toList.drop (o+v.cells.size)).toArray=⟨vs.set o v⟩:=by
     rw[al]
     show(vs.take o++[v]++vs.drop (o+1)).toArray=_
     rw[List.set_eq_take_append_cons_drop,if_pos (by omega)]
     simp
    rw[bk]at C
    refine⟨_,C,_,_,P (cs.set o x) (vs.set o v) (by simp[hl]) (λk u c m f=>?_) (λc f=>by
     rcases G4s f with f|rfl
     ·exact .inl f
     exact .inr (K3r L))⟩
    rcases Z3m m with⟨rfl,rfl,_⟩|⟨hk,bl⟩
    ·rw[G1u (by omega)]at f
     simp only[G0c]at f
     subst f
     exact⟨aV,S⟩
    rw[G2b (Ne.symm hk)]at f
    exact U k u c bl f
   cases h
  cases h
 ·rename_i l n j o
  split at h
  ·rename_i e sz xs q M hq
   split at h
   ·rename_i y hy
    split at h
    ·rename_i f
     obtain⟨V,aX⟩:=f
     subst V
     obtain⟨g,N,hO⟩:=I.gh M
     obtain⟨cells,bn,bY,bo,K,L,aY,h0,a0⟩:=hO
     have a3:=K y (G1o hy)
     have a4:j<xs.length:=(G0j.1 hy).1
     have bZ:j * sz+sz<=xs.length * sz:=by
      have:=G3n sz (show j+1<=xs.length from a4)
      rw[G5k]at this
      exact this
     have b0:=Q0s K
     cases ha with
     | vptr b oa l n i' off e0 b6 len0 bp b7 bq=>
       have hre:=Q3l M
       rw[bp]at hre
       injection hre with hre
       injection hre with b9 hre
       injection hre with br bt
       obtain⟨cap,t,a5⟩:=bq bt
       simp only[gv,N,G1s,G0c]at t
       rw[br]at a5
       subst a5
       rcases bn.2 with⟨cf,D⟩|⟨b',bu,F,ao,_,ag,aq,bv,ar,bw⟩
       ·omega
       have bx:b'=b:=by
        rw[ao]at t
        injection t with L h2 h3
        injection L with L
        injection L
       subst bx
       have bz:=Q2b I S hq
       obtain⟨a6,aL,a7⟩:=Q7d bz
       have r:v.cells.size=i.size:=by rw[J,<-aX,<-a6];simp
       have bA:∀k,¬ Φ b' k:=λk hk=>by
        have:=((a0 b' (by rw[ao];rfl)) k).1 hk
        simp at this
       have P:∀ (A:PV),o+ti.size<=sz->A.cells.length=sz->(∀c∈A.cells,c.one=true)->(∀k,A.cells[k]?=if o<=k/\k<o+ti.size then q.cells[k-o]? else y.cells[k]?)->
        ∃w',(Instr.storeAt ty (.pointer (some ⟨b',j * sz+o,none⟩)) v).run E.P w=.ok () w'/\∃γ' Φ',Ok E γ H Φ w γ' (H.set l (.row e sz (xs.set j A) false)) Φ' w':=by
        intro A aF bB bD au
        have bE:j * sz+o+v.cells.size<=F.size:=by
         rw[r,J,ar]
         have:=G3n sz aq
         omega
        have C:=Q6i (E:=E) (w:=w) hi b' (j * sz+o) e F ag v r (λu m=>by
         obtain⟨k,hk,Y⟩:=G3f m
         have bF:k<q.cells.length:=by rw[<-a6];exact hk
         exact(a7 k u q.cells[k] (by rw[G0f hk,Y]) (G0f bF)).one (aL _ (G4d _))) bE
        generalize a8:(F.toList.take (j * sz+o)++v.cells.toList++F.toList.drop (j * sz+o+v.cells.size)).toArray=cur' at C
        have bG:∀k,cur'[k]?=if j * sz+o<=k/\k<j * sz+o+ti.size then v.cells[k-(j * sz+o)]? else F[k]?:=by
         intro k
         have ht:(F.toList.take (j * sz+o)).length=j * sz+o:=by rw[G1v,G2h];omega
         have bI:v.cells.toList.length=ti.size:=by rw[G2h,r,J]
         rw[<-a8]
         simp only[List.getElem?_toArray]
         by_cases aa:k<j * sz+o
         ·rw[if_neg (by omega),G0e,G0q (by omega),G2a,if_pos aa,G2j]
         rw[G0e,G0w (by omega),ht]
         by_cases ac:k<j * sz+o+ti.size
         ·rw[if_pos ⟨by omega,ac⟩,G0q (by omega),G2j]
         rw[if_neg (by omega),G0w (by omega),G2e,G2j,r,J,bI]
         congr 1
         omega
        have aM:cur'.size=F.size:=by
         rw[<-a8]
         simp only[G5q,G0g,G1v,G1w,G2h]
         omega
        have bJ:=G8g w b' F cur' e (0,0) ag
        have ad:∀z∈xs.set j A,z.cells.length=sz:=λz D=>by
         rcases G4s D with D|rfl
         ·exact K z D
         exact bB
        have O:(xs.set j A).length=xs.length:=by simp
        have bK:(w.setRow b' cur').ownsRow 0 e sz g.v (xs.set j A).length (cur'.toList.take (xs.length * sz)):=by
         refine⟨?_,.inr ⟨b',bu,cur',by rw[O];exact ao,G1t _,bJ,by rw[O];exact aq,bv,by rw[aM,ar],by rw[O]⟩⟩
         rw[G1v,G2h (xs:=cur'),aM,ar,O]
         exact G6t (G3n _ aq)
        have bL:∀k,k<xs.length * sz->cells[k]?=F[k]?:=λk hk=>by
         rw[<-bw,G2a,if_pos hk,G2j]
        have a9:∀c,c∈g.own↔c=b':=λc=>by rw[aY,ao];simp[Value.ownBlock]
        refine⟨_,C,γ.set l g,Φ,I.setObj (g':=g) M N (λc f aD=>Z7h b' c _ (λe=>aD ((a9 c).2 e))) (by simp) rfl rfl rfl (λ_ _ h=>h) (λ_ _ h _ _=>h) (λc k h=>by simpa using I.phi c k h)
         (λc k aE f=>by rw[a9]at f;subst f;exact absurd aE (bA k)) (λc f=>⟨.inl f,by simpa using(I.own l g N c f).2⟩) (.inl rfl)
         (Q8p (by simp) (λ_=>rfl)) (λhE=>?_)⟩
        refine⟨cur'.toList.take (xs.length * sz),bK,?_,λk u c m f=>?_,ad,λc f=>?_,by rw[aY],h0,λc f k=>?_⟩
        ·rw[Q0s ad,O,G1v,G2h (xs:=cur'),aM,ar]
         exact G6t (G3n _ aq)
        ·have hk:k<xs.length * sz:=by
          have:=(G0j.1 f).1
          rw[Q0s ad,O]at this
          exact this
         rw[G2a,if_pos hk,G2j,bG k]at m
         have aN:k / sz<xs.length:=G7l (by rw[G7e];exact hk)
         have av:k / sz * sz+k % sz=k:=by rw[G7e];exact G8n k sz
         have aw:k % sz<sz:=G9e _ h0
         have hold:∀c,(flat xs)[k]?=some c->F[k]?=some u->Rep Φ (w.setRow b' cur') u c:=λc f m=>(bo k u c (by rw[bL k hk];exact m) f).mono (λ_ _ h=>h) hE.cell
         by_cases ae:k / sz=j
         ·have hf:(flat (xs.set j A))[k]?=A.cells[k % sz]?:=by
           have:=Q5v ad j (k % sz) A (by rw[G1u a4]) aw
           rw[<-ae,av]at this
           rw[ae]at this
           exact this
          rw[hf,au]at f
          have bM:j * sz+k % sz=k:=by rw[<-ae];exact av
          by_cases ba:o<=k % sz/\k % sz<o+ti.size
          ·rw[if_pos ba]at f
           rw[if_pos ⟨by omega,by omega⟩]at m
           rw[<-G2j]at m
           refine(a7 _ u c ?_ f).mono (λ_ _ h=>h) hE.cell
           rw[show k % sz-o=k-(j * sz+o) from by omega]
           exact m
          rw[if_neg ba]at f
          rw[if_neg (by omega)]at m
          refine hold c ?_ m
          rw[<-bM,Q5v K j _ y hy aw]
          exact f
         obtain⟨z,D⟩:∃z,xs[k / sz]?=some z:=⟨_,G0f aN⟩
         have hf:(flat (xs.set j A))[k]?=z.cells[k % sz]?:=by
          have:=Q5v ad (k / sz) (k % sz) z (by rw[G2b (λe=>ae e.symm)];exact D) aw
          rw[av]at this
          exact this
         rw[hf]at f
         have bN:¬ (j * sz+o<=k/\k<j * sz+o+ti.size):=by
          intro⟨a1,a2⟩
          apply ae
          have b1:k<(j+1) * sz:=by rw[G5k];omega
          have b2:j * sz<=k:=by omega
          exact Nat.div_eq_of_lt_le b2 b1
         rw[if_neg bN]at m
         refine hold c ?_ m
         have:=Q5v K (k / sz) (k % sz) z D aw
         rw[av]at this
         rw[this]
         exact f
        ·obtain⟨z,D,bb⟩:=G6m.1 f
         rcases G4s D with D|rfl
         ·exact L c (Z2u D bb)
         exact bD c bb
        rw[O]
        exact a0 c f k
       split at h
       ·rename_i cs
        split at h
        ·rename_i aF
         simp only[G0c]at h
         subst h
         have bQ:cs.length=sz:=a3
         exact P (.agg (Q3c cs o q.cells)) (by omega) (by show(Q3c cs o q.cells).length=sz;rw[X7s _ _ _ (by omega)];exact bQ) (λc f=>by
          obtain⟨k,hk,Y⟩:=G3f f
          have ay:(Q3c cs o q.cells)[k]?=some c:=by rw[<-Y];exact G0f hk
          rw[X1h _ _ _ _ (by omega)]at ay
          split at ay
          ·exact aL c (G1o ay)
          ·exact L c (Z2u (G1o hy) (G1o ay))) (λk=>by
          show(Q3c cs o q.cells)[k]?=_
          rw[X1h _ _ _ _ (by omega),aX]
          rfl)
        cases h
       rename_i bS
       split at h
       ·rename_i f
        obtain⟨rfl,hs1,aN⟩:=f
        simp only[G0c]at h
        subst h
        have au:y.cells=[y]:=by
         cases y with
         | agg cs=>exact absurd rfl (bS cs)
         | _=>rfl
        have bc:q.cells=[q]:=by
         cases q with
         | agg cs=>simp[PV.one]at aN
         | _=>rfl
        have bT:sz=1:=by rw[<-a3,au];rfl
        refine P q (by omega) (by rw[bc,bT];rfl) aL (λk=>?_)
        rw[bc,au,hs1]
        by_cases hk:k=0
        ·subst hk
         rfl
        rw[if_neg (by omega)]
        cases k with
        | zero=>exact absurd rfl hk
        | succ k=>rfl
       cases h
    cases h
   cases h
  cases h
 cases h
end
end Go.Abs
