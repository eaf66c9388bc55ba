import Derived.Test.YtljahlbklgnfhaaGreatDoorA11
import Derived.Maps.AppendAt
set_option linter.unusedVariables false
set_option linter.unusedSimpArgs false
set_option linter.defProp false
namespace Go.Abs
open Go.RowKit
structure Grew(w w':World)(v v':Value):Prop where
 os:w'.os=w.os
 tape:w'.tape=w.tape
 output:w'.output=w.output
 size:w.heap.size<=w'.heap.size
 way:(v'.ownBlock=some w.heap.size/\w.heap.size<w'.heap.size/\∀b,b<w.heap.size->w'.heap[b]?=w.heap[b]?) \/
  (v'.ownBlock=v.ownBlock/\w'.heap.size=w.heap.size/\∀b,some b≠v.ownBlock->w'.heap[b]?=w.heap[b]?)
def Z2p(E:Env)(H:List AObj)(d:TypeId)(x y:AV):Option (AV×List AObj):=
 match E.T d with
 | some ⟨.slice e,_,_,_⟩=>match E.T e,toPV H y with
   | some a,some (.slice ys)=>
     if a.size≠0/\a.bytes≠0/\a.zero.isSome=true/\(ys.all λz=>z.cells.length==a.size)=true then
      match x with
      | .nils=>if ys.length * a.bytes<=140737488355328 then some (.vec H.length ys.length,H++[.row e a.size ys true])else none
      | .full xs=>if (xs.length+ys.length) * a.bytes<=140737488355328/\ys.isEmpty=false/\(xs.all λz=>z.cells.length==a.size)=true then
         some (.vec H.length (xs.length+ys.length),H++[.row e a.size (xs++ys) true])else none
      | .vec l n=>match H[l]? with
        | some (.row b sz xs fz)=>if n=xs.length/\b=e/\sz=a.size/\(xs.length+ys.length) * a.bytes<=140737488355328 then
           some (.vec l (xs.length+ys.length),H.set l (.row b sz (xs++ys) fz))else none
        | _=>none
      | _=>none
     else none
   | _,_=>none
 | _=>none
section
variable {P:Program}{w:World}
def Src(w:World)(size m:Nat)(v:Value)(b:List Value):Prop:=
 b.length=m * size/\(∀u∈b,u.oneCell'=true)/\((v=.slice none 0 0/\m=0)\/∃a c,v=.slice (some a) m c/\∀ (j:Nat) u,b[j]?=some u->w.cell? (a.add j)=some u)
theorem Q9x(t a e:TypeId)(i:TypeInfo)(b:P.underlying t=some (.slice e))(d:P.info? e=some i)(A:Option Addr)(n cap:Nat)(f:n<=cap):
 (Builtin.append_ #[t,t] a #[.slice A n cap,.slice none 0 0]).run P w=.ok (.slice A n cap) w:=by
 cases A<;>simp[Builtin.append_,run_underlying b,sizeOf,typeInfo,d,Builtin.lenOf,Builtin.firstCells,f,storeCells]
theorem Z1p(e:TypeId)(i:TypeInfo)(z:Value)(g:z.cells.size=i.size)(xs a:List Value)(n m old:Nat)(b:xs.length=n * i.size)(d:a.length=m * i.size)(j:n+m<=maxLen):
 (w.drew.alloc (.cells (xs.toArray++a.toArray++Builtin.zeroCells z.cells (grownCap w (n+m) old e-(n+m))) e)).ownsRow 0 e i.size
   (.slice (some ⟨w.heap.size,0,none⟩) (n+m) (grownCap w (n+m) old e)) (n+m) (xs++a):=by
 have f:(xs++a).length=(n+m) * i.size:=by rw[G0i,b,d,G7e]
 have k:=grownCap_ge w (n+m) old e
 refine⟨f,.inr ⟨w.heap.size,_,_,rfl,G2l _,heap_alloc_new w.drew _,k,grownCap_le_maxLen w (n+m) old e j,?_,?_⟩⟩
 ·simp only[Array.size_append,G4h,size_zeroCells,g,b,d,<-G7e]
  congr 1
  omega
 simp only[Array.toList_append,G0z]
 rw[<-G0z,<-f]
 exact G6b
theorem Q9m(v:Value)(cs:Array Value)(e:TypeId)(n c:Nat):Grew w (w.drew.alloc (.cells cs e)) v (.slice (some ⟨w.heap.size,0,none⟩) n c):=
 ⟨rfl,rfl,rfl,by simp,.inl ⟨rfl,by simp,λb hb=>heap_alloc_old w.drew _ b hb⟩⟩
theorem Z2r(t l e:TypeId)(i:TypeInfo)(z:Value)(o:P.underlying t=some (.slice e))(p:P.info? e=some i)(D:i.zero=some z)(F:z.cells.size=i.size)
 (v:Value) (n:Nat) (xs:List Value) (k:w.ownsRow 0 e i.size v n xs) (x:Value) (m:Nat) (d:List Value) (O:Src w i.size m x d)
 (s:n+m<=maxLen) (I:(n+m) * i.bytes<=140737488355328):
 ∃v' w',(Builtin.append_ #[t,t] l #[v,x]).run P w=.ok v' w'/\w'.ownsRow 0 e i.size v' (n+m) (xs++d)/\Grew w w' v v'/\(m=0->v'=v):=by
 obtain⟨f,Q,y⟩:=O
 have ac:n+m<=9223372036854775807:=by unfold maxLen at s;omega
 rcases y with⟨rfl,rfl⟩|⟨a,c,rfl,A⟩
 ·have S:d=[]:=G1g (by simpa using f)
  subst S
  refine⟨v,w,?_,by simpa using k,⟨rfl,rfl,rfl,G0o _,.inr ⟨rfl,rfl,λ_ _=>rfl⟩⟩,λ_=>rfl⟩
  rcases k.2 with⟨rfl,rfl⟩|⟨g,cap,r,rfl,_,_,J,_⟩
  ·exact Q9x t l e i o p none 0 0 (G0o _)
  exact Q9x t l e i o p _ n cap J
 rcases k.2 with⟨rfl,rfl⟩|⟨g,cap,r,rfl,T,K,J,U,V,W⟩
 ·have y:xs=[]:=G1g (by simpa using k.1)
  subst y
  by_cases L:m=0
  ·subst L
   have X:d=[]:=G1g (by simpa using f)
   subst X
   refine⟨.slice none 0 0,w,?_,World.ownsRow_nil w 0 e i.size,⟨rfl,rfl,rfl,G0o _,.inr ⟨rfl,rfl,λ_ _=>rfl⟩⟩,λ_=>rfl⟩
   simp[Builtin.append_,run_underlying o,sizeOf,typeInfo,p,Builtin.lenOf,Builtin.firstCells,loadCells,loadCellsFrom]
  have q:=run_append_nil (P:=P) w t l e i z o p D a m c d f A (by omega) (by omega) (by have hb:=I;simp only[G2y]at hb;omega)
  have M:=Z1p (w:=w) e i z F [] d 0 m 0 (by simp) f s
  simp only[G2y,G1y,G6m]at M |-
  exact⟨_,_,q,M,Q9m _ _ _ _ _,λh=>absurd h L⟩
 by_cases C:n+m<=cap
 ·have Y:n * i.size+d.length<=r.size:=by rw[f,V,<-G7e];exact G2f _ C
  have q:=run_append_room (P:=P) w t l e i o p g n cap r K a m c d f A Q C Y
  have N:(xs++d).length=(n+m) * i.size:=by rw[G0i,k.1,f,G7e]
  refine⟨_,_,q,⟨N,.inr ⟨g,cap,_,rfl,T,setRow_heap w g r _ e _ K,C,U,?_,?_⟩⟩,⟨rfl,rfl,rfl,by simp,.inr ⟨rfl,by simp,λb hb=>setRow_other w g b _ (λe=>hb (by simp[Value.ownBlock,e]))⟩⟩,λh=>by rw[h];rfl⟩
  ·simp only[G4h,G0i,G1h,G0p,G1j]
   omega
  rw[W,<-N]
  exact G6b
 have aa:∀ (j:Nat) u,xs[j]?=some u->w.cell? ((⟨g,0,none⟩:Addr).add j)=some u:=k.cells (g:=g) rfl
 have q:=run_append_grow (P:=P) w t l e i z o p D ⟨g,0,none⟩ n cap xs k.1 aa a m c d f A (by omega) (by omega) (growslice_fits (by omega) I)
 exact⟨_,_,q,Z1p e i z F xs d n m cap k.1 f s,Q9m _ _ _ _ _,λh=>by omega⟩
theorem J5m(t j e:TypeId)(i:TypeInfo)(z:Value)(q:P.underlying t=some (.slice e))(r:P.info? e=some i)(s:i.zero=some z)(u:z.cells.size=i.size)
 (v:Value) (n:Nat) (xs:List Value) (k:Src w i.size n v xs) (F:∃A,v=.slice A n n) (x:Value) (m:Nat) (f:List Value) (I:Src w i.size m x f) (M:0<m)
 (l:n+m<=maxLen) (y:(n+m) * i.bytes<=140737488355328):
 ∃v' w',(Builtin.append_ #[t,t] j #[v,x]).run P w=.ok v' w'/\w'.ownsRow 0 e i.size v' (n+m) (xs++f)/\Grew w w' (.slice none 0 0) v':=by
 obtain⟨g,N,J⟩:=I
 obtain⟨o,_,K⟩:=k
 obtain⟨A,rfl⟩:=F
 have O:n+m<=9223372036854775807:=by unfold maxLen at l;omega
 rcases J with⟨_,rfl⟩|⟨a,c,rfl,C⟩
 ·omega
 rcases K with⟨d,rfl⟩|⟨b,Q,d,L⟩
 ·injection d with d
  subst d
  have k:xs=[]:=G1g (by simpa using o)
  subst k
  have p:=run_append_nil (P:=P) w t j e i z q r s a m c f g C (by omega) (by omega) (by have hb:=y;simp only[G2y]at hb;omega)
  have D:=Z1p (w:=w) e i z u [] f 0 m 0 (by simp) g l
  simp only[G2y,G1y,G6m]at D |-
  exact⟨_,_,p,D,Q9m _ _ _ _ _⟩
 injection d with d
 subst d
 have p:=run_append_grow (P:=P) w t j e i z q r s b n n xs o L a m c f g C (by omega) (by omega) (growslice_fits (by omega) y)
 exact⟨_,_,p,Z1p e i z u xs f n m n o g l,Q9m _ _ _ _ _⟩
end
end Go.Abs
namespace Go.Abs
open Go.RowKit
section
variable {E:Env}{γ:List Gh}{H:List AObj}{Φ:Nat->Nat->Prop}{w:World}
theorem Z8b{v:Value}{ys:List PV}{size:Nat}(h:Rep Φ w v (.slice ys))(hs:∀y∈ys,y.cells.length=size):∃f,Src w size ys.length v f/\Q1h Φ w f (flat ys):=by
 cases h with
 | sliceNil=>exact⟨[],⟨by simp,λu a=>(by cases a),.inl ⟨rfl,rfl⟩⟩,⟨rfl,λc d=>(by simp[Q3y]at d),λk v c e _=>(by simp at e)⟩⟩
 | sliceAny A cap p=>exact⟨[],⟨by simp,λu a=>(by cases a),.inr ⟨A,cap,rfl,λj u a=>(by simp at a)⟩⟩,⟨rfl,λc d=>(by simp[Q3y]at d),λk v c e _=>(by simp at e)⟩⟩
 | slice b o len cap sz xs vs q d p t g r i=>
   have s:=Q0j hs
   have l:∀k,k<(flat ys).length->((List.range (flat ys).length).map vs)[k]?=some (vs k):=λk hk=>by
    rw[G0x,G3f hk]
    rfl
   have m:((List.range (flat ys).length).map vs).length=(flat ys).length:=by simp
   refine⟨(List.range (flat ys).length).map vs,⟨by rw[m,s],λu a=>?_,.inr ⟨⟨b,o,none⟩,cap,by rw[q],λj u a=>?_⟩⟩,m,g,λk v c e d=>?_⟩
   ·obtain⟨k,hk,rfl⟩:=G3i.1 a
    have hk:k<(flat ys).length:=by simpa using hk
    exact(i k _ (G0c hk)).one (g _ (G2u hk))
   ·have n:j<(flat ys).length:=by
     have:=(G0f.1 a).1
     omega
    rw[l j n]at a
    simp only[G0b]at a
    rw[Addr.add_lit,<-a]
    exact(r j n).2
   have hk:k<(flat ys).length:=(G0f.1 d).1
   rw[l k hk]at e
   simp only[G0b]at e
   rw[<-e]
   exact i k c d
theorem Q5a{vs us:List Value}{cs ds:List PV}(h:Q1h Φ w vs cs)(k:Q1h Φ w us ds):Q1h Φ w (vs++us) (cs++ds):=by
 refine⟨by rw[G0i,G0i,h.1,k.1],λc a=>?_,λi v c b a=>?_⟩
 ·rcases G2v.1 a with a|a
  ·exact h.2.1 c a
  exact k.2.1 c a
 by_cases d:i<cs.length
 ·rw[G0l (by rw[h.1];exact d)]at b
  rw[G0l d]at a
  exact h.2.2 i v c b a
 rw[G0m (by rw[h.1];omega)]at b
 rw[G0m (by omega)]at a
 exact k.2.2 _ v c (by rw[<-h.1];exact b) a
theorem J0v{Φ':Nat->Nat->Prop}{w':World}{vs:List Value}{cs:List PV}(h:Q1h Φ w vs cs)(a:∀b k,Φ b k->Φ' b k)(d:∀b k,Φ b k->w'.cell? ⟨b,k,none⟩=w.cell? ⟨b,k,none⟩):
 Q1h Φ' w' vs cs:=⟨h.1,h.2.1,λk v c e f=>(h.2.2 k v c e f).mono a d⟩
theorem J2r{e:TypeId}{sz n:Nat}{v:Value}{cells:List Value}(h:w.ownsRow 0 e sz v n cells){b:Nat}(hb:v.ownBlock=some b){k:Nat}(hk:k<n * sz):w.cell? ⟨b,k,none⟩=cells[k]?:=by
 have a:k<cells.length:=by rw[h.1];exact hk
 have:=h.cells hb k cells[k] (G0c a)
 rw[Addr.add_lit,G2y]at this
 rw[this,G0c a]
theorem Q4l{e:TypeId}{sz n:Nat}{v:Value}{cells:List Value}(h:w.ownsRow 0 e sz v n cells):∃A c,v=.slice A n c/\(0<n->∃b,A=some ⟨b,0,none⟩):=by
 rcases h.2 with⟨rfl,rfl⟩|⟨g,cap,cur,rfl,_⟩
 ·exact⟨none,0,rfl,λh=>absurd h (by omega)⟩
 exact⟨_,_,rfl,λ_=>⟨g,rfl⟩⟩
theorem Z2h(a:OInv E γ H Φ w){w':World}{v v':Value}{e:TypeId}{sz:Nat}{zs:List PV}{cells:List Value}(i:w'.ownsRow 0 e sz v' zs.length cells)(hG:Grew w w' v v')(j:v.ownBlock=none)
 (f:Q1h Φ w cells (flat zs)) (l:∀z∈zs,z.cells.length=sz) (m:0<sz) (fz:Bool):
 Q7w E γ H Φ w (.vec H.length zs.length) (H++[.row e sz zs fz]) v' w':=by
 have n:∀b,b<w.heap.size->w'.heap[b]?=w.heap[b]?:=by
  rcases hG.way with⟨_,_,h⟩|⟨_,_,h⟩
  ·exact h
  exact λb _=>h b (by rw[j];simp)
 have d:∀b,v'.ownBlock=some b->w.heap.size<=b/\b<w'.heap.size:=by
  intro b hb
  rcases hG.way with⟨h,t,_⟩|⟨h,_,_⟩
  ·rw[h]at hb
   injection hb with hb
   omega
  rw[h,j]at hb
  cases hb
 obtain⟨A,c,o,p⟩:=Q4l i
 have x:=Q0j l
 refine⟨γ++[⟨v',v'.ownBlock.toList⟩],λb k=>Φ b k\/(fz=true/\v'.ownBlock=some b/\k<zs.length * sz),a.pushObj n hG.size hG.os hG.tape hG.output (λ_ _ h=>.inl h) (λb k h hb=>?_) (λb k h=>?_) _ _ (λb hb=>?_) (λq=>?_),?_⟩
 ·rcases h with h|⟨_,h,_⟩
  ·exact h
  have:=(d b h).1
  omega
 ·rcases h with h|⟨_,h,_⟩
  ·exact G1f (a.phi b k h) hG.size
  exact(d b h).2
 ·exact d b (by simpa using hb)
 ·refine⟨cells,i,f.1,λk u c r s=>(f.2.2 k u c r s).mono (λ_ _ h=>.inl h) q.cell,l,f.2.1,rfl,m,λb hb k=>⟨λh=>?_,λg hk=>.inr ⟨g,hb,hk⟩⟩⟩
  rcases h with h|⟨g,_,hk⟩
  ·have y:=a.phi b k h
   have C:=(d b hb).1
   omega
  exact⟨g,hk⟩
 rw[o]
 refine .vec A _ _ c e sz zs.length (Q2h (fz:=fz) (by simp)) (G0o _) p (λ_=>?_)
 unfold gv
 rw[<-a.len]
 simp
theorem J0s(p:OInv E γ H Φ w){D t:TypeId}{v u:Value}{x y r:AV}{H':List AObj}(F:ARel γ H Φ w v x)(hy:ARel γ H Φ w u y)(h:Z2p E H D x y=some (r,H')):
 ∃v' w',(Builtin.append_ #[D,D] t #[v,u]).run E.P w=.ok v' w'/\Q7w E γ H Φ w r H' v' w':=by
 unfold Z2p at h
 split at h
 ·rename_i e _ _ _ hT
  split at h
  ·rename_i W ys aw ax
   split at h
   ·rename_i hc
    obtain⟨a1,a2,az,M⟩:=hc
    obtain⟨d,hd,hk⟩:=(E.hT _ _ hT).und
    rw[Q3u hk]at hd
    obtain⟨i,d',X,s,Y,a4,a5,hz⟩:=(E.hT _ _ aw).info
    obtain⟨z,aB⟩:=G5p.1 az
    obtain⟨zv,aa,aC,aD,_⟩:=hz z aB
    have ac:zv.cells.size=i.size:=by rw[s,<-aD,<-aC];simp
    have N:∀q∈ys,q.cells.length=i.size:=λq hq=>by
     have:=G0t.1 M q hq
     rw[s]
     simpa using this
    obtain⟨O,ad,ae⟩:=Z8b (Q1q p hy ax) N
    have af:∀n:Nat,n * W.bytes<=140737488355328->n<=maxLen:=λn C=>by
     have:n<=n * W.bytes:=G4v _ (by omega)
     unfold maxLen
     omega
    split at h
    ·split at h
     ·rename_i f
      simp only[G0b,G1d]at h
      obtain⟨rfl,rfl⟩:=h
      cases F with
      | nils=>
        obtain⟨v',w',I,j,hG,_⟩:=Z2r (P:=E.P) (w:=w) D t e i zv hd X aa ac (.slice none 0 0) 0 [] (World.ownsRow_nil w 0 e i.size) u ys.length O ad (by rw[G2y];exact af _ f) (by rw[G2y,Y];exact f)
        rw[G2y,G1y]at j
        refine⟨v',w',I,?_⟩
        rw[<-s]
        exact Z2h p j hG rfl ae N (by omega) true
     cases h
    ·rename_i xs
     split at h
     ·rename_i f
      obtain⟨f,aE,aF⟩:=f
      simp only[G0b,G1d]at h
      obtain⟨rfl,rfl⟩:=h
      have Q:∀q∈xs,q.cells.length=i.size:=λq hq=>by
       have:=G0t.1 aF q hq
       rw[s]
       simpa using this
      cases F with
      | full A n xs al=>
        obtain⟨aG,aH,aI⟩:=Z8b al Q
        have C:n=xs.length:=by
         cases al with
         | sliceNil=>rfl
         | sliceAny A cap hm=>rfl
         | slice b o len cap sz xs vs hl _ _ _ _ _ _=>exact hl.symm
        subst C
        have aK:0<ys.length:=by
         cases ys with
         | nil=>simp at aE
         | cons a b=>simp
        obtain⟨v',w',I,j,hG⟩:=J5m (P:=E.P) (w:=w) D t e i zv hd X aa ac _ xs.length aG aH ⟨A,rfl⟩ u ys.length O ad aK (af _ f) (by rw[Y];exact f)
        refine⟨v',w',I,?_⟩
        have m:(xs++ys).length=xs.length+ys.length:=G0i
        rw[<-s,<-m]
        rw[<-m]at j
        refine Z2h p j hG rfl ?_ (λq hq=>?_) (by omega) true
        ·rw[Q7l]
         exact Q5a aI ae
        rcases G2v.1 hq with hq|hq
        ·exact Q q hq
        exact N q hq
     cases h
    ·rename_i l n
     split at h
     ·rename_i e' sz xs fz S
      split at h
      ·rename_i f
       obtain⟨rfl,rfl,rfl,f⟩:=f
       simp only[G0b,G1d]at h
       obtain⟨rfl,rfl⟩:=h
       obtain⟨g,J,hO⟩:=p.gh S
       have a7:=hO
       obtain⟨cells,j,aL,aM,aq,T,aN,h0,ag⟩:=hO
       have aO:v=g.v:=by
        cases F with
        | vec A l n cap e0 ba len0 hrow C hA aP=>
          have hre:=Q2h S
          rw[hrow]at hre
          injection hre with hre
          injection hre with _ hre
          injection hre with _ aQ
          have:=aP aQ
          simp only[gv,J,G0w,G0b]at this
          exact this.symm
       subst aO
       rw[<-s]at j aq ag
       obtain⟨v',w',I,ah,hG,aR⟩:=Z2r (P:=E.P) (w:=w) D t e' i zv hd X aa ac g.v xs.length cells j u ys.length O ad (af _ f) (by rw[Y];exact f)
       refine⟨v',w',I,?_⟩
       have m:(xs++ys).length=xs.length+ys.length:=G0i
       have Q:∀q∈xs++ys,q.cells.length=i.size:=λq hq=>by
        rcases G2v.1 hq with hq|hq
        ·exact aq q hq
        exact N q hq
       have U:∀b,b∈g.own↔g.v.ownBlock=some b:=λb=>by rw[aN];simp
       have V:∀b,v'.ownBlock=some b->(b∈g.own\/w.heap.size<=b)/\b<w'.heap.size:=by
        intro b hb
        rcases hG.way with⟨h,bb,_⟩|⟨h,hs,_⟩
        ·rw[h]at hb
         injection hb with hb
         exact⟨.inr (by omega),by omega⟩
        rw[h]at hb
        have:=(U b).2 hb
        exact⟨.inl this,G1f (p.own l g J b this).2 hG.size⟩
       have bc:xs.length * i.size<=(xs.length+ys.length) * i.size:=G2f _ (by omega)
       have aS:∀b k,Φ b k->b∈g.own->w'.cell? ⟨b,k,none⟩=w.cell? ⟨b,k,none⟩:=by
        intro b k aT hb
        have aj:=(U b).1 hb
        obtain⟨_,hk⟩:=(ag b aj k).1 aT
        rcases hG.way with⟨_,_,K⟩|⟨aU,_,_⟩
        ·exact cell_of_heap (K b (p.own l g J b hb).2)
        rw[J2r ah (b:=b) (by rw[aU];exact aj) (by omega),J2r j aj hk,G0l (by rw[j.1];exact hk)]
       obtain⟨A,c,aV,hA⟩:=Q4l ah
       obtain⟨A0,c0,aW,_⟩:=Q4l j
       refine⟨γ.set l ⟨v',v'.ownBlock.toList⟩,λb k=>Φ b k\/(fz=true/\v'.ownBlock=some b/\k<(xs.length+ys.length) * i.size),p.setObj S J (λb hb C=>?_) hG.size hG.os hG.tape hG.output (λ_ _ h=>.inl h) (λb k h hb C=>?_) (λb k h=>?_) aS
        (λb hb=>V b (by simpa using hb)) (.inr ⟨A0,_,c0,aW⟩) (Q8d (by rw[m];omega) (λF=>aR (by rw[m]at F;omega))) (λhE=>?_),?_⟩
       ·rcases hG.way with⟨_,_,K⟩|⟨_,_,K⟩
        ·exact K b hb
        exact K b (λhh=>C ((U b).2 hh.symm))
       ·rcases h with h|⟨_,h,_⟩
        ·exact h
        rcases(V b h).1 with T|T
        ·exact absurd T C
        omega
       ·rcases h with h|⟨_,h,_⟩
        ·exact G1f (p.phi b k h) hG.size
        exact(V b h).2
       ·have M:=Q5a (Φ:=Φ) (w:=w) ⟨aL,T,aM⟩ ae
        rw[<-Q7l]at M
        have ak:=J0v M (Φ':=λb k=>Φ b k\/(fz=true/\v'.ownBlock=some b/\k<(xs.length+ys.length) * i.size)) (λ_ _ h=>.inl h) hE.cell
        rw[<-s]
        refine⟨cells++O,by rw[m];exact ah,ak.1,ak.2.2,Q,ak.2.1,rfl,by omega,λb hb k=>⟨λh=>?_,λL hk=>.inr ⟨L,hb,by rw[m]at hk;exact hk⟩⟩⟩
        rcases h with h|⟨L,_,hk⟩
        ·rcases(V b hb).1 with au|au
         ·obtain⟨L,hk⟩:=(ag b ((U b).1 au) k).1 h
          exact⟨L,by rw[m];omega⟩
         have:=p.phi b k h
         omega
        exact⟨L,by rw[m];exact hk⟩
       rw[aV]
       have aZ:l<H.length:=(G0f.1 S).1
       have a0:l<γ.length:=(G0f.1 J).1
       refine .vec A l _ c e' W.size (xs++ys).length (Q2h (fz:=fz) (by rw[G1c aZ])) (by rw[m];exact G0o _) hA (λ_=>?_)
       unfold gv
       rw[G1c a0]
       simp
      cases h
     cases h
    cases h
   cases h
  cases h
 cases h
end
end Go.Abs
