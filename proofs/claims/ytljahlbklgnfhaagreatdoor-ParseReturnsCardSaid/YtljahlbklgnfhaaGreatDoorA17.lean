import Derived.Test.YtljahlbklgnfhaaGreatDoorA14
import Derived.Lib.FrozenHead
import Derived.Test.YtljahlbklgnfhaaGreatDoorA16
import Derived.Tactics
set_option linter.unusedVariables false
set_option linter.unusedSimpArgs false
set_option linter.defProp false
namespace Go.Abs
open Go.RowKit
def Q6p(E:Env)(H:List AObj)(a d:TypeId)(x y:AV):Option (AV×List AObj):=
 match E.T a,E.T d,y with
 | some ⟨.slice e,_,_,_⟩,some ⟨.str,_,_,_⟩,.pv (.str s)=>match E.T e with
   | some ⟨.int .u8,1,1,some [.int .u8 0]⟩=>match x with
     | .nils=>if s.length<=140737488355328/\s.isEmpty=false then some (.vec H.length s.length,H++[.brow e s])else if s.isEmpty=true then some (.nils,H)else none
     | .vec l n=>match H[l]? with
       | some (.brow f b)=>if n=b.length/\f=e/\b.length+s.length<=140737488355328 then some (.vec l (b.length+s.length),H.set l (.brow e (b++s)))else none
       | _=>none
     | _=>none
   | _=>none
 | _,_,_=>none
def J0y(H:List AObj):AV->Option AV
 | .vec l n=>match H[l]? with
   | some (.brow _ s)=>if s.length=n/\s.isEmpty=false then some (.vptr l n 0 0)else none
   | _=>none
 | .nils=>some (.pv .nilp)
 | _=>none
def X4i(E:Env)(H:List AObj)(a:TypeId):AV->AV->Option AV
 | .vptr l n 0 0,.pv (.int .i64 k)=>match E.T a,H[l]? with
   | some ⟨.ptr e,_,_,_⟩,some (.brow b s)=>match E.T e with
     | some ⟨.int .u8,1,1,_⟩=>if e=b/\k=s.length/\n=s.length/\s.isEmpty=false then some (.pv (.str s))else none
     | _=>none
   | _,_=>none
 | .pv .nilp,.pv (.int .i64 0)=>some (.pv (.str []))
 | _,_=>none
def Q5x(s:List UInt8):List Value:=s.map λu=>Value.int .u8 u.toNat
section
variable {E:Env}{γ:List Gh}{H:List AObj}{Φ:Nat->Nat->Prop}{w:World}
theorem Z1i(s:List UInt8):Lib.strCells ⟨⟨s⟩⟩=Q5x s:=rfl
theorem Z8z(t u m e:TypeId)(i:TypeInfo)(y:E.P.underlying t=some (.slice e))(z:E.P.underlying u=some .string)(A:E.P.info? e=some i)(F:i.zero=some (.int .u8 0))(C:i.size=1)(I:i.bytes=1)
 (v:Value) (n:Nat) (xs:List Value) (o:w.ownsRowF 0 e 1 v n xs) (s:List UInt8) (L:n+s.length<=140737488355328):
 ∃v' w',(Builtin.append_ #[t,u] m #[v,.string ⟨⟨s⟩⟩]).run E.P w=.ok v' w'/\w'.ownsRowF 0 e 1 v' (n+s.length) (xs++Q5x s)/\w.grownBy w' v.ownBlock/\(∀b,v'.ownBlock=some b->v.ownBlock=some b\/w.heap.size<=b)/\(s=[]->v'=v):=by
 have a:(⟨⟨s⟩⟩:ByteArray).size=s.length:=rfl
 have J:n+s.length<=maxLen:=by unfold maxLen;omega
 rcases o.2 with⟨rfl,rfl⟩|⟨g,cap,d,fz,rfl,M,K,N,ae,Q,S,T⟩
 ·obtain⟨v',w',U,p,V,W⟩:=Lib.run_append_own_stringF (P:=E.P) w w.heap.size t u m e i y z A F C I (.slice none 0 0) 0 xs ⟨o.1,.inl ⟨rfl,rfl⟩⟩ ⟨⟨s⟩⟩ (by rw[a];exact J) (by rw[a];exact L) (G0r _)
  rw[a,Z1i]at p
  refine⟨v',w',U,⟨p.1,p.2.imp id λ⟨g,cap,d,fz,f,hb,r⟩=>⟨g,cap,d,fz,f,G1t _,r⟩⟩,V,λb hb=>?_,λhs=>W.2 ⟨rfl,by rw[a,hs];rfl⟩⟩
  rcases p.2 with⟨f,hn⟩|⟨g,cap,d,fz,f,ag,_⟩
  ·rw[f]at hb
   cases hb
  rw[f]at hb
  simp only[Value.ownBlock,G0c]at hb
  exact .inr (by omega)
 have D:xs.length=n:=by simpa using o.1
 have q:(xs++Q5x s).length=(n+s.length) * 1:=by simp[D,Q5x]
 have ah:d.size=cap:=by simpa using S
 by_cases x:n+s.length<=cap
 ·have l:=Lib.run_append_room_stringF (P:=E.P) w t u m e i y z A C g n cap d fz K (by simpa using N) ⟨⟨s⟩⟩ (by rw[a];exact x) (by rw[a];omega)
  rw[a,Z1i]at l
  refine⟨_,_,l,⟨q,.inr ⟨g,cap,_,fz,rfl,M,G8g w g d _ e _ K,by omega,x,Q,?_,?_⟩⟩,⟨rfl,rfl,rfl,by simp,λk _ hk=>G8m w g k _ (λe=>hk (by simp[Value.ownBlock,e]))⟩,λb hb=>.inl hb,λhs=>by rw[hs];rfl⟩
  ·simp only[G5q,G0g,G1v,G1w,G2h,Q5x,G1h]
   omega
  have X:d.toList.take n=xs:=by simpa using T
  rw[X,<-q]
  exact G7b
 have Y:∀j u,xs[j]?=some u->w.cell? ((⟨g,0,none⟩:Addr).add j)=some u:=o.cells (g:=g) rfl
 have l:=G7t (P:=E.P) w t u m e i (.int .u8 0) y z A F ⟨g,0,none⟩ n cap xs (by rw[C];simpa using D) Y ⟨⟨s⟩⟩ (by rw[a];omega) (by rw[a];omega) (by rw[I,a];exact G7z (by omega) (by omega))
 have aa:=grownCap_ge w (n+s.length) cap e
 have ac:grownCap w (n+s.length) cap e<=maxLen:=grownCap_le_maxLen w (n+s.length) cap e J
 rw[a,Z1i]at l
 refine⟨_,_,l,⟨q,.inr ⟨w.heap.size,_,_,(0,0),rfl,G1t _,G4r w.drew _,G1t _,aa,ac,?_,?_⟩⟩,⟨rfl,rfl,rfl,by simp,λk hk _=>G7a w.drew _ k hk⟩,λb hb=>.inr (by simp only[Value.ownBlock,G0c]at hb;omega),λhs=>?_⟩
 ·have ad:(Value.int IntKind.u8 0).cells.size=1:=rfl
  simp only[Array.size_append,G5q,size_zeroCells,ad,D,Q5x,G1h]
  omega
 ·simp only[Array.toList_append,G0e]
  rw[<-G0e,<-q]
  exact G7b
 rw[hs]at x
 simp only[G0z]at x
 omega
theorem Q4d{e:TypeId}{sz n:Nat}{v:Value}{cells:List Value}(h:w.ownsRowF 0 e sz v n cells):∃A c,v=.slice A n c/\(0<n->∃b,A=some ⟨b,0,none⟩):=by
 rcases h.2 with⟨rfl,rfl⟩|⟨g,cap,cur,fz,rfl,_⟩
 ·exact⟨none,0,rfl,λh=>absurd h (by omega)⟩
 exact⟨_,_,rfl,λ_=>⟨g,rfl⟩⟩
theorem X2n{v:Value}{l n:Nat}{e:TypeId}{s:List UInt8}{g:Gh}(b:ARel γ H Φ w v (.vec l n))(d:H[l]?=some (.brow e s))(f:γ[l]?=some g)(j:n=s.length):v=g.v:=by
 cases b with
 | vec A l n cap m o len0 a p q i=>
   unfold rowAt at a
   rw[d]at a
   simp only[G0a,Q1y,G0c,G1k]at a
   have:=i (by omega)
   simp only[gv,f,G1s,G0c]at this
   exact this.symm
theorem X6g{e:TypeId}{z:Option (List PV)}(hT:E.T e=some ⟨.int .u8,1,1,z⟩):∃i,E.P.info? e=some i/\i.size=1/\i.bytes=1/\(z=some [.int .u8 0]->i.zero=some (.int .u8 0)):=by
 obtain⟨i,d,b,hs,hb,_,_,f⟩:=(E.hT _ _ hT).info
 refine⟨i,b,hs,hb,λg=>?_⟩
 subst g
 obtain⟨zv,j,p,_,l,_,m⟩:=f _ rfl
 have n:=m (λq=>by simp)
 have o:=l 0 zv (.int .u8 0) (by rw[n];rfl) rfl
 have a:=o.2.1 (λ_ _=>False) default
 rw[j]
 generalize zv=x at a
 cases a
 rfl
theorem J0g(d:OInv E γ H Φ w){z C t:TypeId}{v u:Value}{x y r:AV}{H':List AObj}(D:ARel γ H Φ w v x)(X:ARel γ H Φ w u y)(h:Q6p E H z C x y=some (r,H')):
 ∃v' w',(Builtin.append_ #[z,C] t #[v,u]).run E.P w=.ok v' w'/\Q8j E γ H Φ w r H' v' w':=by
 unfold Q6p at h
 split at h
 ·rename_i e _ _ _ _ _ _ s Y aa
  obtain⟨d1,m,ac⟩:=(E.hT _ _ Y).und
  obtain⟨d2,o,ad⟩:=(E.hT _ _ aa).und
  have m:=Q4b ac▸m
  have o:=Z5b ad▸o
  have hu:=Q0p X
  cases hu
  split at h
  ·rename_i af
   obtain⟨i,L,hs,hb,T⟩:=X6g af
   split at h
   ·cases D
    split at h
    ·rename_i a
     simp only[G0c,G1k]at h
     obtain⟨rfl,rfl⟩:=h
     obtain⟨v',w',M,f,hG,N,_⟩:=Z8z (E:=E) (w:=w) z C t e i m o L (T rfl) hs hb (.slice none 0 0) 0 [] ⟨rfl,.inl ⟨rfl,rfl⟩⟩ s (by omega)
     rw[G3h,G0t]at f
     refine⟨v',w',M,?_⟩
     have p:∀b,v'.ownBlock=some b->w.heap.size<=b/\b<w'.heap.size:=by
      intro b hb
      refine⟨(N b hb).elim (λh=>by cases h) id,?_⟩
      rcases f.2 with⟨j,_⟩|⟨g,cap,ag,fz,j,_,q,_⟩
      ·rw[j]at hb
       cases hb
      rw[j]at hb
      simp only[Value.ownBlock,G0c]at hb
      exact hb▸(G1r.1 q).1
     obtain⟨A,c,P,Q⟩:=Q4d f
     refine⟨γ++[⟨v',v'.ownBlock.toList⟩],Φ,d.pushObj (λb hb=>hG.block b hb (by simp[Value.ownBlock])) hG.size hG.os hG.tape hG.output (λ_ _ h=>h) (λb k h _=>h) (λb k h=>G1m (d.phi b k h) hG.size) _ _ (λb hb=>p b (by simpa using hb)) (λhE=>?_),?_⟩
     ·exact⟨f,rfl,λb hb k hk=>by have:=d.phi b k hk;have:=(p b hb).1;omega⟩
     rw[P]
     refine .vec A _ _ c e 1 s.length (by unfold rowAt;simp[Q1y]) (G0r _) Q (λ_=>?_)
     unfold gv
     rw[<-d.len]
     simp
    split at h
    ·rename_i a
     simp only[G0c,G1k]at h
     obtain⟨rfl,rfl⟩:=h
     have ak:s=[]:=List.isEmpty_iff.1 a
     subst ak
     refine⟨.slice none 0 0,w,?_,γ,Φ,.refl d,.nils⟩
     simp[Builtin.append_,G1c m,G1c o,sizeOf,typeInfo,L,Builtin.lenOf,Builtin.firstCells]
     rw[if_pos (show(⟨⟨[]⟩⟩:ByteArray)=ByteArray.empty from rfl)]
     rfl
    cases h
   ·rename_i l n
    split at h
    ·rename_i U b F
     split at h
     ·rename_i a
      obtain⟨S,rfl,al⟩:=a
      simp only[G0c,G1k]at h
      obtain⟨rfl,rfl⟩:=h
      obtain⟨g,q,hO⟩:=d.gh F
      obtain⟨f,ao,V⟩:=hO
      have aq:=X2n D F q S
      subst aq
      obtain⟨v',w',M,I,hG,N,ar⟩:=Z8z (E:=E) (w:=w) z C t U i m o L (T rfl) hs hb g.v b.length (Q5x b) f s al
      have J:(b++s).length=b.length+s.length:=G0g
      have au:Q5x b++Q5x s=Q5x (b++s):=by simp[Q5x]
      rw[au,<-J]at I
      refine⟨v',w',M,?_⟩
      have K:∀c,c∈g.own↔g.v.ownBlock=some c:=λc=>by rw[ao];simp
      have p:∀c,v'.ownBlock=some c->(c∈g.own\/w.heap.size<=c)/\c<w'.heap.size:=by
       intro c a
       refine⟨(N c a).imp (K c).2 id,?_⟩
       rcases I.2 with⟨j,_⟩|⟨g',cap,ag,fz,j,_,av,_⟩
       ·rw[j]at a
        cases a
       rw[j]at a
       simp only[Value.ownBlock,G0c]at a
       exact a▸(G1r.1 av).1
      obtain⟨A,c,P,Q⟩:=Q4d I
      obtain⟨A0,c0,aw,_⟩:=Q4d f
      refine⟨γ.set l ⟨v',v'.ownBlock.toList⟩,Φ,d.setObj F q (λc a S=>hG.block c a (λhh=>S ((K c).2 hh.symm))) hG.size hG.os hG.tape hG.output (λ_ _ h=>h) (λc k h _ _=>h) (λc k h=>G1m (d.phi c k h) hG.size)
       (λc k h a=>absurd h (V c ((K c).1 a) k)) (λc a=>p c (by simpa using a)) (.inr ⟨A0,_,c0,aw⟩) (λe1 aF n1 W=>?_) (λhE=>?_),?_⟩
      ·simp only[Q1y,G0c,G1k]at W
       obtain⟨rfl,rfl,rfl⟩:=W
       exact⟨_,rfl,by rw[J];omega,λD=>ar (G0u (by rw[J]at D;omega))⟩
      ·exact⟨I,rfl,λc a k hk=>(p c a).1.elim (λh=>V c ((K c).1 h) k hk) (λh=>by have:=d.phi c k hk;omega)⟩
      rw[P,<-J]
      have az:l<H.length:=(G0j.1 F).1
      have aA:l<γ.length:=(G0j.1 q).1
      refine .vec A l _ c U 1 (b++s).length (by unfold rowAt;rw[G1u az];rfl) (G0r _) Q (λ_=>?_)
      unfold gv
      rw[G1u aA]
      simp
     cases h
    cases h
   cases h
  cases h
 cases h
theorem J1n{e:TypeId}{s:List UInt8}{v:Value}(d:w.ownsRowF 0 e 1 v s.length (Q5x s))(hs:s.isEmpty=false):∃b cap a fz,v=.slice (some ⟨b,0,none⟩) s.length cap/\w.heap[b]?=some (.cells a e fz)/\fz.2<=s.length/\s.length<=cap/\cap<=maxLen/\a.size=cap/\a.toList.take s.length=Q5x s:=by
 rcases d.2 with⟨_,f⟩|⟨g,cap,a,fz,i,_,j,l,m,n,o,p⟩
 ·have:s=[]:=G0u f
  subst this
  cases hs
 exact⟨g,cap,a,fz,i,j,by simpa using l,m,n,by simpa using o,by simpa using p⟩
theorem J5i(o:OInv E γ H Φ w){ts:Array TypeId}{t:TypeId}{v:Value}{x r:AV}(i:ARel γ H Φ w v x)(h:J0y H x=some r):∃u,(Builtin.unsafeSliceData_ ts t #[v]).run E.P w=.ok u w/\ARel γ H Φ w u r:=by
 unfold J0y at h
 split at h
 ·rename_i l n
  split at h
  ·rename_i e s f
   split at h
   ·rename_i d
    cases h
    obtain⟨g,j,p⟩:=o.gh f
    have q:=X2n i f j d.1.symm
    subst q
    obtain⟨b,cap,y,fz,m,hb,_,z,_⟩:=J1n p.1 d.2
    have A:0<s.length:=by
     cases s with
     | nil=>simp at d
     | cons a s=>simp
    rw[m]
    refine⟨_,G6c w ts t _ _ _ (by omega),.vptr b 0 l n 0 0 e 1 s.length (by unfold rowAt;rw[f];rfl) (by omega) (λ_=>⟨cap,?_,rfl⟩)⟩
    unfold gv
    rw[j,<-d.1,G1s,m]
   cases h
  cases h
 ·cases h
  cases i
  exact⟨_,Lib.run_unsafeSliceData_nil w ts t 0 0,.pv .nilp⟩
 cases h
theorem J8s(b n c:Nat)(h:c≠b):(w.freeze ⟨b,0,none⟩ n).heap[c]?=w.heap[c]?:=by
 unfold World.freeze
 split
 ·rfl
 simp only[G4g]
 rw[if_neg (λe=>h e.symm)]
theorem J7t(m:OInv E γ H Φ w){A it t:TypeId}{p k:Value}{x y r:AV}(N:ARel γ H Φ w p x)(Q:ARel γ H Φ w k y)(h:X4i E H A x y=some r):∃u w',(Builtin.unsafeString_ #[A,it] t #[p,k]).run E.P w=.ok u w'/\Q8j E γ H Φ w r H u w':=by
 unfold X4i at h
 split at h
 ·rename_i l n k'
  split at h
  ·rename_i e _ _ _ e' s hT q
   split at h
   ·rename_i ah
    split at h
    ·rename_i f
     cases h
     obtain⟨rfl,rfl,rfl,J⟩:=f
     have ak:=Q0p Q
     cases ak
     obtain⟨i,a,hs,_,_⟩:=X6g ah
     obtain⟨d,hd,al⟩:=(E.hT _ _ hT).und
     have hd:=V4l al▸hd
     obtain⟨g,z,hO⟩:=m.gh q
     obtain⟨S,T,U⟩:=hO
     obtain⟨b,cap,C,fz,K,hb,ao,aq,V,ar,W⟩:=J1n S J
     have X:s≠[]:=by
      intro L
      rw[L]at J
      cases J
     cases N with
     | vptr b' o l n i' off Y aO len2 D hn au=>
       unfold rowAt at D
       rw[q]at D
       simp only[G0a,Q1y,G0c,G1k]at D
       obtain⟨rfl,rfl,rfl⟩:=D
       obtain⟨aP,F,ho⟩:=au rfl
       unfold gv at F
       rw[z,G1s,K]at F
       simp only[G0c,Value.slice.injEq,Addr.mk.injEq,G7c,true_and]at F
       obtain⟨rfl,_⟩:=F
       have aw:o=0:=by simpa using ho
       subst aw
       have ay:∀j x,s[j]?=some x->w.cell? ((⟨b,0,none⟩:Addr).add j)=some (.int .u8 x.toNat):=by
        intro j x hj
        have az:=(G0j.1 hj).1
        rw[G5j,G3h,cell_of_row w b j _ _ _ hb]
        have h2:(C.toList.take s.length)[j]?=(Q5x s)[j]?:=by rw[W]
        rw[G2a,if_pos az,Q5x,G1i,hj,G1s]at h2
        rw[<-G2j]
        exact h2
       have aA:=G8d (P:=E.P) w A it t e hd (by unfold Program.cellsOf;rw[a];exact hs) b C.size (by simp[World.shape?,hb]) s X (by omega) (by unfold maxLen at V;omega) ay
       refine⟨_,_,aA,?_⟩
       have aB:γ.set l g=γ:=by
        refine G4n λi=>?_
        by_cases a:i=l
        ·subst a
         rw[G1u (G0j.1 z).1,z]
        rw[G2b (Ne.symm a)]
       have aD:H.set l (.brow e s)=H:=by
        refine G4n λi=>?_
        by_cases a:i=l
        ·subst a
         rw[G1u (G0j.1 q).1,q]
        rw[G2b (Ne.symm a)]
       have ae:g.v.ownBlock=some b:=by rw[K];rfl
       have af:∀c,c∈g.own↔c=b:=λc=>by rw[T,ae];simp
       have M:(w.freeze ⟨b,0,none⟩ s.length).heap.size=w.heap.size:=by
        unfold World.freeze
        split<;>simp
       have aE:∃I,(w.freeze ⟨b,0,none⟩ s.length).heap[b]?=some (.cells C e I)/\I.2<=s.length:=by
        unfold World.freeze
        rw[if_neg (by intro L;exact X (G0u L))]
        simp only[G4g,if_true,hb,G1s]
        obtain⟨lo,a⟩:=fz
        refine⟨_,rfl,?_⟩
        simp only at ao
        split<;>simp<;>omega
       obtain⟨I,aF,aG⟩:=aE
       have hk:=m.setObj (o':=.brow e s) (g':=g) (w':=w.freeze ⟨b,0,none⟩ s.length) (Φ':=Φ) q z (λc _ hn=>J8s b _ c (λe=>hn ((af c).2 e))) (by rw[M];exact G0r _) (by unfold World.freeze;split<;>rfl) (by unfold World.freeze;split<;>rfl) (by unfold World.freeze;split<;>rfl)
        (λ_ _ h=>h) (λc k h _ _=>h) (λc k h=>by rw[M];exact m.phi c k h) (λc k h f=>absurd h (U c (by rw[(af c).1 f];exact ae) k)) (λc f=>⟨.inl f,by rw[M];exact(m.own l g z c f).2⟩) (.inl rfl)
        (λe1 aS n1 hr=>⟨n1,hr,G0r _,λ_=>rfl⟩) (λ_=>⟨⟨S.1,.inr ⟨b,cap,C,I,K,G1t _,aF,by simpa using aG,aq,V,by simpa using ar,by rw[G7n];exact W⟩⟩,T,U⟩)
       rw[aB,aD]at hk
       exact⟨γ,Φ,hk,.pv (.str s)⟩
    cases h
   cases h
  cases h
 ·cases h
  have e1:=Q0p N
  have Y:=Q0p Q
  cases e1
  cases Y
  exact⟨.string .empty,w,G5n w A it t none,γ,Φ,.refl m,.pv (.str [])⟩
 cases h
end
structure St where
 t:Nat->AV
 n:Nat
 h:List AObj
structure Orc where
 C:FuncId->List AV->List AObj->Option (List AV×List AObj)
 pf:FuncId->Bool
def Q6w:List AV->AV
 | [r]=>r
 | rs=>.tup rs
def retV:List Value->Value
 | [v]=>v
 | vs=>.tuple ⟨vs⟩
def Good(E:Env)(f:FuncId)(args:List AV)(H:List AObj)(rs:List AV)(H':List AObj):Prop:=
 ∀ (w:World) (Φ:Nat->Nat->Prop) (γ:List Gh) (b:List Value),OInv E γ H Φ w->b.length=args.length->(∀ (i:Nat) v a,b[i]?=some v->args[i]?=some a->ARel γ H Φ w v a)->
  Calls E.P f ⟨b⟩ w λe w'=>∃vs d Φ',e=.returned (retV vs)/\Ok E γ H Φ w d H' Φ' w'/\vs.length=rs.length/\∀ (i:Nat) v a,vs[i]?=some v->rs[i]?=some a->ARel d H' Φ' w' v a
def Q2d(E:Env)(O:Orc):Prop:=∀f args H rs H',O.C f args H=some (rs,H')->Good E f args H rs H'/\∃fn,E.P.funcs[f]?=some fn/\fn.body.isSome=true/\(fn.name=="runtime.NumGoroutine")=false
def X4m(O:Orc)(H:List AObj)(f:FuncId)(args:List AV):Option AV:=
 match Q6t H args with
 | some ps=>match O.C f (ps.map AV.pv) []with
   | some (rs,[])=>match Z9a rs with
     | some _=>some (Q6w rs)
     | none=>none
   | _=>none
 | none=>none
def Q5c:List AV->List Nat
 | []=>[]
 | .ref l _::r|.vec l _::r|.vptr l _ _ _::r=>l::Q5c r
 | .fn _ a::r=>a++Q5c r
 | _::r=>Q5c r
def Q1t(H:List AObj):List AV->List Nat
 | []=>[]
 | a::r=>(match toPV H a with
   | some _=>[]
   | none=>match a with
     | .ref l _|.vec l _|.vptr l _ _ _=>[l]
     | .fn _ b=>b
     | .agg vs=>Q5c vs
     | _=>[])++Q1t H r
def Q1k(H:List AObj):List Nat->List Nat
 | []=>[]
 | l::r=>(match H[l]? with
   | some (.var cs)=>Q5c cs
   | _=>[])++Q1k H r
def Q6f:List Nat->List Nat
 | []=>[]
 | x::r=>if (Q6f r).contains x then Q6f r else x::Q6f r
theorem Q7z:∀l:List Nat,(Q6f l).Nodup
 | []=>by simp[Q6f]
 | x::r=>by
   unfold Q6f
   split
   ·exact Q7z r
   rename_i h
   exact G5r.2 ⟨by simpa using h,Q7z r⟩
def Q1a(H:List AObj)(f:Nat->Option Nat):List AV->Option (List AV)
 | []=>some []
 | a::r=>match (match toPV H a with|some p=>some (AV.pv p)|none=>a.ren f),Q1a H f r with
   | some b,some s=>some (b::s)
   | _,_=>none
def Q4u(O:Orc)(H:List AObj)(f:FuncId)(args:List AV):Option (AV×List AObj):=
 let base:=Q1t H args
 let sel:=Q6f (base++Q1k H base)
 match Q1c H (idx sel) sel,Q1a H (idx sel) args with
 | some Hs,some az=>match O.C f az Hs with
   | some (rs,H')=>if sel.length<=H'.length then some (Q6w (rs.map (AV.mapL (Q6z H.length sel))),Q0r H sel H')else none
   | none=>none
 | _,_=>none
def fieldAt(E:Env)(a:TypeId)(f:Nat):Option (Nat×TypeId):=
 match E.P.underlying a with
 | some (.struct fields)=>(fields[f]?).map λfd=>(fd.offset,fd.type)
 | _=>none
def Z7j(T:Nat->Option TI)(t off:Nat)(x:AV):Option AV:=
 match T t,x with
 | some ti,.pv (.agg cs)=>(Q5o ti (cs.drop off)).map .pv
 | some ti,.agg vs=>match ti.k with
   | .strct _=>none
   | .other=>none
   | _=>vs[off]?
 | _,_=>none
def Z0s(E:Env)(a:TypeId)(f:Nat)(x:AV):Option AV:=
 match fieldAt E a f with
 | some (off,t)=>Z7j E.T t off x
 | none=>none
def qmkI(E:Env)(a:TypeId):AV->Option AV
 | .pv p=>match E.P.underlying a with
   | some (.interface _)=>none
   | some _=>some (.ifc a p)
   | none=>none
 | _=>none
theorem J5o{E:Env}{γ:List Gh}{H:List AObj}{Φ:Nat->Nat->Prop}{w:World}{y:TypeId}{f:Nat}{v:Value}{x r:AV}(C:ARel γ H Φ w v x)(h:Z0s E y f x=some r):∃u,(Instr.field y v f).run E.P w=.ok u w/\ARel γ H Φ w u r:=by
 unfold Z0s at h
 split at h
 ·rename_i off t l
  unfold fieldAt at l
  split at l
  ·rename_i fields hd
   obtain⟨fd,K,L⟩:=G0k.1 l
   injection L with M N
   subst M N
   unfold Z7j at h
   have D:∀cs:Array Value,(Instr.field y (.agg cs) f).run E.P w=(part fd.type cs fd.offset).run E.P w:=λcs=>by
    unfold Instr.field
    simp only[bind,G1n,G1c hd,G1b]
    simp only[K,asAgg]
    rfl
   have F:∀ (cs:Array Value) (d:TypeDesc) (u:Value),E.P.underlying fd.type=some d->Q8y d=false->cs[fd.offset]?=some u->(part fd.type cs fd.offset).run E.P w=.ok u w:=λcs d u b z g=>by
    unfold part
    simp only[bind,G1n,Q4m b,z,G1b,G3a,G2v,g]
    rfl
   have P:∀ (cs:Array Value) (d:TypeDesc) (i:TypeInfo),E.P.underlying fd.type=some d->Q8y d=true->E.P.info? fd.type=some i->(part fd.type cs fd.offset).run E.P w=.ok (.agg (cs.extract fd.offset (fd.offset+i.size))) w:=λcs d i b z m=>by
    unfold part
    simp only[bind,G1n,Q4m b,z,G1b,if_true,Q1q m]
    rfl
   split at h
   ·rename_i ti cs A
    obtain⟨p,a,rfl⟩:=G0k.1 h
    obtain⟨i,d,m,hs,_,b,hk,_⟩:=(E.hT _ _ A).info
    have Q:=Q0p C
    cases Q with
    | agg vs cs I J n=>
      rw[D]
      unfold Q5o at a
      split at a
      ·rename_i o S
       split at a
       ·rename_i T
        simp only[G0c]at a
        subst a
        rw[S]at hk
        obtain⟨W,U,_⟩:=Q9w hk
        refine⟨_,P _ d i b (by rw[U];rfl) m,.pv ?_⟩
        rw[show(⟨vs⟩:Array Value).extract fd.offset (fd.offset+i.size)=⟨(vs.drop fd.offset).take ti.size⟩ from by
         apply G6h
         simp[hs,List.take_drop,G5s]]
        rw[G1w]at T
        refine .agg _ _ (by simp[I]) (λc q=>J c (G3u (G4c q))) (λk u c g q=>?_)
        have V:k<ti.size:=by
         have:=(G0j.1 g).1
         simp only[G1v]at this
         omega
        rw[G2a,if_pos V,G2e]at g q
        exact n _ u c g q
       cases a
      ·cases a
      rename_i k1 k2
      rw[G2e,G3m]at a
      have j:fd.offset<vs.length:=by
       have:=(G0j.1 a).1
       omega
      exact⟨vs[fd.offset],F _ d _ b (Z2d hk (λo e=>k1 o e) (λe=>k2 e)) (by simp[j]),.pv (n _ _ _ (G0f j) a)⟩
   ·rename_i ti us A
    obtain⟨i,d,m,hs,_,b,hk,_⟩:=(E.hT _ _ A).info
    cases C with
    | agg ws us I J n=>
      rw[D]
      split at h
      ·cases h
      ·cases h
      rename_i k1 k2
      have j:fd.offset<ws.length:=by
       have:=(G0j.1 h).1
       omega
      exact⟨ws[fd.offset],F _ d _ b (Z2d hk (λo e=>k1 o e) (λe=>k2 e)) (by simp[j]),n _ _ _ (G0f j) h⟩
   cases h
  cases l
 cases h
theorem X4j{E:Env}{γ:List Gh}{H:List AObj}{Φ:Nat->Nat->Prop}{w:World}{a:TypeId}{v:Value}{x r:AV}(b:ARel γ H Φ w v x)(h:qmkI E a x=some r):(Instr.makeInterface a v).run E.P w=.ok (.iface a v) w/\ARel γ H Φ w (.iface a v) r:=by
 unfold qmkI at h
 split at h
 ·split at h
  ·cases h
  ·rename_i d e hd
   cases h
   refine⟨?_,.ifc _ _ _ (Q0p b)⟩
   unfold Instr.makeInterface
   simp only[bind,G1n,G1c hd,G1b]
   cases d<;>first|rfl|exact absurd rfl (e _)
  cases h
 cases h
def aop(E:Env)(O:Orc)(σ:St)(o:Oper):Option (AV×List AObj):=
 match o.op with
 | .alloc d=>J6o E σ.h d
 | .box _ x=>ebox σ.h (ev σ.t x)
 | .buildSlice d len Q0l=>if (len==0&&E.ownT d)=true then Q9e E σ.h d len (Q0l.toList.map λp=>(p.1,ev σ.t p.2))else Q3f E σ.h d len (Q0l.toList.map λp=>(p.1,ev σ.t p.2))
 | .store d p x=>(J6l E σ.h d (ev σ.t p) (ev σ.t x)).map λh=>(.any,h)
 | .makeSlice d a b=>Q5i E σ.h d (ev σ.t a) (ev σ.t b)
 | .call ⟨.builtin .append,args,e⟩=>match args.toList,e.toList with
   | [x,y],[g,j]=>if g=j then Z4d E σ.h g (ev σ.t x) (ev σ.t y)else Q6p E σ.h g j (ev σ.t x) (ev σ.t y)
   | _,_=>none
 | .call ⟨.builtin .unsafeSliceData,args,_⟩=>match args.toList with
   | [x]=>(J0y σ.h (ev σ.t x)).map λr=>(r,σ.h)
   | _=>none
 | .call ⟨.builtin .unsafeString,args,e⟩=>match args.toList,e.toList with
   | [x,y],[n,_]=>(X4i E σ.h n (ev σ.t x) (ev σ.t y)).map λr=>(r,σ.h)
   | _,_=>none
 | .call ⟨.value (.func f),args,_⟩=>if O.pf f then(X4m O σ.h f (args.toList.map (ev σ.t))).map λr=>(r,σ.h)else Q4u O σ.h f (args.toList.map (ev σ.t))
 | .call ⟨.value (.tmp i),args,_⟩=>match σ.t i with
   | .fn f m=>if O.pf f then(X4m O σ.h f (args.toList.map (ev σ.t)++m.map λl=>.ref l 0)).map λr=>(r,σ.h)else Q4u O σ.h f (args.toList.map (ev σ.t)++m.map λl=>.ref l 0)
   | _=>none
 | .call ⟨.builtin .min,args,_⟩=>(qmm false (args.toList.map (ev σ.t))).map λr=>(r,σ.h)
 | .call ⟨.builtin .max,args,_⟩=>(qmm true (args.toList.map (ev σ.t))).map λr=>(r,σ.h)
 | .build d ps=>if E.ownT d then(Z7s E.T d (ps.toList.map λp=>(p.1,ev σ.t p.2))).map λr=>(r,σ.h)else(qval E.T σ.t σ.h (.build d ps)).map λr=>(r,σ.h)
 | .field d x f=>(Z0s E d f (ev σ.t x)).map λr=>(r,σ.h)
 | .makeInterface d x=>(qmkI E d (ev σ.t x)).map λr=>(r,σ.h)
 | .binOp op d x y _=>if Z8i y then(J5l E.T op d (ev σ.t x)).map λr=>(r,σ.h)else match E.eqT d with
   | some ks=>(qeq ks op (ev σ.t x) (ev σ.t y)).map λr=>(r,σ.h)
   | none=>(qbin E.T op d (ev σ.t x) (ev σ.t y)).map λr=>(r,σ.h)
 | op=>(qval E.T σ.t σ.h op).map λr=>(r,σ.h)
def put(σ:St)(dst:Option Nat)(v:AV)(h:List AObj):Option St:=
 match dst with
 | none=>some { σ with h:=h }
 | some d=>if d<σ.n then some { t:=upd σ.t d v,n:=σ.n,h:=h } else none
def Q9i(E:Env)(O:Orc)(ops:Array Oper)(σ:St)(o:Oper):Option St:=
 match o.guard with
 | none=>(aop E O σ o).bind λr=>put σ o.dst r.1 r.2
 | some (j,a)=>match (ops[j]?).bind (·.dst)with
   | some g=>match σ.t g with
     | .pv (.bool b)=>if b=a then(aop E O σ o).bind λr=>put σ o.dst r.1 r.2 else put σ o.dst (.tup []) σ.h
     | .tup []=>put σ o.dst (.tup []) σ.h
     | _=>none
   | none=>none
def arun(E:Env)(O:Orc)(ops:Array Oper):List Oper->St->Option St
 | [],σ=>some σ
 | o::r,σ=>(Q9i E O ops σ o).bind (arun E O ops r)
structure Rel(E:Env)(γ₀:List Gh)(H₀:List AObj)(Φ₀:Nat->Nat->Prop)(w₀:World)(σ:St)(a:Act)(w:World):Prop where
 ex:∃γ Φ,Ok E γ₀ H₀ Φ₀ w₀ γ σ.h Φ w/\Slots γ σ.h Φ w a σ.t
 size:a.tmps.size=σ.n
 defers:a.defers=E.dfs
 len0:γ₀.length=H₀.length
section
variable {E:Env}{O:Orc}{γ₀:List Gh}{H₀:List AObj}{Φ₀:Nat->Nat->Prop}{w₀:World}
theorem X6v{γ:List Gh}{H:List AObj}{Φ:Nat->Nat->Prop}{w:World}{a:Act}{t:Nat->AV}(hs:Slots γ H Φ w a t){d:Nat}(hd:d<a.tmps.size){u:Value}{r:AV}(f:ARel γ H Φ w u r):
 Slots γ H Φ w (a.put (some d) u) (upd t d r):=by
 intro i
 show ARel γ H Φ w ((a.tmps.setIfInBounds d u).getD i undef) (upd t d r i)
 unfold upd
 rw[G2w,G4y]
 by_cases b:d=i
 ·subst b
  simp[hd,f]
 rw[if_neg b,if_neg (λe=>b e.symm),<-G2w]
 exact hs i
theorem J2t{σ σ':St}{a:Act}{γ e:List Gh}{Φ Φ':Nat->Nat->Prop}{w w':World}{H':List AObj}(g:Ok E γ₀ H₀ Φ₀ w₀ γ σ.h Φ w)(hs:Slots γ σ.h Φ w a σ.t)(f:a.tmps.size=σ.n)(hd:a.defers=E.dfs)(j:γ₀.length=H₀.length)
 (hk:Ok E γ σ.h Φ w e H' Φ' w') {dst:Option Nat} {u:Value} {r:AV} (m:dst=none\/ARel e H' Φ' w' u r) (b:put σ dst r H'=some σ'):Rel E γ₀ H₀ Φ₀ w₀ σ' (a.put dst u) w':=by
 have l:Slots e H' Φ' w' a σ.t:=λi=>(hs i).mono hk.evo
 unfold put at b
 cases dst with
 | none=>
   simp only[G0c]at b
   subst b
   exact⟨⟨e,Φ',g.trans hk,l⟩,f,hd,j⟩
 | some d=>
   simp only at b
   split at b
   ·rename_i n
    simp only[G0c]at b
    subst b
    rcases m with h|h
    ·cases h
    exact⟨⟨e,Φ',g.trans hk,X6v l (by rw[f];exact n) h⟩,by simp[Act.put,f],hd,j⟩
   cases b
theorem Q6j{H:List AObj}{f:Nat->Option Nat}:∀ {az bs:List AV},Q1a H f az=some bs->az.length=bs.length/\∀ (i:Nat) a b,az[i]?=some a->bs[i]?=some b->(∃p,toPV H a=some p/\b=.pv p)\/a.ren f=some b
 | [],bs,h=>by
   simp only[Q1a,G0c]at h
   subst h
   exact⟨rfl,λi a p g=>by simp at g⟩
 | a::az,bs,h=>by
   simp only[Q1a]at h
   split at h
   ·rename_i b s hb hs
    simp only[G0c]at h
    subst h
    obtain⟨j,l⟩:=Q6j hs
    refine⟨by simp[j],λi c d e hd=>?_⟩
    cases i with
    | zero=>
      simp only[G0s,G0c]at e hd
      subst e hd
      split at hb
      ·rename_i p m
       simp only[G0c]at hb
       exact .inl ⟨p,m,hb.symm⟩
      exact .inr hb
    | succ i=>rw[G1f]at e hd;exact l i c d e hd
   cases h
theorem X7d{γ:List Gh}{H:List AObj}{Φ:Nat->Nat->Prop}{w:World}{vs:List Value}{rs:List AV}(b:vs.length=rs.length)(h:∀ (i:Nat) v a,vs[i]?=some v->rs[i]?=some a->ARel γ H Φ w v a):ARel γ H Φ w (retV vs) (Q6w rs):=by
 match vs,rs,b with
 | [],[],_=>exact .tup [] [] rfl (λk v c d=>by simp at d)
 | [v],[r],_=>exact h 0 v r rfl rfl
 | v::v'::vs,r::e::rs,b=>exact .tup _ _ b h
 | [v],r::e::rs,b=>simp at b
 | v::v'::vs,[r],b=>simp at b
end
end Go.Abs
