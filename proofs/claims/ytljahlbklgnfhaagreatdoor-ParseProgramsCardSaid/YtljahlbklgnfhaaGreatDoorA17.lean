import Derived.Test.YtljahlbklgnfhaaGreatDoorA13
import Derived.Lib.FrozenHead
import Derived.Test.YtljahlbklgnfhaaGreatDoorA16
import Derived.Tactics
set_option linter.unusedVariables false
set_option linter.unusedSimpArgs false
set_option linter.defProp false
namespace Go.Abs
open Go.RowKit
def Q5y(E:Env)(H:List AObj)(a t2:TypeId)(x y:AV):Option (AV×List AObj):=
 match E.T a,E.T t2,y with
 | some ⟨.slice e,_,_,_⟩,some ⟨.str,_,_,_⟩,.pv (.str s)=>match E.T e with
   | some ⟨.int .u8,1,1,some [.int .u8 0]⟩=>match x with
     | .nils=>if s.length<=140737488355328/\s.isEmpty=false then some (.vec H.length s.length,H++[.brow e s])else if s.isEmpty=true then some (.nils,H)else none
     | .vec l n=>match H[l]? with
       | some (.brow d b)=>if n=b.length/\d=e/\b.length+s.length<=140737488355328 then some (.vec l (b.length+s.length),H.set l (.brow e (b++s)))else none
       | _=>none
     | _=>none
   | _=>none
 | _,_,_=>none
def Z8d(H:List AObj):AV->Option AV
 | .vec l n=>match H[l]? with
   | some (.brow _ s)=>if s.length=n/\s.isEmpty=false then some (.vptr l n 0 0)else none
   | _=>none
 | .nils=>some (.pv .nilp)
 | _=>none
def J8y(E:Env)(H:List AObj)(a:TypeId):AV->AV->Option AV
 | .vptr l n 0 0,.pv (.int .i64 k)=>match E.T a,H[l]? with
   | some ⟨.ptr e,_,_,_⟩,some (.brow b s)=>match E.T e with
     | some ⟨.int .u8,1,1,_⟩=>if e=b/\k=s.length/\n=s.length/\s.isEmpty=false then some (.pv (.str s))else none
     | _=>none
   | _,_=>none
 | .pv .nilp,.pv (.int .i64 0)=>some (.pv (.str []))
 | _,_=>none
def Q5c(s:List UInt8):List Value:=s.map λu=>Value.int .u8 u.toNat
section
variable {E:Env}{γ:List Gh}{H:List AObj}{Φ:Nat->Nat->Prop}{w:World}
theorem Z0h(s:List UInt8):Lib.strCells ⟨⟨s⟩⟩=Q5c s:=rfl
theorem Z6o(t u m e:TypeId)(i:TypeInfo)(y:E.P.underlying t=some (.slice e))(z:E.P.underlying u=some .string)(A:E.P.info? e=some i)(F:i.zero=some (.int .u8 0))(C:i.size=1)(I:i.bytes=1)
 (v:Value) (n:Nat) (xs:List Value) (o:w.ownsRowF 0 e 1 v n xs) (s:List UInt8) (L:n+s.length<=140737488355328):
 ∃v' w',(Builtin.append_ #[t,u] m #[v,.string ⟨⟨s⟩⟩]).run E.P w=.ok v' w'/\w'.ownsRowF 0 e 1 v' (n+s.length) (xs++Q5c s)/\w.grownBy w' v.ownBlock/\(∀b,v'.ownBlock=some b->v.ownBlock=some b\/w.heap.size<=b)/\(s=[]->v'=v):=by
 have a:(⟨⟨s⟩⟩:ByteArray).size=s.length:=rfl
 have J:n+s.length<=maxLen:=by unfold maxLen;omega
 rcases o.2 with⟨rfl,rfl⟩|⟨g,cap,d,fz,rfl,M,K,N,ae,Q,S,T⟩
 ·obtain⟨v',w',U,p,V,W⟩:=Lib.run_append_own_stringF (P:=E.P) w w.heap.size t u m e i y z A F C I (.slice none 0 0) 0 xs ⟨o.1,.inl ⟨rfl,rfl⟩⟩ ⟨⟨s⟩⟩ (by rw[a];exact J) (by rw[a];exact L) (G0o _)
  rw[a,Z0h]at p
  refine⟨v',w',U,⟨p.1,p.2.imp id λ⟨g,cap,d,fz,f,hb,r⟩=>⟨g,cap,d,fz,f,G2l _,r⟩⟩,V,λb hb=>?_,λhs=>W.2 ⟨rfl,by rw[a,hs];rfl⟩⟩
  rcases p.2 with⟨f,hn⟩|⟨g,cap,d,fz,f,ag,_⟩
  ·rw[f]at hb
   cases hb
  rw[f]at hb
  simp only[Value.ownBlock,G0b]at hb
  exact .inr (by omega)
 have D:xs.length=n:=by simpa using o.1
 have q:(xs++Q5c s).length=(n+s.length) * 1:=by simp[D,Q5c]
 have ah:d.size=cap:=by simpa using S
 by_cases x:n+s.length<=cap
 ·have l:=Lib.run_append_room_stringF (P:=E.P) w t u m e i y z A C g n cap d fz K (by simpa using N) ⟨⟨s⟩⟩ (by rw[a];exact x) (by rw[a];omega)
  rw[a,Z0h]at l
  refine⟨_,_,l,⟨q,.inr ⟨g,cap,_,fz,rfl,M,setRow_heap w g d _ e _ K,by omega,x,Q,?_,?_⟩⟩,⟨rfl,rfl,rfl,by simp,λk _ hk=>setRow_other w g k _ (λe=>hk (by simp[Value.ownBlock,e]))⟩,λb hb=>.inl hb,λhs=>by rw[hs];rfl⟩
  ·simp only[G4h,G0i,G1h,G0p,G1j,Q5c,G1m]
   omega
  have X:d.toList.take n=xs:=by simpa using T
  rw[X,<-q]
  exact G6b
 have Y:∀j u,xs[j]?=some u->w.cell? ((⟨g,0,none⟩:Addr).add j)=some u:=o.cells (g:=g) rfl
 have l:=Lib.run_append_grow_string (P:=E.P) w t u m e i (.int .u8 0) y z A F ⟨g,0,none⟩ n cap xs (by rw[C];simpa using D) Y ⟨⟨s⟩⟩ (by rw[a];omega) (by rw[a];omega) (by rw[I,a];exact growslice_fits (by omega) (by omega))
 have aa:=grownCap_ge w (n+s.length) cap e
 have ac:grownCap w (n+s.length) cap e<=maxLen:=grownCap_le_maxLen w (n+s.length) cap e J
 rw[a,Z0h]at l
 refine⟨_,_,l,⟨q,.inr ⟨w.heap.size,_,_,(0,0),rfl,G2l _,heap_alloc_new w.drew _,G2l _,aa,ac,?_,?_⟩⟩,⟨rfl,rfl,rfl,by simp,λk hk _=>heap_alloc_old w.drew _ k hk⟩,λb hb=>.inr (by simp only[Value.ownBlock,G0b]at hb;omega),λhs=>?_⟩
 ·have ad:(Value.int IntKind.u8 0).cells.size=1:=rfl
  simp only[Array.size_append,G4h,size_zeroCells,ad,D,Q5c,G1m]
  omega
 ·simp only[Array.toList_append,G0z]
  rw[<-G0z,<-q]
  exact G6b
 rw[hs]at x
 simp only[G0j]at x
 omega
theorem Q3w{e:TypeId}{sz n:Nat}{v:Value}{cells:List Value}(h:w.ownsRowF 0 e sz v n cells):∃A c,v=.slice A n c/\(0<n->∃b,A=some ⟨b,0,none⟩):=by
 rcases h.2 with⟨rfl,rfl⟩|⟨g,cap,cur,fz,rfl,_⟩
 ·exact⟨none,0,rfl,λh=>absurd h (by omega)⟩
 exact⟨_,_,rfl,λ_=>⟨g,rfl⟩⟩
theorem J7o{v:Value}{l n:Nat}{e:TypeId}{s:List UInt8}{g:Gh}(a:ARel γ H Φ w v (.vec l n))(b:H[l]?=some (.brow e s))(d:γ[l]?=some g)(i:n=s.length):v=g.v:=by
 cases a with
 | vec A l n cap j k len0 hrow m o f=>
   unfold rowAt at hrow
   rw[b]at hrow
   simp only[G0a,Q1o,G0b,G1d]at hrow
   have:=f (by omega)
   simp only[gv,d,G0w,G0b]at this
   exact this.symm
theorem X0h{e:TypeId}{z:Option (List PV)}(hT:E.T e=some ⟨.int .u8,1,1,z⟩):∃i,E.P.info? e=some i/\i.size=1/\i.bytes=1/\(z=some [.int .u8 0]->i.zero=some (.int .u8 0)):=by
 obtain⟨i,d,b,hs,hb,_,_,f⟩:=(E.hT _ _ hT).info
 refine⟨i,b,hs,hb,λg=>?_⟩
 subst g
 obtain⟨zv,j,o,_,k,_,l⟩:=f _ rfl
 have m:=l (λp=>by simp)
 have n:=k 0 zv (.int .u8 0) (by rw[m];rfl) rfl
 have a:=n.2.1 (λ_ _=>False) default
 rw[j]
 generalize zv=x at a
 cases a
 rfl
theorem Z7v(d:OInv E γ H Φ w){z t2 t:TypeId}{v u:Value}{x y r:AV}{H':List AObj}(C:ARel γ H Φ w v x)(W:ARel γ H Φ w u y)(h:Q5y E H z t2 x y=some (r,H')):
 ∃v' w',(Builtin.append_ #[z,t2] t #[v,u]).run E.P w=.ok v' w'/\Q7w E γ H Φ w r H' v' w':=by
 unfold Q5y at h
 split at h
 ·rename_i e _ _ _ _ _ _ s X Y
  obtain⟨d1,m,aa⟩:=(E.hT _ _ X).und
  obtain⟨d2,o,ac⟩:=(E.hT _ _ Y).und
  have m:=Q3u aa▸m
  have o:=Z3g ac▸o
  have hu:=Q0o W
  cases hu
  split at h
  ·rename_i ae
   obtain⟨i,K,hs,hb,S⟩:=X0h ae
   split at h
   ·cases C
    split at h
    ·rename_i a
     simp only[G0b,G1d]at h
     obtain⟨rfl,rfl⟩:=h
     obtain⟨v',w',L,f,hG,M,_⟩:=Z6o (E:=E) (w:=w) z t2 t e i m o K (S rfl) hs hb (.slice none 0 0) 0 [] ⟨rfl,.inl ⟨rfl,rfl⟩⟩ s (by omega)
     rw[G2y,G1y]at f
     refine⟨v',w',L,?_⟩
     have p:∀b,v'.ownBlock=some b->w.heap.size<=b/\b<w'.heap.size:=by
      intro b hb
      refine⟨(M b hb).elim (λh=>by cases h) id,?_⟩
      rcases f.2 with⟨j,_⟩|⟨g,cap,af,fz,j,_,q,_⟩
      ·rw[j]at hb
       cases hb
      rw[j]at hb
      simp only[Value.ownBlock,G0b]at hb
      exact hb▸(G1b.1 q).1
     obtain⟨A,c,N,P⟩:=Q3w f
     refine⟨γ++[⟨v',v'.ownBlock.toList⟩],Φ,d.pushObj (λb hb=>hG.block b hb (by simp[Value.ownBlock])) hG.size hG.os hG.tape hG.output (λ_ _ h=>h) (λb k h _=>h) (λb k h=>G1f (d.phi b k h) hG.size) _ _ (λb hb=>p b (by simpa using hb)) (λhE=>?_),?_⟩
     ·exact⟨f,rfl,λb hb k hk=>by have:=d.phi b k hk;have:=(p b hb).1;omega⟩
     rw[N]
     refine .vec A _ _ c e 1 s.length (by unfold rowAt;simp[Q1o]) (G0o _) P (λ_=>?_)
     unfold gv
     rw[<-d.len]
     simp
    split at h
    ·rename_i a
     simp only[G0b,G1d]at h
     obtain⟨rfl,rfl⟩:=h
     have ah:s=[]:=List.isEmpty_iff.1 a
     subst ah
     refine⟨.slice none 0 0,w,?_,γ,Φ,.refl d,.nils⟩
     simp[Builtin.append_,run_underlying m,run_underlying o,sizeOf,typeInfo,K,Builtin.lenOf,Builtin.firstCells]
     rw[if_pos (show(⟨⟨[]⟩⟩:ByteArray)=ByteArray.empty from rfl)]
     rfl
    cases h
   ·rename_i l n
    split at h
    ·rename_i T b D
     split at h
     ·rename_i a
      obtain⟨Q,rfl,aj⟩:=a
      simp only[G0b,G1d]at h
      obtain⟨rfl,rfl⟩:=h
      obtain⟨g,q,hO⟩:=d.gh D
      obtain⟨f,al,U⟩:=hO
      have am:=J7o C D q Q
      subst am
      obtain⟨v',w',L,F,hG,M,ao⟩:=Z6o (E:=E) (w:=w) z t2 t T i m o K (S rfl) hs hb g.v b.length (Q5c b) f s aj
      have I:(b++s).length=b.length+s.length:=G0i
      have aq:Q5c b++Q5c s=Q5c (b++s):=by simp[Q5c]
      rw[aq,<-I]at F
      refine⟨v',w',L,?_⟩
      have J:∀c,c∈g.own↔g.v.ownBlock=some c:=λc=>by rw[al];simp
      have p:∀c,v'.ownBlock=some c->(c∈g.own\/w.heap.size<=c)/\c<w'.heap.size:=by
       intro c a
       refine⟨(M c a).imp (J c).2 id,?_⟩
       rcases F.2 with⟨j,_⟩|⟨g',cap,af,fz,j,_,ar,_⟩
       ·rw[j]at a
        cases a
       rw[j]at a
       simp only[Value.ownBlock,G0b]at a
       exact a▸(G1b.1 ar).1
      obtain⟨A,c,N,P⟩:=Q3w F
      obtain⟨A0,c0,au,_⟩:=Q3w f
      refine⟨γ.set l ⟨v',v'.ownBlock.toList⟩,Φ,d.setObj D q (λc a Q=>hG.block c a (λhh=>Q ((J c).2 hh.symm))) hG.size hG.os hG.tape hG.output (λ_ _ h=>h) (λc k h _ _=>h) (λc k h=>G1f (d.phi c k h) hG.size)
       (λc k h a=>absurd h (U c ((J c).1 a) k)) (λc a=>p c (by simpa using a)) (.inr ⟨A0,_,c0,au⟩) (λe1 aB n1 V=>?_) (λhE=>?_),?_⟩
      ·simp only[Q1o,G0b,G1d]at V
       obtain⟨rfl,rfl,rfl⟩:=V
       exact⟨_,rfl,by rw[I];omega,λC=>ao (G1g (by rw[I]at C;omega))⟩
      ·exact⟨F,rfl,λc a k hk=>(p c a).1.elim (λh=>U c ((J c).1 h) k hk) (λh=>by have:=d.phi c k hk;omega)⟩
      rw[N,<-I]
      have aw:l<H.length:=(G0f.1 D).1
      have ax:l<γ.length:=(G0f.1 q).1
      refine .vec A l _ c T 1 (b++s).length (by unfold rowAt;rw[G1c aw];rfl) (G0o _) P (λ_=>?_)
      unfold gv
      rw[G1c ax]
      simp
     cases h
    cases h
   cases h
  cases h
 cases h
theorem Z8q{e:TypeId}{s:List UInt8}{v:Value}(d:w.ownsRowF 0 e 1 v s.length (Q5c s))(hs:s.isEmpty=false):∃b cap a fz,v=.slice (some ⟨b,0,none⟩) s.length cap/\w.heap[b]?=some (.cells a e fz)/\fz.2<=s.length/\s.length<=cap/\cap<=maxLen/\a.size=cap/\a.toList.take s.length=Q5c s:=by
 rcases d.2 with⟨_,f⟩|⟨g,cap,a,fz,i,_,j,k,l,m,n,o⟩
 ·have:s=[]:=G1g f
  subst this
  cases hs
 exact⟨g,cap,a,fz,i,j,by simpa using k,l,m,by simpa using n,by simpa using o⟩
theorem J2a(m:OInv E γ H Φ w){ts:Array TypeId}{t:TypeId}{v:Value}{x r:AV}(i:ARel γ H Φ w v x)(h:Z8d H x=some r):∃u,(Builtin.unsafeSliceData_ ts t #[v]).run E.P w=.ok u w/\ARel γ H Φ w u r:=by
 unfold Z8d at h
 split at h
 ·rename_i l n
  split at h
  ·rename_i e s f
   split at h
   ·rename_i d
    cases h
    obtain⟨g,j,o⟩:=m.gh f
    have p:=J7o i f j d.1.symm
    subst p
    obtain⟨b,cap,q,fz,k,hb,_,y,_⟩:=Z8q o.1 d.2
    have z:0<s.length:=by
     cases s with
     | nil=>simp at d
     | cons a s=>simp
    rw[k]
    refine⟨_,Lib.run_unsafeSliceData_row w ts t _ _ _ (by omega),.vptr b 0 l n 0 0 e 1 s.length (by unfold rowAt;rw[f];rfl) (by omega) (λ_=>⟨cap,?_,rfl⟩)⟩
    unfold gv
    rw[j,<-d.1,G0w,k]
   cases h
  cases h
 ·cases h
  cases i
  exact⟨_,Lib.run_unsafeSliceData_nil w ts t 0 0,.pv .nilp⟩
 cases h
theorem J5b(b n c:Nat)(h:c≠b):(w.freeze ⟨b,0,none⟩ n).heap[c]?=w.heap[c]?:=by
 unfold World.freeze
 split
 ·rfl
 simp only[G3s]
 rw[if_neg (λe=>h e.symm)]
theorem J4g(m:OInv E γ H Φ w){A it t:TypeId}{p k:Value}{x y r:AV}(M:ARel γ H Φ w p x)(N:ARel γ H Φ w k y)(h:J8y E H A x y=some r):∃u w',(Builtin.unsafeString_ #[A,it] t #[p,k]).run E.P w=.ok u w'/\Q7w E γ H Φ w r H u w':=by
 unfold J8y at h
 split at h
 ·rename_i l n k'
  split at h
  ·rename_i e _ _ _ e' s hT q
   split at h
   ·rename_i ag
    split at h
    ·rename_i f
     cases h
     obtain⟨rfl,rfl,rfl,I⟩:=f
     have ah:=Q0o N
     cases ah
     obtain⟨i,a,hs,_,_⟩:=X0h ag
     obtain⟨d,hd,aj⟩:=(E.hT _ _ hT).und
     have hd:=K5q aj▸hd
     obtain⟨g,z,hO⟩:=m.gh q
     obtain⟨Q,S,T⟩:=hO
     obtain⟨b,cap,C,fz,J,hb,al,am,U,ao,V⟩:=Z8q Q I
     have W:s≠[]:=by
      intro K
      rw[K]at I
      cases I
     cases M with
     | vptr b' o l n i' off X aH aI hrow Y aq=>
       unfold rowAt at hrow
       rw[q]at hrow
       simp only[G0a,Q1o,G0b,G1d]at hrow
       obtain⟨rfl,rfl,rfl⟩:=hrow
       obtain⟨aJ,D,ho⟩:=aq rfl
       unfold gv at D
       rw[z,G0w,J]at D
       simp only[G0b,Value.slice.injEq,Addr.mk.injEq,G5s,true_and]at D
       obtain⟨rfl,_⟩:=D
       have au:o=0:=by simpa using ho
       subst au
       have av:∀j x,s[j]?=some x->w.cell? ((⟨b,0,none⟩:Addr).add j)=some (.int .u8 x.toNat):=by
        intro j x hj
        have aw:=(G0f.1 hj).1
        rw[Addr.add_lit,G2y,cell_of_row w b j _ _ _ hb]
        have h2:(C.toList.take s.length)[j]?=(Q5c s)[j]?:=by rw[V]
        rw[G1l,if_pos aw,Q5c,G0x,hj,G0w]at h2
        rw[<-G1z]
        exact h2
       have ax:=Lib.run_unsafeString_row (P:=E.P) w A it t e hd (by unfold Program.cellsOf;rw[a];exact hs) b C.size (by simp[World.shape?,hb]) s W (by omega) (by unfold maxLen at U;omega) av
       refine⟨_,_,ax,?_⟩
       have ay:γ.set l g=γ:=by
        refine G3x λi=>?_
        by_cases a:i=l
        ·subst a
         rw[G1c (G0f.1 z).1,z]
        rw[G1e (Ne.symm a)]
       have az:H.set l (.brow e s)=H:=by
        refine G3x λi=>?_
        by_cases a:i=l
        ·subst a
         rw[G1c (G0f.1 q).1,q]
        rw[G1e (Ne.symm a)]
       have ad:g.v.ownBlock=some b:=by rw[J];rfl
       have ae:∀c,c∈g.own↔c=b:=λc=>by rw[S,ad];simp
       have L:(w.freeze ⟨b,0,none⟩ s.length).heap.size=w.heap.size:=by
        unfold World.freeze
        split<;>simp
       have aA:∃F,(w.freeze ⟨b,0,none⟩ s.length).heap[b]?=some (.cells C e F)/\F.2<=s.length:=by
        unfold World.freeze
        rw[if_neg (by intro K;exact W (G1g K))]
        simp only[G3s,if_true,hb,G0w]
        obtain⟨lo,a⟩:=fz
        refine⟨_,rfl,?_⟩
        simp only at al
        split<;>simp<;>omega
       obtain⟨F,aB,aC⟩:=aA
       have hk:=m.setObj (o':=.brow e s) (g':=g) (w':=w.freeze ⟨b,0,none⟩ s.length) (Φ':=Φ) q z (λc _ Y=>J5b b _ c (λe=>Y ((ae c).2 e))) (by rw[L];exact G0o _) (by unfold World.freeze;split<;>rfl) (by unfold World.freeze;split<;>rfl) (by unfold World.freeze;split<;>rfl)
        (λ_ _ h=>h) (λc k h _ _=>h) (λc k h=>by rw[L];exact m.phi c k h) (λc k h f=>absurd h (T c (by rw[(ae c).1 f];exact ad) k)) (λc f=>⟨.inl f,by rw[L];exact(m.own l g z c f).2⟩) (.inl rfl)
        (λe1 aL n1 hr=>⟨n1,hr,G0o _,λ_=>rfl⟩) (λ_=>⟨⟨Q.1,.inr ⟨b,cap,C,F,J,G2l _,aB,by simpa using aC,am,U,by simpa using ao,by rw[G6j];exact V⟩⟩,S,T⟩)
       rw[ay,az]at hk
       exact⟨γ,Φ,hk,.pv (.str s)⟩
    cases h
   cases h
  cases h
 ·cases h
  have e1:=Q0o M
  have X:=Q0o N
  cases e1
  cases X
  exact⟨.string .empty,w,Lib.run_unsafeString_none w A it t none,γ,Φ,.refl m,.pv (.str [])⟩
 cases h
end
end Go.Abs
namespace Go.Abs
open Go.RowKit
structure St where
 t:Nat->AV
 n:Nat
 h:List AObj
structure Orc where
 C:FuncId->List AV->List AObj->Option (List AV×List AObj)
 pf:FuncId->Bool
def Q1c:List AV->AV
 | [r]=>r
 | rs=>.tup rs
def retV:List Value->Value
 | [v]=>v
 | vs=>.tuple ⟨vs⟩
def Good(E:Env)(f:FuncId)(args:List AV)(H:List AObj)(rs:List AV)(H':List AObj):Prop:=
 ∀ (w:World) (Φ:Nat->Nat->Prop) (γ:List Gh) (b:List Value),OInv E γ H Φ w->b.length=args.length->(∀ (i:Nat) v a,b[i]?=some v->args[i]?=some a->ARel γ H Φ w v a)->
  Calls E.P f ⟨b⟩ w λe w'=>∃vs d Φ',e=.returned (retV vs)/\Ok E γ H Φ w d H' Φ' w'/\vs.length=rs.length/\∀ (i:Nat) v a,vs[i]?=some v->rs[i]?=some a->ARel d H' Φ' w' v a
def Q1p(E:Env)(O:Orc):Prop:=∀f args H rs H',O.C f args H=some (rs,H')->Good E f args H rs H'/\∃fn,E.P.funcs[f]?=some fn/\fn.body.isSome=true/\(fn.name=="runtime.NumGoroutine")=false
def J9d(O:Orc)(H:List AObj)(f:FuncId)(args:List AV):Option AV:=
 match Q6c H args with
 | some ps=>match O.C f (ps.map AV.pv) []with
   | some (rs,[])=>match Z6p rs with
     | some _=>some (Q1c rs)
     | none=>none
   | _=>none
 | none=>none
def Q4n:List AV->List Nat
 | []=>[]
 | .ref l _::r|.mref l::r|.vec l _::r|.vptr l _ _ _::r=>l::Q4n r
 | .fn _ a::r=>a++Q4n r
 | _::r=>Q4n r
def Q1l(H:List AObj):List AV->List Nat
 | []=>[]
 | a::r=>(match toPV H a with
   | some _=>[]
   | none=>match a with
     | .ref l _|.mref l|.vec l _|.vptr l _ _ _=>[l]
     | .fn _ b=>b
     | .agg vs=>Q4n vs
     | _=>[])++Q1l H r
def Q1j(H:List AObj):List Nat->List Nat
 | []=>[]
 | l::r=>(match H[l]? with
   | some (.var cs)=>Q4n cs
   | some (.hrow _ _ _ _ _ l _)=>[l]
   | _=>[])++Q1j H r
def Q5p:List Nat->List Nat
 | []=>[]
 | x::r=>if (Q5p r).contains x then Q5p r else x::Q5p r
theorem Q7n:∀l:List Nat,(Q5p l).Nodup
 | []=>by simp[Q5p]
 | x::r=>by
   unfold Q5p
   split
   ·exact Q7n r
   rename_i h
   exact G4i.2 ⟨by simpa using h,Q7n r⟩
def Q0v(H:List AObj)(f:Nat->Option Nat):List AV->Option (List AV)
 | []=>some []
 | a::r=>match (match toPV H a with|some p=>some (AV.pv p)|none=>a.ren f),Q0v H f r with
   | some b,some s=>some (b::s)
   | _,_=>none
def Q0x(O:Orc)(H:List AObj)(f:FuncId)(args:List AV):Option (AV×List AObj):=
 let base:=Q1l H args
 let sel:=Q5p (base++Q1j H base)
 match Q1a H (idx sel) sel,Q0v H (idx sel) args with
 | some Hs,some az=>match O.C f az Hs with
   | some (rs,H')=>if sel.length<=H'.length then some (Q1c (rs.map (AV.mapL (Q6i H.length sel))),Q0q H sel H')else none
   | none=>none
 | _,_=>none
def fieldAt(E:Env)(b:TypeId)(f:Nat):Option (Nat×TypeId):=
 match E.P.underlying b with
 | some (.struct fields)=>(fields[f]?).map λa=>(a.offset,a.type)
 | _=>none
def Q8g(T:Nat->Option TI)(t off:Nat)(x:AV):Option AV:=
 match T t,x with
 | some ti,.pv (.agg cs)=>(Q3e ti (cs.drop off)).map .pv
 | some ti,.agg vs=>match ti.k with
   | .strct _=>none
   | .other=>none
   | _=>vs[off]?
 | _,_=>none
def Q4k(E:Env)(a:TypeId)(f:Nat)(x:AV):Option AV:=
 match fieldAt E a f with
 | some (off,t)=>Q8g E.T t off x
 | none=>none
def qmkI(E:Env)(a:TypeId):AV->Option AV
 | .pv p=>match E.P.underlying a with
   | some (.interface _)=>none
   | some _=>some (.ifc a p)
   | none=>none
 | _=>none
theorem J2g{E:Env}{γ:List Gh}{H:List AObj}{Φ:Nat->Nat->Prop}{w:World}{y:TypeId}{f:Nat}{v:Value}{x r:AV}(C:ARel γ H Φ w v x)(h:Q4k E y f x=some r):∃u,(Instr.field y v f).run E.P w=.ok u w/\ARel γ H Φ w u r:=by
 unfold Q4k at h
 split at h
 ·rename_i off t m
  unfold fieldAt at m
  split at m
  ·rename_i fields hd
   obtain⟨a,L,M⟩:=G0g.1 m
   injection M with N P
   subst N P
   unfold Q8g at h
   have D:∀cs:Array Value,(Instr.field y (.agg cs) f).run E.P w=(part a.type cs a.offset).run E.P w:=λcs=>by
    unfold Instr.field
    simp only[bind,Sem.run_bind',run_underlying hd,Result.andThen_ok]
    simp only[L,asAgg]
    rfl
   have F:∀ (cs:Array Value) (d:TypeDesc) (u:Value),E.P.underlying a.type=some d->Q8m d=false->cs[a.offset]?=some u->(part a.type cs a.offset).run E.P w=.ok u w:=λcs d u g z j=>by
    unfold part
    simp only[bind,Sem.run_bind',Q4b g,z,Result.andThen_ok,G2z,G2i,j]
    rfl
   have Q:∀ (cs:Array Value) (d:TypeDesc) (i:TypeInfo),E.P.underlying a.type=some d->Q8m d=true->E.P.info? a.type=some i->(part a.type cs a.offset).run E.P w=.ok (.agg (cs.extract a.offset (a.offset+i.size))) w:=λcs d i g z n=>by
    unfold part
    simp only[bind,Sem.run_bind',Q4b g,z,Result.andThen_ok,if_true,Q1f n]
    rfl
   split at h
   ·rename_i ti cs A
    obtain⟨p,b,rfl⟩:=G0g.1 h
    obtain⟨i,d,n,hs,_,g,hk,_⟩:=(E.hT _ _ A).info
    have S:=Q0o C
    cases S with
    | agg vs cs I J o=>
      rw[D]
      unfold Q3e at b
      split at b
      ·rename_i q T
       split at b
       ·rename_i U
        simp only[G0b]at b
        subst b
        rw[T]at hk
        obtain⟨X,V,_⟩:=Q6z hk
        refine⟨_,Q _ d i g (by rw[V];rfl) n,.pv ?_⟩
        rw[show(⟨vs⟩:Array Value).extract a.offset (a.offset+i.size)=⟨(vs.drop a.offset).take ti.size⟩ from by
         apply G5h
         simp[hs,List.take_drop,G6n]]
        rw[G0p]at U
        refine .agg _ _ (by simp[I]) (λc s=>J c (G3k (G3p s))) (λk u c j s=>?_)
        have W:k<ti.size:=by
         have:=(G0f.1 j).1
         simp only[G1h]at this
         omega
        rw[G1l,if_pos W,G1u]at j s
        exact o _ u c j s
       cases b
      ·cases b
      rename_i k1 k2
      rw[G1u,G2j]at b
      have l:a.offset<vs.length:=by
       have:=(G0f.1 b).1
       omega
      exact⟨vs[a.offset],F _ d _ g (Q6o hk (λq e=>k1 q e) (λe=>k2 e)) (by simp[l]),.pv (o _ _ _ (G0c l) b)⟩
   ·rename_i ti us A
    obtain⟨i,d,n,hs,_,g,hk,_⟩:=(E.hT _ _ A).info
    cases C with
    | agg K us I J o=>
      rw[D]
      split at h
      ·cases h
      ·cases h
      rename_i k1 k2
      have l:a.offset<K.length:=by
       have:=(G0f.1 h).1
       omega
      exact⟨K[a.offset],F _ d _ g (Q6o hk (λq e=>k1 q e) (λe=>k2 e)) (by simp[l]),o _ _ _ (G0c l) h⟩
   cases h
  cases m
 cases h
theorem J8z{E:Env}{γ:List Gh}{H:List AObj}{Φ:Nat->Nat->Prop}{w:World}{a:TypeId}{v:Value}{x r:AV}(b:ARel γ H Φ w v x)(h:qmkI E a x=some r):(Instr.makeInterface a v).run E.P w=.ok (.iface a v) w/\ARel γ H Φ w (.iface a v) r:=by
 unfold qmkI at h
 split at h
 ·split at h
  ·cases h
  ·rename_i d e hd
   cases h
   refine⟨?_,.ifc _ _ _ (Q0o b)⟩
   unfold Instr.makeInterface
   simp only[bind,Sem.run_bind',run_underlying hd,Result.andThen_ok]
   cases d<;>first|rfl|exact absurd rfl (e _)
  cases h
 cases h
def aop(E:Env)(O:Orc)(σ:St)(o:Oper):Option (AV×List AObj):=
 match o.op with
 | .alloc d=>J3d E σ.h d
 | .box _ x=>ebox σ.h (ev σ.t x)
 | .buildSlice d len j=>if (len==0&&E.ownT d)=true then Q8r E σ.h d len (j.toList.map λp=>(p.1,ev σ.t p.2))else Q2y E σ.h d len (j.toList.map λp=>(p.1,ev σ.t p.2))
 | .store d p x=>(J3a E σ.h d (ev σ.t p) (ev σ.t x)).map λh=>(.any,h)
 | .makeSlice d a b=>Q4s E σ.h d (ev σ.t a) (ev σ.t b)
 | .call ⟨.builtin .append,args,e⟩=>match args.toList,e.toList with
   | [x,y],[g,t2]=>if g=t2 then Z2p E σ.h g (ev σ.t x) (ev σ.t y)else Q5y E σ.h g t2 (ev σ.t x) (ev σ.t y)
   | _,_=>none
 | .call ⟨.builtin .unsafeSliceData,args,_⟩=>match args.toList with
   | [x]=>(Z8d σ.h (ev σ.t x)).map λr=>(r,σ.h)
   | _=>none
 | .call ⟨.builtin .unsafeString,args,e⟩=>match args.toList,e.toList with
   | [x,y],[m,_]=>(J8y E σ.h m (ev σ.t x) (ev σ.t y)).map λr=>(r,σ.h)
   | _,_=>none
 | .call ⟨.value (.func f),args,_⟩=>if O.pf f then(J9d O σ.h f (args.toList.map (ev σ.t))).map λr=>(r,σ.h)else Q0x O σ.h f (args.toList.map (ev σ.t))
 | .call ⟨.value (.tmp i),args,_⟩=>match σ.t i with
   | .fn f k=>if O.pf f then(J9d O σ.h f (args.toList.map (ev σ.t)++k.map λl=>.ref l 0)).map λr=>(r,σ.h)else Q0x O σ.h f (args.toList.map (ev σ.t)++k.map λl=>.ref l 0)
   | _=>none
 | .call ⟨.builtin .min,args,_⟩=>(qmm false (args.toList.map (ev σ.t))).map λr=>(r,σ.h)
 | .call ⟨.builtin .max,args,_⟩=>(qmm true (args.toList.map (ev σ.t))).map λr=>(r,σ.h)
 | .build d ps=>if E.ownT d then(Z5n E.T d (ps.toList.map λp=>(p.1,ev σ.t p.2))).map λr=>(r,σ.h)else(qval E.T σ.t σ.h (.build d ps)).map λr=>(r,σ.h)
 | .field d x f=>(Q4k E d f (ev σ.t x)).map λr=>(r,σ.h)
 | .makeInterface d x=>(qmkI E d (ev σ.t x)).map λr=>(r,σ.h)
 | .binOp op d x y _=>if Z5z y then(J2d E.T op d (ev σ.t x)).map λr=>(r,σ.h)else match E.eqT d with
   | some ks=>(qeq ks op (ev σ.t x) (ev σ.t y)).map λr=>(r,σ.h)
   | none=>(qbin E.T op d (ev σ.t x) (ev σ.t y)).map λr=>(r,σ.h)
 | op=>(qval E.T σ.t σ.h op).map λr=>(r,σ.h)
def put(σ:St)(dst:Option Nat)(v:AV)(h:List AObj):Option St:=
 match dst with
 | none=>some { σ with h:=h }
 | some d=>if d<σ.n then some { t:=upd σ.t d v,n:=σ.n,h:=h } else none
def Q8a(E:Env)(O:Orc)(ops:Array Oper)(σ:St)(o:Oper):Option St:=
 match o.guard with
 | none=>(aop E O σ o).bind λr=>put σ o.dst r.1 r.2
 | some (j,a)=>match (ops[j]?).bind (·.dst)with
   | some g=>match σ.t g with
     | .pv (.bool b)=>if b=a then(aop E O σ o).bind λr=>put σ o.dst r.1 r.2 else put σ o.dst (.tup []) σ.h
     | .tup []=>put σ o.dst (.tup []) σ.h
     | _=>none
   | none=>none
def arun(E:Env)(O:Orc)(ops:Array Oper):List Oper->St->Option St
 | [],σ=>some σ
 | o::r,σ=>(Q8a E O ops σ o).bind (arun E O ops r)
structure Rel(E:Env)(γ₀:List Gh)(H₀:List AObj)(Φ₀:Nat->Nat->Prop)(w₀:World)(σ:St)(a:Act)(w:World):Prop where
 ex:∃γ Φ,Ok E γ₀ H₀ Φ₀ w₀ γ σ.h Φ w/\Slots γ σ.h Φ w a σ.t
 size:a.tmps.size=σ.n
 defers:a.defers=E.dfs
 len0:γ₀.length=H₀.length
section
variable {E:Env}{O:Orc}{γ₀:List Gh}{H₀:List AObj}{Φ₀:Nat->Nat->Prop}{w₀:World}
theorem X1a{γ:List Gh}{H:List AObj}{Φ:Nat->Nat->Prop}{w:World}{a:Act}{t:Nat->AV}(hs:Slots γ H Φ w a t){d:Nat}(hd:d<a.tmps.size){u:Value}{r:AV}(f:ARel γ H Φ w u r):
 Slots γ H Φ w (a.put (some d) u) (upd t d r):=by
 intro i
 show ARel γ H Φ w ((a.tmps.setIfInBounds d u).getD i undef) (upd t d r i)
 unfold upd
 rw[G2m,G4g]
 by_cases b:d=i
 ·subst b
  simp[hd,f]
 rw[if_neg b,if_neg (λe=>b e.symm),<-G2m]
 exact hs i
theorem Z9z{σ σ':St}{a:Act}{γ e:List Gh}{Φ Φ':Nat->Nat->Prop}{w w':World}{H':List AObj}(g:Ok E γ₀ H₀ Φ₀ w₀ γ σ.h Φ w)(hs:Slots γ σ.h Φ w a σ.t)(f:a.tmps.size=σ.n)(hd:a.defers=E.dfs)(j:γ₀.length=H₀.length)
 (hk:Ok E γ σ.h Φ w e H' Φ' w') {dst:Option Nat} {u:Value} {r:AV} (l:dst=none\/ARel e H' Φ' w' u r) (b:put σ dst r H'=some σ'):Rel E γ₀ H₀ Φ₀ w₀ σ' (a.put dst u) w':=by
 have k:Slots e H' Φ' w' a σ.t:=λi=>(hs i).mono hk.evo
 unfold put at b
 cases dst with
 | none=>
   simp only[G0b]at b
   subst b
   exact⟨⟨e,Φ',g.trans hk,k⟩,f,hd,j⟩
 | some d=>
   simp only at b
   split at b
   ·rename_i m
    simp only[G0b]at b
    subst b
    rcases l with h|h
    ·cases h
    exact⟨⟨e,Φ',g.trans hk,X1a k (by rw[f];exact m) h⟩,by simp[Act.put,f],hd,j⟩
   cases b
theorem Q5s{H:List AObj}{f:Nat->Option Nat}:∀ {az bs:List AV},Q0v H f az=some bs->az.length=bs.length/\∀ (i:Nat) a b,az[i]?=some a->bs[i]?=some b->(∃p,toPV H a=some p/\b=.pv p)\/a.ren f=some b
 | [],bs,h=>by
   simp only[Q0v,G0b]at h
   subst h
   exact⟨rfl,λi a p g=>by simp at g⟩
 | a::az,bs,h=>by
   simp only[Q0v]at h
   split at h
   ·rename_i b s hb hs
    simp only[G0b]at h
    subst h
    obtain⟨j,k⟩:=Q5s hs
    refine⟨by simp[j],λi c d e hd=>?_⟩
    cases i with
    | zero=>
      simp only[G0n,G0b]at e hd
      subst e hd
      split at hb
      ·rename_i p l
       simp only[G0b]at hb
       exact .inl ⟨p,l,hb.symm⟩
      exact .inr hb
    | succ i=>rw[G0y]at e hd;exact k i c d e hd
   cases h
theorem X1l{γ:List Gh}{H:List AObj}{Φ:Nat->Nat->Prop}{w:World}{vs:List Value}{rs:List AV}(b:vs.length=rs.length)(h:∀ (i:Nat) v a,vs[i]?=some v->rs[i]?=some a->ARel γ H Φ w v a):ARel γ H Φ w (retV vs) (Q1c rs):=by
 match vs,rs,b with
 | [],[],_=>exact .tup [] [] rfl (λk v c d=>by simp at d)
 | [v],[r],_=>exact h 0 v r rfl rfl
 | v::v'::vs,r::e::rs,b=>exact .tup _ _ b h
 | [v],r::e::rs,b=>simp at b
 | v::v'::vs,[r],b=>simp at b
end
end Go.Abs
