import Derived.Test.YtljahlbklgnfhaaGreatDoorA38
set_option linter.unusedVariables false
set_option linter.unusedSimpArgs false
set_option linter.defProp false
namespace Go.Abs
open Go.RowKit
def idx:List Nat->Nat->Option Nat
 | [],_=>none
 | x::r,l=>if x=l then some 0 else(idx r l).map (·+1)
theorem Q7k:∀ {sel:List Nat} {l i:Nat},idx sel l=some i->sel[i]?=some l
 | [],l,i,h=>by simp[idx]at h
 | x::r,l,i,h=>by
   simp only[idx]at h
   split at h
   ·rename_i a
    simp only[G0b]at h
    subst h a
    rfl
   obtain⟨j,b,rfl⟩:=G0g.1 h
   rw[G0y]
   exact Q7k b
theorem J7g:∀ {sel:List Nat},sel.Nodup->∀ {l i:Nat},sel[i]?=some l->idx sel l=some i
 | [],_,l,i,h=>by simp at h
 | x::r,b,l,i,h=>by
   have a:=G4i.1 b
   cases i with
   | zero=>
     simp only[G0n,G0b]at h
     simp[idx,h]
   | succ i=>
     rw[G0y]at h
     have d:x≠l:=λe=>a.1 (by rw[e];exact G0r h)
     simp[idx,d,J7g a.2 h]
theorem X7p{sel:List Nat}{l:Nat}(h:idx sel l=none):l∉sel:=by
 induction sel with
 | nil=>simp
 | cons x r a=>
   simp only[idx]at h
   split at h
   ·cases h
   rename_i b
   simp only[Option.map_eq_none_iff]at h
   simp only[G1q,not_or]
   exact⟨λe=>b e.symm,a h⟩
def renN(f:Nat->Option Nat):List Nat->Option (List Nat)
 | []=>some []
 | l::r=>match f l,renN f r with
   | some i,some s=>some (i::s)
   | _,_=>none
theorem J6t{f:Nat->Option Nat}:∀ {cs ds:List Nat},renN f cs=some ds->cs.length=ds.length/\∀ (k d:Nat),ds[k]?=some d->∃c,cs[k]?=some c/\f c=some d
 | [],ds,h=>by
   simp only[renN,G0b]at h
   subst h
   exact⟨rfl,λk d hd=>by simp at hd⟩
 | c::cs,ds,h=>by
   simp only[renN]at h
   split at h
   ·rename_i b s hb hs
    simp only[G0b]at h
    subst h
    obtain⟨a,e⟩:=J6t hs
    refine⟨by simp[a],λk d hd=>?_⟩
    cases k with
    | zero=>simp only[G0n,G0b]at hd |-;subst hd;exact⟨c,rfl,hb⟩
    | succ k=>rw[G0y]at hd;obtain⟨g,i,j⟩:=e k d hd;exact⟨g,by rw[G0y];exact i,j⟩
   cases h
def AV.ren0(f:Nat->Option Nat):AV->Option AV
 | .ref l o=>(f l).map λi=>.ref i o
 | .vec l n=>(f l).map λi=>.vec i n
 | .vptr l n i o=>(f l).map λj=>.vptr j n i o
 | .mref l=>(f l).map λi=>.mref i
 | .selfp l=>(f l).map λi=>.selfp i
 | .fn g b=>(renN f b).map λc=>.fn g c
 | .tup _=>none
 | .agg _=>none
 | a=>some a
def X1n(f:Nat->Option Nat):List AV->Option (List AV)
 | []=>some []
 | a::r=>match a.ren0 f,X1n f r with
   | some b,some s=>some (b::s)
   | _,_=>none
def AV.ren(f:Nat->Option Nat):AV->Option AV
 | .ref l o=>(f l).map λi=>.ref i o
 | .vec l n=>(f l).map λi=>.vec i n
 | .vptr l n i o=>(f l).map λj=>.vptr j n i o
 | .mref l=>(f l).map λi=>.mref i
 | .selfp l=>(f l).map λi=>.selfp i
 | .fn g b=>(renN f b).map λc=>.fn g c
 | .tup _=>none
 | .agg vs=>(X1n f vs).map .agg
 | a=>some a
def AV.mapL0(f:Nat->Nat):AV->AV
 | .ref l o=>.ref (f l) o
 | .vec l n=>.vec (f l) n
 | .vptr l n i o=>.vptr (f l) n i o
 | .mref l=>.mref (f l)
 | .selfp l=>.selfp (f l)
 | .fn g b=>.fn g (b.map f)
 | .tup _=>.any
 | .agg _=>.any
 | a=>a
def AV.mapL(f:Nat->Nat):AV->AV
 | .ref l o=>.ref (f l) o
 | .vec l n=>.vec (f l) n
 | .vptr l n i o=>.vptr (f l) n i o
 | .mref l=>.mref (f l)
 | .selfp l=>.selfp (f l)
 | .fn g b=>.fn g (b.map f)
 | .tup _=>.any
 | .agg vs=>.agg (vs.map (AV.mapL0 f))
 | a=>a
def renL(f:Nat->Option Nat):List AV->Option (List AV)
 | []=>some []
 | a::r=>match a.ren f,renL f r with
   | some b,some s=>some (b::s)
   | _,_=>none
theorem J1x{f:Nat->Option Nat}:∀ {cs ds:List AV},X1n f cs=some ds->cs.length=ds.length/\∀ (k:Nat) (d:AV),ds[k]?=some d->∃c,cs[k]?=some c/\c.ren0 f=some d
 | [],ds,h=>by
   simp only[X1n,G0b]at h
   subst h
   exact⟨rfl,λk d hd=>by simp at hd⟩
 | c::cs,ds,h=>by
   simp only[X1n]at h
   split at h
   ·rename_i b s hb hs
    simp only[G0b]at h
    subst h
    obtain⟨a,e⟩:=J1x hs
    refine⟨by simp[a],λk d hd=>?_⟩
    cases k with
    | zero=>simp only[G0n,G0b]at hd |-;subst hd;exact⟨c,rfl,hb⟩
    | succ k=>rw[G0y]at hd;obtain⟨g,i,j⟩:=e k d hd;exact⟨g,by rw[G0y];exact i,j⟩
   cases h
def AObj.ren(f:Nat->Option Nat):AObj->Option AObj
 | .var cs=>(renL f cs).map .var
 | .hrow e sz xs j off l n=>(f l).map λi=>.hrow e sz xs j off i n
 | o=>some o
def AObj.mapL(f:Nat->Nat):AObj->AObj
 | .var cs=>.var (cs.map (AV.mapL f))
 | .hrow e sz xs j off l n=>.hrow e sz xs j off (f l) n
 | o=>o
theorem Q7c{f:Nat->Option Nat}{o o':AObj}(h:o.ren f=some o'):Q1o o'=Q1o o:=by
 cases o<;>simp only[AObj.ren,G0b,G0g]at h
 case var cs=>obtain⟨ds,_,rfl⟩:=h;rfl
 case hrow=>obtain⟨i,_,rfl⟩:=h;rfl
 all_goals(subst h;rfl)
theorem Z3h(f:Nat->Nat)(o:AObj):Q1o (o.mapL f)=Q1o o:=by
 cases o<;>rfl
def Q1a(H:List AObj)(f:Nat->Option Nat):List Nat->Option (List AObj)
 | []=>some []
 | l::r=>match (H[l]?).bind (AObj.ren f),Q1a H f r with
   | some o,some s=>some (o::s)
   | _,_=>none
theorem Z9y{f:Nat->Option Nat}:∀ {cs ds:List AV},renL f cs=some ds->cs.length=ds.length/\∀ (k:Nat) (d:AV),ds[k]?=some d->∃c,cs[k]?=some c/\c.ren f=some d
 | [],ds,h=>by
   simp only[renL,G0b]at h
   subst h
   exact⟨rfl,λk d hd=>by simp at hd⟩
 | c::cs,ds,h=>by
   simp only[renL]at h
   split at h
   ·rename_i b s hb hs
    simp only[G0b]at h
    subst h
    obtain⟨a,e⟩:=Z9y hs
    refine⟨by simp[a],λk d hd=>?_⟩
    cases k with
    | zero=>simp only[G0n,G0b]at hd |-;subst hd;exact⟨c,rfl,hb⟩
    | succ k=>rw[G0y]at hd;obtain⟨g,i,j⟩:=e k d hd;exact⟨g,by rw[G0y];exact i,j⟩
   cases h
theorem Q2x{H:List AObj}{f:Nat->Option Nat}:∀ {sel:List Nat} {Hs:List AObj},Q1a H f sel=some Hs->sel.length=Hs.length/\∀ (i:Nat) (o:AObj),Hs[i]?=some o->∃l o',sel[i]?=some l/\H[l]?=some o'/\o'.ren f=some o
 | [],Hs,h=>by
   simp only[Q1a,G0b]at h
   subst h
   exact⟨rfl,λk d hd=>by simp at hd⟩
 | l::sel,Hs,h=>by
   simp only[Q1a]at h
   split at h
   ·rename_i o s a hs
    simp only[G0b]at h
    subst h
    obtain⟨b,e⟩:=Q2x hs
    refine⟨by simp[b],λk d hd=>?_⟩
    cases k with
    | zero=>
      simp only[G0n,G0b]at hd
      subst hd
      obtain⟨o',g,j⟩:=G1n.1 a
      exact⟨l,o',rfl,g,j⟩
    | succ k=>
      rw[G0y]at hd
      obtain⟨l',o',m,n,p⟩:=e k d hd
      exact⟨l',o',by rw[G0y];exact m,n,p⟩
   cases h
section
variable {E:Env}{γ:List Gh}{H:List AObj}{Φ:Nat->Nat->Prop}{w:World}
def Q6h(γ:List Gh)(sel:List Nat):List Gh:=sel.map λl=>γ.getD l ⟨undef,[]⟩
theorem Q4v{sel:List Nat}{i l:Nat}{g:Gh}(a:sel[i]?=some l)(b:γ[l]?=some g):(Q6h γ sel)[i]?=some g:=by
 unfold Q6h
 rw[G0x,a]
 simp[G0v,b]
theorem AV.isS_ren{a b:AV}{f:Nat->Option Nat}(h:a.ren f=some b):b.isS=a.isS:=by
 cases a<;>simp only[AV.ren,AV.ren0,G0b]at h<;>first|(subst h;rfl)|(obtain⟨_,_,rfl⟩:=G0g.1 h;rfl)|cases h
theorem AV.isS_mapL{f:Nat->Nat}(a:AV):(a.mapL f).isS=a.isS:=by cases a<;>rfl
theorem ARel.select0(M:OInv E γ H Φ w){sel:List Nat}{Hs:List AObj}(hs:Q1a H (idx sel) sel=some Hs){v:Value}{a b:AV}(h:ARel γ H Φ w v a)(d:a.ren0 (idx sel)=some b):ARel (Q6h γ sel) Hs Φ w v b:=by
 obtain⟨N,O⟩:=Q2x hs
 have s:∀l i,idx sel l=some i->gv (Q6h γ sel) i=gv γ l/\∀o,H[l]?=some o->∃o',Hs[i]?=some o'/\o.ren (idx sel)=some o':=by
  intro l i m
  have z:=Q7k m
  have L:i<Hs.length:=by rw[<-N];exact(G0f.1 z).1
  obtain⟨l',o',r,q,C⟩:=O i Hs[i] (G0c L)
  rw[z]at r
  injection r with r
  subst r
  obtain⟨g,y,_⟩:=M.gh q
  refine⟨?_,λo x=>⟨Hs[i],G0c L,?_⟩⟩
  ·unfold gv
   rw[Q4v z y,y]
  rw[x]at q
  injection q with q
  rw[q]
  exact C
 cases h with
 | any v=>simp only[AV.ren0,G0b]at d;subst d;exact .any v
 | pv h=>simp only[AV.ren0,G0b]at d;subst d;exact .pv h
 | nils=>simp only[AV.ren0,G0b]at d;subst d;exact .nils
 | ifc t u p h=>simp only[AV.ren0,G0b]at d;subst d;exact .ifc t u p h
 | full A n xs h=>simp only[AV.ren0,G0b]at d;subst d;exact .full A n xs h
 | pptr b' o cs vs r q C=>simp only[AV.ren0,G0b]at d;subst d;exact .pptr b' o cs vs r q C
 | tup=>simp[AV.ren0]at d
 | agg=>simp[AV.ren0]at d
 | ref b' l off h=>
   obtain⟨i,m,rfl⟩:=G0g.1 d
   exact .ref b' i off ((s l i m).1.trans h)
 | mref b' l h=>
   obtain⟨i,m,rfl⟩:=G0g.1 d
   exact .mref b' i ((s l i m).1.trans h)
 | selfp A l h=>
   obtain⟨i,m,rfl⟩:=G0g.1 d
   exact .selfp A i (λa e=>(s l i m).1.trans (h a e))
 | fn f cs V W h=>
   obtain⟨c,P,rfl⟩:=G0g.1 d
   obtain⟨r,q⟩:=J6t P
   refine .fn f cs c (by omega) (λk v i Q m=>?_)
   obtain⟨l,S,T⟩:=q k i m
   obtain⟨b,hb,y⟩:=h k v l Q S
   exact⟨b,hb,(s l i T).1.trans y⟩
 | vec A l n cap e sz len hrow D U h=>
   obtain⟨i,m,rfl⟩:=G0g.1 d
   obtain⟨o,x,F⟩:=Q4r hrow
   obtain⟨o',I,J⟩:=(s l i m).2 _ x
   exact .vec A i n cap e sz len (by unfold rowAt;rw[I,G0a,Q7c J];exact F) D U (λK=>(s l i m).1.trans (h K))
 | vptr b' o l n j off e sz len hrow D h=>
   obtain⟨i,m,rfl⟩:=G0g.1 d
   obtain⟨X,x,F⟩:=Q4r hrow
   obtain⟨o',I,J⟩:=(s l i m).2 _ x
   refine .vptr b' o i n j off e sz len (by unfold rowAt;rw[I,G0a,Q7c J];exact F) D (λK=>?_)
   obtain⟨cap,r,q⟩:=h K
   exact⟨cap,(s l i m).1.trans r,q⟩
theorem ARel.select(d:OInv E γ H Φ w){sel:List Nat}{Hs:List AObj}(hs:Q1a H (idx sel) sel=some Hs){v:Value}{a b:AV}(h:ARel γ H Φ w v a)(e:a.ren (idx sel)=some b):ARel (Q6h γ sel) Hs Φ w v b:=by
 cases a with
 | agg vs=>
   cases h with
   | agg f vs q g h=>
     obtain⟨us,i,rfl⟩:=G0g.1 e
     obtain⟨r,j⟩:=J1x i
     refine .agg f us (by omega) g (λk v c l m=>?_)
     obtain⟨n,o,p⟩:=j k c m
     exact(h k v n l o).select0 d hs p
 | _=>exact h.select0 d hs e
theorem OInv.select(q:OInv E γ H Φ w){sel:List Nat}(J:sel.Nodup){Hs:List AObj}(hs:Q1a H (idx sel) sel=some Hs):OInv E (Q6h γ sel) Hs Φ w:=by
 obtain⟨Q,K⟩:=Q2x hs
 have ghs:∀ (i:Nat) g,(Q6h γ sel)[i]?=some g->∃l,sel[i]?=some l/\γ[l]?=some g:=by
  intro i g r
  have S:i<Hs.length:=by
   have:=(G0f.1 r).1
   simp[Q6h]at this
   omega
  obtain⟨l,o',u,t,_⟩:=K i Hs[i] (G0c S)
  obtain⟨g',L,_⟩:=q.gh t
  rw[Q4v u L]at r
  injection r with r
  exact⟨l,u,by rw[L,r]⟩
 refine⟨by simp[Q6h,Q],λi o g U r=>?_,λi j gi M z V W b hb=>?_,λi g r b hb=>?_,q.phi,q.gi,q.gn⟩
 ·obtain⟨l,o',u,t,a⟩:=K i o U
  obtain⟨l',x,X⟩:=ghs i g r
  rw[u]at x
  injection x with x
  subst x
  have f:=q.obj l o' g t X
  cases o' with
  | var cs=>
    obtain⟨ds,Y,rfl⟩:=G0g.1 a
    obtain⟨av,N⟩:=Z9y Y
    obtain⟨b,T,vs,A,aa,hb,aw,hr,O⟩:=f
    refine⟨b,T,vs,A,aa,hb,by omega,λk v c ad C=>?_,O.1,λc C ae=>?_⟩
    rotate_left
    ·obtain⟨k,hk⟩:=List.getElem?_of_mem C
     obtain⟨D,F,I⟩:=N k c hk
     exact O.2 D (G0r F) ((AV.isS_ren I).symm.trans ae)
    obtain⟨D,F,I⟩:=N k c C
    obtain⟨h6,h7⟩:=hr k v D ad F
    exact⟨h6,h7.select q hs I⟩
  | row e sz xs fz=>simp only[AObj.ren,G0b]at a;subst a;exact f
  | map es=>simp only[AObj.ren,G0b]at a;subst a;exact f
  | bld s=>simp only[AObj.ren,G0b]at a;subst a;exact f
  | brow e s=>simp only[AObj.ren,G0b]at a;subst a;exact f
  | prn P s y sz xs=>simp only[AObj.ren,G0b]at a;subst a;exact f
  | iter s p=>simp only[AObj.ren,G0b]at a;subst a;exact f
  | tree e sz off y ay m xs=>simp only[AObj.ren,G0b]at a;subst a;exact f
  | hrow e sz xs j off l' n=>
    obtain⟨i,z,rfl⟩:=G0g.1 a
    obtain⟨cells,k1,k2,k3,k4,k5,k6,k7,k8,k9,ar,au⟩:=f
    exact⟨cells,k1,k2,k3,k4,k5,k6,k7,k8,k9,ar,λv A=>(au v A).select0 q hs (by simp only[AV.ren0,z,G0w])⟩
  | moved e sz n=>simp only[AObj.ren,G0b]at a;subst a;trivial
  | hold d=>simp only[AObj.ren,G0b]at a;subst a;exact f
  | gone=>simp only[AObj.ren,G0b]at a;subst a;trivial
 ·obtain⟨l,u,t⟩:=ghs i gi z
  obtain⟨l',a,x⟩:=ghs j M V
  refine q.disj l l' gi M t x (λe=>W ?_) b hb
  subst e
  have P:=J7g J u
  have y:=J7g J a
  rw[P]at y
  injection y
 obtain⟨l,_,t⟩:=ghs i g r
 exact q.own l g t b hb
def Q6i(n:Nat)(sel:List Nat)(i:Nat):Nat:=match sel[i]? with
 | some l=>l
 | none=>n+(i-sel.length)
def Q6b(γ:List Gh)(sel:List Nat)(a:List Gh):List Gh:=
 ((List.range γ.length).map λl=>match idx sel l with
   | some i=>a.getD i ⟨undef,[]⟩
   | none=>γ.getD l ⟨undef,[]⟩)++a.drop sel.length
def Q0q(H:List AObj)(sel:List Nat)(H':List AObj):List AObj:=
 ((List.range H.length).map λl=>match idx sel l with
   | some i=>(H'.getD i .gone).mapL (Q6i H.length sel)
   | none=>H.getD l .gone)++(H'.drop sel.length).map (AObj.mapL (Q6i H.length sel))
theorem Q4t{sel:List Nat}{a:List Gh}{l:Nat}(b:l<γ.length)(hk:sel.length<=a.length):(Q6b γ sel a)[l]?=match idx sel l with
 | some i=>a[i]?
 | none=>γ[l]?:=by
 unfold Q6b
 rw[G0l (by simpa using b),G0x,G3f b]
 simp only[G0w]
 cases d:idx sel l with
 | none=>simp only[G0v];rw[G0c b];rfl
 | some i=>
   have e:=(G0f.1 (Q7k d)).1
   simp only[G0v]
   rw[G0c (show i<a.length by omega)]
   rfl
theorem Z8s{sel:List Nat}{a:List Gh}{l:Nat}(b:γ.length<=l):(Q6b γ sel a)[l]?=a[sel.length+(l-γ.length)]?:=by
 unfold Q6b
 rw[G0m (by simpa using b),G1u]
 simp
theorem Q6a{sel:List Nat}{H':List AObj}{l:Nat}(a:l<H.length)(hk:sel.length<=H'.length):(Q0q H sel H')[l]?=match idx sel l with
 | some i=>(H'[i]?).map (AObj.mapL (Q6i H.length sel))
 | none=>H[l]?:=by
 unfold Q0q
 rw[G0l (by simpa using a),G0x,G3f a]
 simp only[G0w]
 cases b:idx sel l with
 | none=>simp only[G0v];rw[G0c a];rfl
 | some i=>
   have d:=(G0f.1 (Q7k b)).1
   simp only[G0v]
   rw[G0c (show i<H'.length by omega)]
   rfl
theorem Z3s{sel:List Nat}{H':List AObj}{l:Nat}(a:H.length<=l):(Q0q H sel H')[l]?=(H'[sel.length+(l-H.length)]?).map (AObj.mapL (Q6i H.length sel)):=by
 unfold Q0q
 rw[G0m (by simpa using a),G0x,G1u]
 simp
theorem J9y{sel:List Nat}{a:List Gh}{H':List AObj}(f:γ.length=H.length)(g:a.length=H'.length)(hk:sel.length<=a.length)(l:Nat):
 (∃i,l=Q6i H.length sel i/\i<a.length/\(Q6b γ sel a)[l]?=a[i]?/\(Q0q H sel H')[l]?=(H'[i]?).map (AObj.mapL (Q6i H.length sel))) \/
 (l<H.length/\idx sel l=none/\(Q6b γ sel a)[l]?=γ[l]?/\(Q0q H sel H')[l]?=H[l]?)\/((Q6b γ sel a)[l]?=none/\(Q0q H sel H')[l]?=none):=by
 by_cases d:l<H.length
 ·rw[Q4t (by omega) hk,Q6a d (by omega)]
  cases b:idx sel l with
  | none=>exact .inr (.inl ⟨d,rfl,rfl,rfl⟩)
  | some i=>
    have e:=Q7k b
    have j:=(G0f.1 e).1
    exact .inl ⟨i,by unfold Q6i;rw[e],by omega,rfl,rfl⟩
 rw[Z8s (by omega),Z3s (by omega),f]
 by_cases b:sel.length+(l-H.length)<a.length
 ·refine .inl ⟨sel.length+(l-H.length),?_,b,rfl,rfl⟩
  unfold Q6i
  rw[G1a (by omega)]
  simp only
  omega
 exact .inr (.inr ⟨G1a (by omega),by rw[G1a (show H'.length<=_ by omega)];rfl⟩)
theorem X4l{sel:List Nat}(d:sel.Nodup)(e:∀l∈sel,l<H.length){a:List Gh}{H':List AObj}(f:γ.length=H.length)(j:a.length=H'.length)(hk:sel.length<=a.length)(i:Nat):
 (Q6b γ sel a)[Q6i H.length sel i]?=a[i]?/\(Q0q H sel H')[Q6i H.length sel i]?=(H'[i]?).map (AObj.mapL (Q6i H.length sel)):=by
 unfold Q6i
 cases h:sel[i]? with
 | some l=>
   have g:=e l (G0r h)
   simp only
   rw[Q4t (by omega) hk,Q6a g (by omega),J7g d h]
   exact⟨rfl,rfl⟩
 | none=>
   have k:sel.length<=i:=by
    rcases G4t i sel.length with b|b
    ·rw[G0c b]at h;cases h
    exact b
   simp only
   rw[Z8s (by omega),Z3s (by omega),f]
   rw[show sel.length+(H.length+(i-sel.length)-H.length)=i from by omega]
   exact⟨rfl,rfl⟩
theorem ARel.back0{sel:List Nat}(C:sel.Nodup)(D:∀l∈sel,l<H.length){d:List Gh}{H':List AObj}{Φ':Nat->Nat->Prop}{w':World}(F:γ.length=H.length)(I:d.length=H'.length)(hk:sel.length<=d.length)
 {v:Value} {a:AV} (h:ARel d H' Φ' w' v a):ARel (Q6b γ sel d) (Q0q H sel H') Φ' w' v (a.mapL0 (Q6i H.length sel)):=by
 have g1:∀i u,gv d i=some u->gv (Q6b γ sel d) (Q6i H.length sel i)=some u:=by
  intro i u L
  obtain⟨g,m,q⟩:=Z2l L
  unfold gv
  rw[(X4l C D F I hk i).1,m,<-q]
  rfl
 have J:∀i p,rowAt H' i=some p->rowAt (Q0q H sel H') (Q6i H.length sel i)=some p:=by
  intro i p M
  obtain⟨o,N,r⟩:=Q4r M
  unfold rowAt
  rw[(X4l C D F I hk i).2,N,G0w,G0a,Z3h]
  exact r
 cases h with
 | any v=>exact .any v
 | pv h=>exact .pv h
 | nils=>exact .nils
 | ifc t u p h=>exact .ifc t u p h
 | full A n xs h=>exact .full A n xs h
 | pptr b' o cs vs s x O=>exact .pptr b' o cs vs s x O
 | tup P vs _ _=>exact .any _
 | agg P vs _ _ _=>exact .any _
 | ref b' l off h=>exact .ref b' _ off (g1 l _ h)
 | mref b' l h=>exact .mref b' _ (g1 l _ h)
 | selfp A l h=>exact .selfp A _ (λa e=>g1 l _ (h a e))
 | fn f cs T r h=>
   refine .fn f cs _ (by simp[r]) (λk v i q K=>?_)
   rw[G0x]at K
   obtain⟨l,Q,rfl⟩:=G0g.1 K
   obtain⟨b,hb,m⟩:=h k v l q Q
   exact⟨b,hb,g1 l _ m⟩
 | vec A l n cap e sz len hrow y S h=>exact .vec A _ n cap e sz len (J l _ hrow) y S (λz=>g1 l _ (h z))
 | vptr b' o l n j off e sz len hrow y h=>
   refine .vptr b' o _ n j off e sz len (J l _ hrow) y (λz=>?_)
   obtain⟨cap,s,x⟩:=h z
   exact⟨cap,g1 l _ s,x⟩
theorem ARel.back{sel:List Nat}(d:sel.Nodup)(e:∀l∈sel,l<H.length){b:List Gh}{H':List AObj}{Φ':Nat->Nat->Prop}{w':World}(f:γ.length=H.length)(g:b.length=H'.length)(hk:sel.length<=b.length)
 {v:Value} {a:AV} (h:ARel b H' Φ' w' v a):ARel (Q6b γ sel b) (Q0q H sel H') Φ' w' v (a.mapL (Q6i H.length sel)):=by
 cases a with
 | agg vs=>
   cases h with
   | agg j vs m n h=>
     refine .agg j _ (by simp[m]) n (λk v c o i=>?_)
     rw[G0x]at i
     obtain⟨p,q,rfl⟩:=G0g.1 i
     exact(h k v p o q).back0 d e f g hk
 | _=>exact h.back0 d e f g hk
theorem Ok.back(u:OInv E γ H Φ w){sel:List Nat}(aj:sel.Nodup){Hs:List AObj}(hs:Q1a H (idx sel) sel=some Hs){P:List Gh}{H':List AObj}{Φ':Nat->Nat->Prop}{w':World}
 (hk:Ok E (Q6h γ sel) Hs Φ w P H' Φ' w') (ak:sel.length<=H'.length):Ok E γ H Φ w (Q6b γ sel P) (Q0q H sel H') Φ' w':=by
 obtain⟨hl,Y⟩:=Q2x hs
 have al:∀l∈sel,l<H.length:=by
  intro l J
  obtain⟨i,t,y⟩:=G2e J
  obtain⟨l',o',f,r,_⟩:=Y i (Hs[i]'(by omega)) (G0c (by omega))
  rw[G0c t,y]at f
  injection f with f
  subst f
  exact(G0f.1 r).1
 have Q:=u.len
 have S:=hk.inv.len
 have D:sel.length<=P.length:=by omega
 have N:=λl=>J9y (γ:=γ) (H:=H) Q S D l
 have am:∀ (j:Nat) g b,(Q6h γ sel)[j]?=some g->b∈g.own->∃l,sel[j]?=some l/\γ[l]?=some g:=by
  intro j g b a _
  have ao:j<Hs.length:=by
   have:=(G0f.1 a).1
   simp[Q6h]at this
   omega
  obtain⟨l,o',f,r,_⟩:=Y j Hs[j] (G0c ao)
  obtain⟨g',U,_⟩:=u.gh r
  rw[Q4v f U]at a
  injection a with a
  exact⟨l,f,by rw[U,a]⟩
 have aa:∀b,(∀ (l:Nat) g,γ[l]?=some g->l∈sel->b∉g.own)->∀ (i:Nat) g,(Q6h γ sel)[i]?=some g->b∉g.own:=by
  intro b hb i g a J
  obtain⟨l,f,r⟩:=am i g b a J
  exact hb l g r (G0r f) J
 have ac:∀l g,γ[l]?=some g->idx sel l=none->∀b∈g.own,∀ (i:Nat) g',(Q6h γ sel)[i]?=some g'->b∉g'.own:=by
  intro l g a z b hb
  refine aa b (λl' g' U J F=>?_)
  have ax:l≠l':=λe=>X7p z (by rw[e];exact J)
  exact u.disj l l' g g' a U ax b hb F
 have hE:Evo γ H Φ w (Q6b γ sel P) (Q0q H sel H') Φ' w':=by
  refine⟨hk.evo.phi,hk.evo.cell,λl v K=>?_,λl e sz n hrow=>?_⟩
  ·obtain⟨g,a,ay⟩:=Z2l K
   have ar:=(G0f.1 a).1
   cases t:idx sel l with
   | none=>
     refine .inl ?_
     unfold gv
     rw[Q4t ar D,t]
     exact K
   | some i=>
     have f:gv (Q6h γ sel) i=some v:=by
      unfold gv
      rw[Q4v (Q7k t) a,<-ay]
      rfl
     rcases hk.evo.gh i v f with r|r
     ·refine .inl ?_
      unfold gv
      rw[Q4t ar D,t]
      exact r
     exact .inr r
  have L:=Q7d hrow
  cases t:idx sel l with
  | none=>
    refine⟨n,by unfold rowAt;rw[Q6a L ak,t];exact hrow,G0o _,λ_=>?_⟩
    unfold gv
    rw[Q4t (by omega) D,t]
  | some i=>
    have ad:=Q7k t
    have y:i<Hs.length:=by rw[<-hl];exact(G0f.1 ad).1
    obtain⟨l',o',f,r,A⟩:=Y i Hs[i] (G0c y)
    rw[ad]at f
    injection f with f
    subst f
    have az:Q1o o'=some (e,sz,n):=by
     unfold rowAt at hrow
     rw[r,G0a]at hrow
     exact hrow
    obtain⟨n',h4,h5,h6⟩:=hk.evo.row i e sz n (by unfold rowAt;rw[G0c y,G0a,Q7c A];exact az)
    obtain⟨aZ,I,h8⟩:=Q4r h4
    refine⟨n',by unfold rowAt;rw[Q6a L ak,t];simp only[I,G0w,G0a,Z3h];exact h8,h5,λhx=>?_⟩
    obtain⟨g,a,_⟩:=u.gh r
    have I:=h6 hx
    unfold gv at I |-
    rw[Q4v ad a]at I
    rw[Q4t (by omega) D,t,a]
    exact I
 have aE:∀b,b<w.heap.size->b<w'.heap.size:=λb hb=>G1f hb hk.since.size
 refine⟨⟨?_,λl o g V a=>?_,λi j gi O t C au b hb F=>?_,λl g a b hb=>?_,hk.inv.phi,hk.inv.gi,hk.inv.gn⟩,hE,
  ⟨hk.since.os,hk.since.tape,hk.since.output,hk.since.size,λb hb z=>hk.since.foreign b hb (aa b (λl g a _=>z l g a)),λb k ag hb z=>hk.since.phi b k ag hb (aa b (λl g a _=>z l g a)),λl g a b hb=>?_⟩⟩
 ·simp[Q6b,Q0q,Q,S]
 ·rcases N l with⟨i,_,y,f,r⟩|⟨L,t,f,r⟩|⟨f,_⟩
  ·rw[f]at a
   rw[r]at V
   obtain⟨o',aF,rfl⟩:=G0g.1 V
   have x:=hk.inv.obj i o' g aF a
   cases o' with
   | var cs=>
     obtain⟨b,T,vs,K,aG,hb,aH,hr,z⟩:=x
     refine⟨b,T,vs,K,aG,hb,by simpa using aH,λk v c aJ W=>?_,z.1,λc W aK=>?_⟩
     rotate_left
     ·obtain⟨X,ah,rfl⟩:=G3i.1 W
      exact z.2 X ah ((AV.isS_mapL X).symm.trans aK)
     rw[G0x]at W
     obtain⟨X,ah,rfl⟩:=G0g.1 W
     obtain⟨h6,I⟩:=hr k v X aJ ah
     exact⟨h6,I.back aj al Q S D⟩
   | row e sz xs fz=>exact x
   | map es=>exact x
   | bld s=>exact x
   | brow e s=>exact x
   | prn e1 s e2 sz xs=>exact x
   | iter s p=>exact x
   | tree e sz off e2 a2 m xs=>exact x
   | hrow e sz xs j off l' n=>
     obtain⟨cells,k1,k2,k3,k4,k5,k6,k7,k8,k9,aT,aU⟩:=x
     exact⟨cells,k1,k2,k3,k4,k5,k6,k7,k8,k9,aT,λv K=>(aU v K).back0 aj al Q S D⟩
   | moved e sz n=>trivial
   | hold d=>exact x
   | gone=>trivial
  ·rw[f]at a
   rw[r]at V
   have av:=ac l g a t
   exact(u.obj l o g V a).keep hE (λb hb=>hk.since.foreign b (u.own l g a b hb).2 (av b hb)) (λb hb k ag=>hk.since.phi b k ag (u.own l g a b hb).2 (av b hb))
  rw[f]at a
  cases a
 ·rcases N i with⟨i',aV,y,f,_⟩|⟨L,aW,f,_⟩|⟨f,_⟩<;>rcases N j with⟨j',aX,ao,k1,_⟩|⟨a3,aY,k1,_⟩|⟨k1,_⟩<;>rw[f]at t<;>rw[k1]at C
  ·exact hk.inv.disj i' j' gi O t C (λe=>au (by rw[aV,aX,e])) b hb F
  ·rcases hk.since.own i' gi t b hb with r|⟨q,M,r,A⟩
   ·have:=(u.own j O C b F).2
    omega
   exact ac j O C aY b F q M r A
  ·cases C
  ·rcases hk.since.own j' O C b F with r|⟨q,M,r,A⟩
   ·have:=(u.own i gi t b hb).2
    omega
   exact ac i gi t aW b hb q M r A
  ·exact u.disj i j gi O t C au b hb F
  ·cases C
  ·cases t
  ·cases t
  cases t
 ·rcases N l with⟨i,_,y,f,_⟩|⟨L,t,f,_⟩|⟨f,_⟩
  ·rw[f]at a
   exact hk.inv.own i g a b hb
  ·rw[f]at a
   exact⟨(u.own l g a b hb).1,aE b (u.own l g a b hb).2⟩
  rw[f]at a
  cases a
 rcases N l with⟨i,_,y,f,_⟩|⟨L,t,f,_⟩|⟨f,_⟩
 ·rw[f]at a
  rcases hk.since.own i g a b hb with r|⟨q,M,r,A⟩
  ·exact .inl r
  obtain⟨l',_,h4⟩:=am q M b r A
  exact .inr ⟨l',M,h4,A⟩
 ·rw[f]at a
  exact .inr ⟨l,g,a,hb⟩
 rw[f]at a
 cases a
end
end Go.Abs
