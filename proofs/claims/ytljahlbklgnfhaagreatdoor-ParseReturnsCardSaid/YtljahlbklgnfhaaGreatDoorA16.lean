import Derived.Test.YtljahlbklgnfhaaGreatDoorA38
set_option linter.unusedVariables false
set_option linter.unusedSimpArgs false
set_option linter.defProp false
namespace Go.Abs
open Go.RowKit
def idx:List Nat->Nat->Option Nat
 | [],_=>none
 | x::r,l=>if x=l then some 0 else(idx r l).map (·+1)
theorem Q7x:∀ {sel:List Nat} {l i:Nat},idx sel l=some i->sel[i]?=some l
 | [],l,i,h=>by simp[idx]at h
 | x::r,l,i,h=>by
   simp only[idx]at h
   split at h
   ·rename_i a
    simp only[G0c]at h
    subst h a
    rfl
   obtain⟨j,b,rfl⟩:=G0k.1 h
   rw[G1f]
   exact Q7x b
theorem X2b:∀ {sel:List Nat},sel.Nodup->∀ {l i:Nat},sel[i]?=some l->idx sel l=some i
 | [],_,l,i,h=>by simp at h
 | x::r,b,l,i,h=>by
   have a:=G5r.1 b
   cases i with
   | zero=>
     simp only[G0s,G0c]at h
     simp[idx,h]
   | succ i=>
     rw[G1f]at h
     have d:x≠l:=λe=>a.1 (by rw[e];exact G1o h)
     simp[idx,d,X2b a.2 h]
theorem K4g{sel:List Nat}{l:Nat}(h:idx sel l=none):l∉sel:=by
 induction sel with
 | nil=>simp
 | cons x r a=>
   simp only[idx]at h
   split at h
   ·cases h
   rename_i b
   simp only[Option.map_eq_none_iff]at h
   simp only[G1j,not_or]
   exact⟨λe=>b e.symm,a h⟩
def renN(f:Nat->Option Nat):List Nat->Option (List Nat)
 | []=>some []
 | l::r=>match f l,renN f r with
   | some i,some s=>some (i::s)
   | _,_=>none
theorem X1d{f:Nat->Option Nat}:∀ {cs ds:List Nat},renN f cs=some ds->cs.length=ds.length/\∀ (k d:Nat),ds[k]?=some d->∃c,cs[k]?=some c/\f c=some d
 | [],ds,h=>by
   simp only[renN,G0c]at h
   subst h
   exact⟨rfl,λk d hd=>by simp at hd⟩
 | c::cs,ds,h=>by
   simp only[renN]at h
   split at h
   ·rename_i b s hb hs
    simp only[G0c]at h
    subst h
    obtain⟨a,e⟩:=X1d hs
    refine⟨by simp[a],λk d hd=>?_⟩
    cases k with
    | zero=>simp only[G0s,G0c]at hd |-;subst hd;exact⟨c,rfl,hb⟩
    | succ k=>rw[G1f]at hd;obtain⟨c',g,i⟩:=e k d hd;exact⟨c',by rw[G1f];exact g,i⟩
   cases h
def AV.ren0(f:Nat->Option Nat):AV->Option AV
 | .ref l o=>(f l).map λi=>.ref i o
 | .vec l n=>(f l).map λi=>.vec i n
 | .vptr l n i o=>(f l).map λj=>.vptr j n i o
 | .selfp l=>(f l).map λi=>.selfp i
 | .fn g b=>(renN f b).map λc=>.fn g c
 | .tup _=>none
 | .agg _=>none
 | a=>some a
def X7f(f:Nat->Option Nat):List AV->Option (List AV)
 | []=>some []
 | a::r=>match a.ren0 f,X7f f r with
   | some b,some s=>some (b::s)
   | _,_=>none
def AV.ren(f:Nat->Option Nat):AV->Option AV
 | .ref l o=>(f l).map λi=>.ref i o
 | .vec l n=>(f l).map λi=>.vec i n
 | .vptr l n i o=>(f l).map λj=>.vptr j n i o
 | .selfp l=>(f l).map λi=>.selfp i
 | .fn g b=>(renN f b).map λc=>.fn g c
 | .tup _=>none
 | .agg vs=>(X7f f vs).map .agg
 | a=>some a
def AV.mapL0(f:Nat->Nat):AV->AV
 | .ref l o=>.ref (f l) o
 | .vec l n=>.vec (f l) n
 | .vptr l n i o=>.vptr (f l) n i o
 | .selfp l=>.selfp (f l)
 | .fn g b=>.fn g (b.map f)
 | .tup _=>.any
 | .agg _=>.any
 | a=>a
def AV.mapL(f:Nat->Nat):AV->AV
 | .ref l o=>.ref (f l) o
 | .vec l n=>.vec (f l) n
 | .vptr l n i o=>.vptr (f l) n i o
 | .selfp l=>.selfp (f l)
 | .fn g b=>.fn g (b.map f)
 | .tup _=>.any
 | .agg vs=>.agg (vs.map (AV.mapL0 f))
 | a=>a
def renL(f:Nat->Option Nat):List AV->Option (List AV)
 | []=>some []
 | a::r=>match a.ren f,renL f r with
   | some b,some s=>some (b::s)
   | _,_=>none
theorem J5f{f:Nat->Option Nat}:∀ {cs ds:List AV},X7f f cs=some ds->cs.length=ds.length/\∀ (k:Nat) (d:AV),ds[k]?=some d->∃c,cs[k]?=some c/\c.ren0 f=some d
 | [],ds,h=>by
   simp only[X7f,G0c]at h
   subst h
   exact⟨rfl,λk d hd=>by simp at hd⟩
 | c::cs,ds,h=>by
   simp only[X7f]at h
   split at h
   ·rename_i b s hb hs
    simp only[G0c]at h
    subst h
    obtain⟨a,e⟩:=J5f hs
    refine⟨by simp[a],λk d hd=>?_⟩
    cases k with
    | zero=>simp only[G0s,G0c]at hd |-;subst hd;exact⟨c,rfl,hb⟩
    | succ k=>rw[G1f]at hd;obtain⟨c',g,i⟩:=e k d hd;exact⟨c',by rw[G1f];exact g,i⟩
   cases h
def AObj.ren(f:Nat->Option Nat):AObj->Option AObj
 | .var cs=>(renL f cs).map .var
 | o=>some o
def AObj.mapL(f:Nat->Nat):AObj->AObj
 | .var cs=>.var (cs.map (AV.mapL f))
 | o=>o
theorem Q7n{f:Nat->Option Nat}{o o':AObj}(h:o.ren f=some o'):Q1y o'=Q1y o:=by
 cases o<;>simp only[AObj.ren,G0c,G0k]at h
 case var cs=>obtain⟨ds,_,rfl⟩:=h;rfl
 all_goals(subst h;rfl)
theorem Z5d(f:Nat->Nat)(o:AObj):Q1y (o.mapL f)=Q1y o:=by
 cases o<;>rfl
def Q1c(H:List AObj)(f:Nat->Option Nat):List Nat->Option (List AObj)
 | []=>some []
 | l::r=>match (H[l]?).bind (AObj.ren f),Q1c H f r with
   | some o,some s=>some (o::s)
   | _,_=>none
theorem J2s{f:Nat->Option Nat}:∀ {cs ds:List AV},renL f cs=some ds->cs.length=ds.length/\∀ (k:Nat) (d:AV),ds[k]?=some d->∃c,cs[k]?=some c/\c.ren f=some d
 | [],ds,h=>by
   simp only[renL,G0c]at h
   subst h
   exact⟨rfl,λk d hd=>by simp at hd⟩
 | c::cs,ds,h=>by
   simp only[renL]at h
   split at h
   ·rename_i b s hb hs
    simp only[G0c]at h
    subst h
    obtain⟨a,e⟩:=J2s hs
    refine⟨by simp[a],λk d hd=>?_⟩
    cases k with
    | zero=>simp only[G0s,G0c]at hd |-;subst hd;exact⟨c,rfl,hb⟩
    | succ k=>rw[G1f]at hd;obtain⟨c',g,i⟩:=e k d hd;exact⟨c',by rw[G1f];exact g,i⟩
   cases h
theorem Q3d{H:List AObj}{f:Nat->Option Nat}:∀ {sel:List Nat} {Hs:List AObj},Q1c H f sel=some Hs->sel.length=Hs.length/\∀ (i:Nat) (o:AObj),Hs[i]?=some o->∃l o',sel[i]?=some l/\H[l]?=some o'/\o'.ren f=some o
 | [],Hs,h=>by
   simp only[Q1c,G0c]at h
   subst h
   exact⟨rfl,λk d hd=>by simp at hd⟩
 | l::sel,Hs,h=>by
   simp only[Q1c]at h
   split at h
   ·rename_i o s a hs
    simp only[G0c]at h
    subst h
    obtain⟨b,e⟩:=Q3d hs
    refine⟨by simp[b],λk d hd=>?_⟩
    cases k with
    | zero=>
      simp only[G0s,G0c]at hd
      subst hd
      obtain⟨o',g,j⟩:=G1x.1 a
      exact⟨l,o',rfl,g,j⟩
    | succ k=>
      rw[G1f]at hd
      obtain⟨l',o',m,n,p⟩:=e k d hd
      exact⟨l',o',by rw[G1f];exact m,n,p⟩
   cases h
section
variable {E:Env}{γ:List Gh}{H:List AObj}{Φ:Nat->Nat->Prop}{w:World}
def Q6v(γ:List Gh)(sel:List Nat):List Gh:=sel.map λl=>γ.getD l ⟨undef,[]⟩
theorem Q5l{sel:List Nat}{i l:Nat}{g:Gh}(a:sel[i]?=some l)(b:γ[l]?=some g):(Q6v γ sel)[i]?=some g:=by
 unfold Q6v
 rw[G1i,a]
 simp[G0y,b]
theorem AV.isS_ren{a b:AV}{f:Nat->Option Nat}(h:a.ren f=some b):b.isS=a.isS:=by
 cases a<;>simp only[AV.ren,AV.ren0,G0c]at h<;>first|(subst h;rfl)|(obtain⟨_,_,rfl⟩:=G0k.1 h;rfl)|cases h
theorem AV.isS_mapL{f:Nat->Nat}(a:AV):(a.mapL f).isS=a.isS:=by cases a<;>rfl
theorem ARel.select0(O:OInv E γ H Φ w){sel:List Nat}{Hs:List AObj}(hs:Q1c H (idx sel) sel=some Hs){v:Value}{a b:AV}(h:ARel γ H Φ w v a)(d:a.ren0 (idx sel)=some b):ARel (Q6v γ sel) Hs Φ w v b:=by
 obtain⟨P,Q⟩:=Q3d hs
 have x:∀l i,idx sel l=some i->gv (Q6v γ sel) i=gv γ l/\∀o,H[l]?=some o->∃o',Hs[i]?=some o'/\o.ren (idx sel)=some o':=by
  intro l i m
  have C:=Q7x m
  have N:i<Hs.length:=by rw[<-P];exact(G0j.1 C).1
  obtain⟨l',o',r,q,D⟩:=Q i Hs[i] (G0f N)
  rw[C]at r
  injection r with r
  subst r
  obtain⟨g,z,_⟩:=O.gh q
  refine⟨?_,λo y=>⟨Hs[i],G0f N,?_⟩⟩
  ·unfold gv
   rw[Q5l C z,z]
  rw[y]at q
  injection q with q
  rw[q]
  exact D
 cases h with
 | any v=>simp only[AV.ren0,G0c]at d;subst d;exact .any v
 | pv h=>simp only[AV.ren0,G0c]at d;subst d;exact .pv h
 | nils=>simp only[AV.ren0,G0c]at d;subst d;exact .nils
 | ifc t u p h=>simp only[AV.ren0,G0c]at d;subst d;exact .ifc t u p h
 | full A n xs h=>simp only[AV.ren0,G0c]at d;subst d;exact .full A n xs h
 | pptr b' o cs vs r q D=>simp only[AV.ren0,G0c]at d;subst d;exact .pptr b' o cs vs r q D
 | tup=>simp[AV.ren0]at d
 | agg=>simp[AV.ren0]at d
 | ref b' l off h=>
   obtain⟨i,m,rfl⟩:=G0k.1 d
   exact .ref b' i off ((x l i m).1.trans h)
 | selfp A l h=>
   obtain⟨i,m,rfl⟩:=G0k.1 d
   exact .selfp A i (λa e=>(x l i m).1.trans (h a e))
 | fn f cs X Y h=>
   obtain⟨c,S,rfl⟩:=G0k.1 d
   obtain⟨r,q⟩:=X1d S
   refine .fn f cs c (by omega) (λk v i T m=>?_)
   obtain⟨l,U,V⟩:=q k i m
   obtain⟨b,hb,z⟩:=h k v l T U
   exact⟨b,hb,(x l i V).1.trans z⟩
 | vec A l n cap e sz len F I W h=>
   obtain⟨i,m,rfl⟩:=G0k.1 d
   obtain⟨o,y,J⟩:=Q5h F
   obtain⟨o',K,L⟩:=(x l i m).2 _ y
   exact .vec A i n cap e sz len (by unfold rowAt;rw[K,G0a,Q7n L];exact J) I W (λM=>(x l i m).1.trans (h M))
 | vptr b' o l n j off e sz len F I h=>
   obtain⟨i,m,rfl⟩:=G0k.1 d
   obtain⟨ob,y,J⟩:=Q5h F
   obtain⟨o',K,L⟩:=(x l i m).2 _ y
   refine .vptr b' o i n j off e sz len (by unfold rowAt;rw[K,G0a,Q7n L];exact J) I (λM=>?_)
   obtain⟨cap,r,q⟩:=h M
   exact⟨cap,(x l i m).1.trans r,q⟩
theorem ARel.select(d:OInv E γ H Φ w){sel:List Nat}{Hs:List AObj}(hs:Q1c H (idx sel) sel=some Hs){v:Value}{a b:AV}(h:ARel γ H Φ w v a)(e:a.ren (idx sel)=some b):ARel (Q6v γ sel) Hs Φ w v b:=by
 cases a with
 | agg vs=>
   cases h with
   | agg ws vs o f h=>
     obtain⟨us,g,rfl⟩:=G0k.1 e
     obtain⟨p,i⟩:=J5f g
     refine .agg ws us (by omega) f (λk v c j l=>?_)
     obtain⟨c',m,n⟩:=i k c l
     exact(h k v c' j m).select0 d hs n
 | _=>exact h.select0 d hs e
theorem OInv.select(m:OInv E γ H Φ w){sel:List Nat}(A:sel.Nodup){Hs:List AObj}(hs:Q1c H (idx sel) sel=some Hs):OInv E (Q6v γ sel) Hs Φ w:=by
 obtain⟨M,C⟩:=Q3d hs
 have ghs:∀ (i:Nat) g,(Q6v γ sel)[i]?=some g->∃l,sel[i]?=some l/\γ[l]?=some g:=by
  intro i g f
  have N:i<Hs.length:=by
   have:=(G0j.1 f).1
   simp[Q6v]at this
   omega
  obtain⟨l,o',q,p,_⟩:=C i Hs[i] (G0f N)
  obtain⟨g',D,_⟩:=m.gh p
  rw[Q5l q D]at f
  injection f with f
  exact⟨l,q,by rw[D,f]⟩
 refine⟨by simp[Q6v,M],λi o g O f=>?_,λi j F I P Q S b hb=>?_,λi g f b hb=>?_,m.phi,m.gi,m.gn⟩
 ·obtain⟨l,o',q,p,a⟩:=C i o O
  obtain⟨l',r,U⟩:=ghs i g f
  rw[q]at r
  injection r with r
  subst r
  have t:=m.obj l o' g p U
  cases o' with
  | var cs=>
    obtain⟨ds,V,rfl⟩:=G0k.1 a
    obtain⟨af,J⟩:=J2s V
    obtain⟨b,T,vs,W,X,hb,ag,Y,K⟩:=t
    refine⟨b,T,vs,W,X,hb,by omega,λk v c aa u=>?_,K.1,λc u ac=>?_⟩
    rotate_left
    ·obtain⟨k,hk⟩:=List.getElem?_of_mem u
     obtain⟨c',x,y⟩:=J k c hk
     exact K.2 c' (G1o x) ((AV.isS_ren y).symm.trans ac)
    obtain⟨c',x,y⟩:=J k c u
    obtain⟨h6,h7⟩:=Y k v c' aa x
    exact⟨h6,h7.select m hs y⟩
  | row e sz xs fz=>simp only[AObj.ren,G0c]at a;subst a;exact t
  | bld s=>simp only[AObj.ren,G0c]at a;subst a;exact t
  | brow e s=>simp only[AObj.ren,G0c]at a;subst a;exact t
  | prn L s z sz xs=>simp only[AObj.ren,G0c]at a;subst a;exact t
  | moved e sz n=>simp only[AObj.ren,G0c]at a;subst a;trivial
  | hold d=>simp only[AObj.ren,G0c]at a;subst a;exact t
  | gone=>simp only[AObj.ren,G0c]at a;subst a;trivial
 ·obtain⟨l,q,p⟩:=ghs i F P
  obtain⟨l',a,r⟩:=ghs j I Q
  refine m.disj l l' F I p r (λe=>S ?_) b hb
  subst e
  have L:=X2b A q
  have z:=X2b A a
  rw[L]at z
  injection z
 obtain⟨l,_,p⟩:=ghs i g f
 exact m.own l g p b hb
def Q6z(n:Nat)(sel:List Nat)(i:Nat):Nat:=match sel[i]? with
 | some l=>l
 | none=>n+(i-sel.length)
def Q6r(γ:List Gh)(sel:List Nat)(a:List Gh):List Gh:=
 ((List.range γ.length).map λl=>match idx sel l with
   | some i=>a.getD i ⟨undef,[]⟩
   | none=>γ.getD l ⟨undef,[]⟩)++a.drop sel.length
def Q0r(H:List AObj)(sel:List Nat)(H':List AObj):List AObj:=
 ((List.range H.length).map λl=>match idx sel l with
   | some i=>(H'.getD i .gone).mapL (Q6z H.length sel)
   | none=>H.getD l .gone)++(H'.drop sel.length).map (AObj.mapL (Q6z H.length sel))
theorem Q5j{sel:List Nat}{a:List Gh}{l:Nat}(b:l<γ.length)(hk:sel.length<=a.length):(Q6r γ sel a)[l]?=match idx sel l with
 | some i=>a[i]?
 | none=>γ[l]?:=by
 unfold Q6r
 rw[G0q (by simpa using b),G1i,G4f b]
 simp only[G1s]
 cases d:idx sel l with
 | none=>simp only[G0y];rw[G0f b];rfl
 | some i=>
   have e:=(G0j.1 (Q7x d)).1
   simp only[G0y]
   rw[G0f (show i<a.length by omega)]
   rfl
theorem J1o{sel:List Nat}{a:List Gh}{l:Nat}(b:γ.length<=l):(Q6r γ sel a)[l]?=a[sel.length+(l-γ.length)]?:=by
 unfold Q6r
 rw[G0w (by simpa using b),G2e]
 simp
theorem Q6q{sel:List Nat}{H':List AObj}{l:Nat}(a:l<H.length)(hk:sel.length<=H'.length):(Q0r H sel H')[l]?=match idx sel l with
 | some i=>(H'[i]?).map (AObj.mapL (Q6z H.length sel))
 | none=>H[l]?:=by
 unfold Q0r
 rw[G0q (by simpa using a),G1i,G4f a]
 simp only[G1s]
 cases b:idx sel l with
 | none=>simp only[G0y];rw[G0f a];rfl
 | some i=>
   have d:=(G0j.1 (Q7x b)).1
   simp only[G0y]
   rw[G0f (show i<H'.length by omega)]
   rfl
theorem Z5r{sel:List Nat}{H':List AObj}{l:Nat}(a:H.length<=l):(Q0r H sel H')[l]?=(H'[sel.length+(l-H.length)]?).map (AObj.mapL (Q6z H.length sel)):=by
 unfold Q0r
 rw[G0w (by simpa using a),G1i,G2e]
 simp
theorem X5i{sel:List Nat}{a:List Gh}{H':List AObj}(f:γ.length=H.length)(g:a.length=H'.length)(hk:sel.length<=a.length)(l:Nat):
 (∃i,l=Q6z H.length sel i/\i<a.length/\(Q6r γ sel a)[l]?=a[i]?/\(Q0r H sel H')[l]?=(H'[i]?).map (AObj.mapL (Q6z H.length sel))) \/
 (l<H.length/\idx sel l=none/\(Q6r γ sel a)[l]?=γ[l]?/\(Q0r H sel H')[l]?=H[l]?)\/((Q6r γ sel a)[l]?=none/\(Q0r H sel H')[l]?=none):=by
 by_cases d:l<H.length
 ·rw[Q5j (by omega) hk,Q6q d (by omega)]
  cases b:idx sel l with
  | none=>exact .inr (.inl ⟨d,rfl,rfl,rfl⟩)
  | some i=>
    have e:=Q7x b
    have j:=(G0j.1 e).1
    exact .inl ⟨i,by unfold Q6z;rw[e],by omega,rfl,rfl⟩
 rw[J1o (by omega),Z5r (by omega),f]
 by_cases b:sel.length+(l-H.length)<a.length
 ·refine .inl ⟨sel.length+(l-H.length),?_,b,rfl,rfl⟩
  unfold Q6z
  rw[G2c (by omega)]
  simp only
  omega
 exact .inr (.inr ⟨G2c (by omega),by rw[G2c (show H'.length<=_ by omega)];rfl⟩)
theorem K0m{sel:List Nat}(d:sel.Nodup)(e:∀l∈sel,l<H.length){a:List Gh}{H':List AObj}(f:γ.length=H.length)(j:a.length=H'.length)(hk:sel.length<=a.length)(i:Nat):
 (Q6r γ sel a)[Q6z H.length sel i]?=a[i]?/\(Q0r H sel H')[Q6z H.length sel i]?=(H'[i]?).map (AObj.mapL (Q6z H.length sel)):=by
 unfold Q6z
 cases h:sel[i]? with
 | some l=>
   have g:=e l (G1o h)
   simp only
   rw[Q5j (by omega) hk,Q6q g (by omega),X2b d h]
   exact⟨rfl,rfl⟩
 | none=>
   have m:sel.length<=i:=by
    rcases G6r i sel.length with b|b
    ·rw[G0f b]at h;cases h
    exact b
   simp only
   rw[J1o (by omega),Z5r (by omega),f]
   rw[show sel.length+(H.length+(i-sel.length)-H.length)=i from by omega]
   exact⟨rfl,rfl⟩
theorem ARel.back0{sel:List Nat}(I:sel.Nodup)(J:∀l∈sel,l<H.length){d:List Gh}{H':List AObj}{Φ':Nat->Nat->Prop}{w':World}(K:γ.length=H.length)(L:d.length=H'.length)(hk:sel.length<=d.length)
 {v:Value} {a:AV} (h:ARel d H' Φ' w' v a):ARel (Q6r γ sel d) (Q0r H sel H') Φ' w' v (a.mapL0 (Q6z H.length sel)):=by
 have m:∀i u,gv d i=some u->gv (Q6r γ sel d) (Q6z H.length sel i)=some u:=by
  intro i u O
  obtain⟨g,q,r⟩:=Z3x O
  unfold gv
  rw[(K0m I J K L hk i).1,q,<-r]
  rfl
 have M:∀i p,rowAt H' i=some p->rowAt (Q0r H sel H') (Q6z H.length sel i)=some p:=by
  intro i p P
  obtain⟨o,Q,x⟩:=Q5h P
  unfold rowAt
  rw[(K0m I J K L hk i).2,Q,G1s,G0a,Z5d]
  exact x
 cases h with
 | any v=>exact .any v
 | pv h=>exact .pv h
 | nils=>exact .nils
 | ifc t u p h=>exact .ifc t u p h
 | full A n xs h=>exact .full A n xs h
 | pptr b' o cs vs y z S=>exact .pptr b' o cs vs y z S
 | tup ws vs _ _=>exact .any _
 | agg ws vs _ _ _=>exact .any _
 | ref b' l off h=>exact .ref b' _ off (m l _ h)
 | selfp A l h=>exact .selfp A _ (λa e=>m l _ (h a e))
 | fn f cs V x h=>
   refine .fn f cs _ (by simp[x]) (λk v i r N=>?_)
   rw[G1i]at N
   obtain⟨l,T,rfl⟩:=G0k.1 N
   obtain⟨b,hb,q⟩:=h k v l r T
   exact⟨b,hb,m l _ q⟩
 | vec A l n cap e sz len C D U h=>exact .vec A _ n cap e sz len (M l _ C) D U (λF=>m l _ (h F))
 | vptr b' o l n j off e sz len C D h=>
   refine .vptr b' o _ n j off e sz len (M l _ C) D (λF=>?_)
   obtain⟨cap,y,z⟩:=h F
   exact⟨cap,m l _ y,z⟩
theorem ARel.back{sel:List Nat}(d:sel.Nodup)(e:∀l∈sel,l<H.length){b:List Gh}{H':List AObj}{Φ':Nat->Nat->Prop}{w':World}(f:γ.length=H.length)(g:b.length=H'.length)(hk:sel.length<=b.length)
 {v:Value} {a:AV} (h:ARel b H' Φ' w' v a):ARel (Q6r γ sel b) (Q0r H sel H') Φ' w' v (a.mapL (Q6z H.length sel)):=by
 cases a with
 | agg vs=>
   cases h with
   | agg ws vs j m h=>
     refine .agg ws _ (by simp[j]) m (λk v c n i=>?_)
     rw[G1i]at i
     obtain⟨c',o,rfl⟩:=G0k.1 i
     exact(h k v c' n o).back0 d e f g hk
 | _=>exact h.back0 d e f g hk
theorem Ok.back(r:OInv E γ H Φ w){sel:List Nat}(aw:sel.Nodup){Hs:List AObj}(hs:Q1c H (idx sel) sel=some Hs){O:List Gh}{H':List AObj}{Φ':Nat->Nat->Prop}{w':World}
 (hk:Ok E (Q6v γ sel) Hs Φ w O H' Φ' w') (ah:sel.length<=H'.length):Ok E γ H Φ w (Q6r γ sel O) (Q0r H sel H') Φ' w':=by
 obtain⟨hl,V⟩:=Q3d hs
 have az:∀l∈sel,l<H.length:=by
  intro l C
  obtain⟨i,p,t⟩:=G3f C
  obtain⟨l',o',f,m,_⟩:=V i (Hs[i]'(by omega)) (G0f (by omega))
  rw[G0f p,t]at f
  injection f with f
  subst f
  exact(G0j.1 m).1
 have W:=r.len
 have X:=hk.inv.len
 have D:sel.length<=O.length:=by omega
 have K:=λl=>X5i (γ:=γ) (H:=H) W X D l
 have ak:∀ (j:Nat) g b,(Q6v γ sel)[j]?=some g->b∈g.own->∃l,sel[j]?=some l/\γ[l]?=some g:=by
  intro j g b a _
  have al:j<Hs.length:=by
   have:=(G0j.1 a).1
   simp[Q6v]at this
   omega
  obtain⟨l,o',f,m,_⟩:=V j Hs[j] (G0f al)
  obtain⟨g',P,_⟩:=r.gh m
  rw[Q5l f P]at a
  injection a with a
  exact⟨l,f,by rw[P,a]⟩
 have Y:∀b,(∀ (l:Nat) g,γ[l]?=some g->l∈sel->b∉g.own)->∀ (i:Nat) g,(Q6v γ sel)[i]?=some g->b∉g.own:=by
  intro b hb i g a C
  obtain⟨l,f,m⟩:=ak i g b a C
  exact hb l g m (G1o f) C
 have aa:∀l g,γ[l]?=some g->idx sel l=none->∀b∈g.own,∀ (i:Nat) g',(Q6v γ sel)[i]?=some g'->b∉g'.own:=by
  intro l g a u b hb
  refine Y b (λl' g' P C z=>?_)
  have aA:l≠l':=λe=>K4g u (by rw[e];exact C)
  exact r.disj l l' g g' a P aA b hb z
 have hE:Evo γ H Φ w (Q6r γ sel O) (Q0r H sel H') Φ' w':=by
  refine⟨hk.evo.phi,hk.evo.cell,λl v Q=>?_,λl e sz n L=>?_⟩
  ·obtain⟨g,a,aB⟩:=Z3x Q
   have ao:=(G0j.1 a).1
   cases p:idx sel l with
   | none=>
     refine .inl ?_
     unfold gv
     rw[Q5j ao D,p]
     exact Q
   | some i=>
     have f:gv (Q6v γ sel) i=some v:=by
      unfold gv
      rw[Q5l (Q7x p) a,<-aB]
      rfl
     rcases hk.evo.gh i v f with m|m
     ·refine .inl ?_
      unfold gv
      rw[Q5j ao D,p]
      exact m
     exact .inr m
  have F:=Q9z L
  cases p:idx sel l with
  | none=>
    refine⟨n,by unfold rowAt;rw[Q6q F ah,p];exact L,G0r _,λ_=>?_⟩
    unfold gv
    rw[Q5j (by omega) D,p]
  | some i=>
    have ac:=Q7x p
    have t:i<Hs.length:=by rw[<-hl];exact(G0j.1 ac).1
    obtain⟨l',o',f,m,x⟩:=V i Hs[i] (G0f t)
    rw[ac]at f
    injection f with f
    subst f
    have aD:Q1y o'=some (e,sz,n):=by
     unfold rowAt at L
     rw[m,G0a]at L
     exact L
    obtain⟨n',h4,h5,h6⟩:=hk.evo.row i e sz n (by unfold rowAt;rw[G0f t,G0a,Q7n x];exact aD)
    obtain⟨aY,A,h8⟩:=Q5h h4
    refine⟨n',by unfold rowAt;rw[Q6q F ah,p];simp only[A,G1s,G0a,Z5d];exact h8,h5,λhx=>?_⟩
    obtain⟨g,a,_⟩:=r.gh m
    have A:=h6 hx
    unfold gv at A |-
    rw[Q5l ac a]at A
    rw[Q5j (by omega) D,p,a]
    exact A
 have aI:∀b,b<w.heap.size->b<w'.heap.size:=λb hb=>G1m hb hk.since.size
 refine⟨⟨?_,λl o g S a=>?_,λi j M N p y aq b hb z=>?_,λl g a b hb=>?_,hk.inv.phi,hk.inv.gi,hk.inv.gn⟩,hE,
  ⟨hk.since.os,hk.since.tape,hk.since.output,hk.since.size,λb hb u=>hk.since.foreign b hb (Y b (λl g a _=>u l g a)),λb k af hb u=>hk.since.phi b k af hb (Y b (λl g a _=>u l g a)),λl g a b hb=>?_⟩⟩
 ·simp[Q6r,Q0r,W,X]
 ·rcases K l with⟨i,_,t,f,m⟩|⟨F,p,f,m⟩|⟨f,_⟩
  ·rw[f]at a
   rw[m]at S
   obtain⟨o',aL,rfl⟩:=G0k.1 S
   have I:=hk.inv.obj i o' g aL a
   cases o' with
   | var cs=>
     obtain⟨b,T,vs,Q,aM,hb,aN,hr,u⟩:=I
     refine⟨b,T,vs,Q,aM,hb,by simpa using aN,λk v c aP U=>?_,u.1,λc U aQ=>?_⟩
     rotate_left
     ·obtain⟨c',ag,rfl⟩:=G3r.1 U
      exact u.2 c' ag ((AV.isS_mapL c').symm.trans aQ)
     rw[G1i]at U
     obtain⟨c',ag,rfl⟩:=G0k.1 U
     obtain⟨h6,A⟩:=hr k v c' aP ag
     exact⟨h6,A.back aw az W X D⟩
   | row e sz xs fz=>exact I
   | bld s=>exact I
   | brow e s=>exact I
   | prn e1 s e2 sz xs=>exact I
   | moved e sz n=>trivial
   | hold d=>exact I
   | gone=>trivial
  ·rw[f]at a
   rw[m]at S
   have ar:=aa l g a p
   exact(r.obj l o g S a).keep hE (λb hb=>hk.since.foreign b (r.own l g a b hb).2 (ar b hb)) (λb hb k af=>hk.since.phi b k af (r.own l g a b hb).2 (ar b hb))
  rw[f]at a
  cases a
 ·rcases K i with⟨i',aS,t,f,_⟩|⟨F,aU,f,_⟩|⟨f,_⟩<;>rcases K j with⟨j',aV,al,k1,_⟩|⟨a1,aX,k1,_⟩|⟨k1,_⟩<;>rw[f]at p<;>rw[k1]at y
  ·exact hk.inv.disj i' j' M N p y (λe=>aq (by rw[aS,aV,e])) b hb z
  ·rcases hk.since.own i' M p b hb with m|⟨q,J,m,x⟩
   ·have:=(r.own j N y b z).2
    omega
   exact aa j N y aX b z q J m x
  ·cases y
  ·rcases hk.since.own j' N y b z with m|⟨q,J,m,x⟩
   ·have:=(r.own i M p b hb).2
    omega
   exact aa i M p aU b hb q J m x
  ·exact r.disj i j M N p y aq b hb z
  ·cases y
  ·cases p
  ·cases p
  cases p
 ·rcases K l with⟨i,_,t,f,_⟩|⟨F,p,f,_⟩|⟨f,_⟩
  ·rw[f]at a
   exact hk.inv.own i g a b hb
  ·rw[f]at a
   exact⟨(r.own l g a b hb).1,aI b (r.own l g a b hb).2⟩
  rw[f]at a
  cases a
 rcases K l with⟨i,_,t,f,_⟩|⟨F,p,f,_⟩|⟨f,_⟩
 ·rw[f]at a
  rcases hk.since.own i g a b hb with m|⟨q,J,m,x⟩
  ·exact .inl m
  obtain⟨l',_,h4⟩:=ak q J b m x
  exact .inr ⟨l',J,h4,x⟩
 ·rw[f]at a
  exact .inr ⟨l,g,a,hb⟩
 rw[f]at a
 cases a
end
end Go.Abs
