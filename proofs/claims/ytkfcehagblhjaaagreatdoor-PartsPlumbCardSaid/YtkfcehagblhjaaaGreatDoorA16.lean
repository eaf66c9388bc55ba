import Derived.Test.YtkfcehagblhjaaaGreatDoorA38
set_option linter.unusedVariables false
set_option linter.unusedSimpArgs false
set_option linter.defProp false
namespace Go.Abs
open Go.RowKit
def idx:List Nat→Nat→Option Nat
 | [],_=>none
 | x::r,l=>if x=l then some 0 else(idx r l).map (·+1)
theorem idx_some:∀ {sel:List Nat} {l i:Nat},idx sel l=some i→sel[i]?=some l
 | [],l,i,h=>by simp[idx]at h
 | x::r,l,i,h=>by
   simp only[idx]at h
   split at h
   ·rename_i hx
    simp only[Option.some.injEq]at h
    subst h hx
    rfl
   obtain⟨j,hj,rfl⟩:=Option.map_eq_some_iff.1 h
   rw[List.getElem?_cons_succ]
   exact idx_some hj
theorem idx_of:∀ {sel:List Nat},sel.Nodup→∀ {l i:Nat},sel[i]?=some l→idx sel l=some i
 | [],_,l,i,h=>by simp at h
 | x::r,hn,l,i,h=>by
   have hn':=List.nodup_cons.1 hn
   cases i with
   | zero=>
     simp only[List.getElem?_cons_zero,Option.some.injEq]at h
     simp[idx,h]
   | succ i=>
     rw[List.getElem?_cons_succ]at h
     have hne:x≠l:=fun e=>hn'.1 (by rw[e];exact List.mem_of_getElem? h)
     simp[idx,hne,idx_of hn'.2 h]
theorem idx_none{sel:List Nat}{l:Nat}(h:idx sel l=none):l∉sel:=by
 induction sel with
 | nil=>simp
 | cons x r ih=>
   simp only[idx]at h
   split at h
   ·cases h
   rename_i hx
   simp only[Option.map_eq_none_iff]at h
   simp only[List.mem_cons,not_or]
   exact⟨fun e=>hx e.symm,ih h⟩
def renN(f:Nat→Option Nat):List Nat→Option (List Nat)
 | []=>some []
 | l::r=>match f l,renN f r with
   | some i,some s=>some (i::s)
   | _,_=>none
theorem renN_get{f:Nat→Option Nat}:∀ {cs ds:List Nat},renN f cs=some ds→cs.length=ds.length∧∀ (k d:Nat),ds[k]?=some d→∃c,cs[k]?=some c∧f c=some d
 | [],ds,h=>by
   simp only[renN,Option.some.injEq]at h
   subst h
   exact⟨rfl,fun k d hd=>by simp at hd⟩
 | c::cs,ds,h=>by
   simp only[renN]at h
   split at h
   ·rename_i b s hb hs
    simp only[Option.some.injEq]at h
    subst h
    obtain⟨h1,h2⟩:=renN_get hs
    refine⟨by simp[h1],fun k d hd=>?_⟩
    cases k with
    | zero=>simp only[List.getElem?_cons_zero,Option.some.injEq]at hd ⊢;subst hd;exact⟨c,rfl,hb⟩
    | succ k=>rw[List.getElem?_cons_succ]at hd;obtain⟨c',hc',hr⟩:=h2 k d hd;exact⟨c',by rw[List.getElem?_cons_succ];exact hc',hr⟩
   cases h
def AV.ren0(f:Nat→Option Nat):AV→Option AV
 | .ref l o=>(f l).map fun i=>.ref i o
 | .vec l n=>(f l).map fun i=>.vec i n
 | .vptr l n i o=>(f l).map fun j=>.vptr j n i o
 | .mref l=>(f l).map fun i=>.mref i
 | .selfp l=>(f l).map fun i=>.selfp i
 | .fn g caps=>(renN f caps).map fun c=>.fn g c
 | .tup _=>none
 | .agg _=>none
 | a=>some a
def renL0(f:Nat→Option Nat):List AV→Option (List AV)
 | []=>some []
 | a::r=>match a.ren0 f,renL0 f r with
   | some b,some s=>some (b::s)
   | _,_=>none
def AV.ren(f:Nat→Option Nat):AV→Option AV
 | .ref l o=>(f l).map fun i=>.ref i o
 | .vec l n=>(f l).map fun i=>.vec i n
 | .vptr l n i o=>(f l).map fun j=>.vptr j n i o
 | .mref l=>(f l).map fun i=>.mref i
 | .selfp l=>(f l).map fun i=>.selfp i
 | .fn g caps=>(renN f caps).map fun c=>.fn g c
 | .tup _=>none
 | .agg vs=>(renL0 f vs).map .agg
 | a=>some a
def AV.mapL0(f:Nat→Nat):AV→AV
 | .ref l o=>.ref (f l) o
 | .vec l n=>.vec (f l) n
 | .vptr l n i o=>.vptr (f l) n i o
 | .mref l=>.mref (f l)
 | .selfp l=>.selfp (f l)
 | .fn g caps=>.fn g (caps.map f)
 | .tup _=>.any
 | .agg _=>.any
 | a=>a
def AV.mapL(f:Nat→Nat):AV→AV
 | .ref l o=>.ref (f l) o
 | .vec l n=>.vec (f l) n
 | .vptr l n i o=>.vptr (f l) n i o
 | .mref l=>.mref (f l)
 | .selfp l=>.selfp (f l)
 | .fn g caps=>.fn g (caps.map f)
 | .tup _=>.any
 | .agg vs=>.agg (vs.map (AV.mapL0 f))
 | a=>a
def renL(f:Nat→Option Nat):List AV→Option (List AV)
 | []=>some []
 | a::r=>match a.ren f,renL f r with
   | some b,some s=>some (b::s)
   | _,_=>none
theorem renL0_get{f:Nat→Option Nat}:∀ {cs ds:List AV},renL0 f cs=some ds→cs.length=ds.length∧∀ (k:Nat) (d:AV),ds[k]?=some d→∃c,cs[k]?=some c∧c.ren0 f=some d
 | [],ds,h=>by
   simp only[renL0,Option.some.injEq]at h
   subst h
   exact⟨rfl,fun k d hd=>by simp at hd⟩
 | c::cs,ds,h=>by
   simp only[renL0]at h
   split at h
   ·rename_i b s hb hs
    simp only[Option.some.injEq]at h
    subst h
    obtain⟨h1,h2⟩:=renL0_get hs
    refine⟨by simp[h1],fun k d hd=>?_⟩
    cases k with
    | zero=>simp only[List.getElem?_cons_zero,Option.some.injEq]at hd ⊢;subst hd;exact⟨c,rfl,hb⟩
    | succ k=>rw[List.getElem?_cons_succ]at hd;obtain⟨c',hc',hr⟩:=h2 k d hd;exact⟨c',by rw[List.getElem?_cons_succ];exact hc',hr⟩
   cases h
def AObj.ren(f:Nat→Option Nat):AObj→Option AObj
 | .var cs=>(renL f cs).map .var
 | .hrow e sz xs j off l n=>(f l).map fun i=>.hrow e sz xs j off i n
 | o=>some o
def AObj.mapL(f:Nat→Nat):AObj→AObj
 | .var cs=>.var (cs.map (AV.mapL f))
 | .hrow e sz xs j off l n=>.hrow e sz xs j off (f l) n
 | o=>o
theorem rowLike_ren{f:Nat→Option Nat}{o o':AObj}(h:o.ren f=some o'):rowLike o'=rowLike o:=by
 cases o<;>simp only[AObj.ren,Option.some.injEq,Option.map_eq_some_iff]at h
 case var cs=>obtain⟨ds,_,rfl⟩:=h;rfl
 case hrow=>obtain⟨i,_,rfl⟩:=h;rfl
 all_goals(subst h;rfl)
theorem rowLike_mapL(f:Nat→Nat)(o:AObj):rowLike (o.mapL f)=rowLike o:=by
 cases o<;>rfl
def selObjs(H:List AObj)(f:Nat→Option Nat):List Nat→Option (List AObj)
 | []=>some []
 | l::r=>match (H[l]?).bind (AObj.ren f),selObjs H f r with
   | some o,some s=>some (o::s)
   | _,_=>none
theorem renL_get{f:Nat→Option Nat}:∀ {cs ds:List AV},renL f cs=some ds→cs.length=ds.length∧∀ (k:Nat) (d:AV),ds[k]?=some d→∃c,cs[k]?=some c∧c.ren f=some d
 | [],ds,h=>by
   simp only[renL,Option.some.injEq]at h
   subst h
   exact⟨rfl,fun k d hd=>by simp at hd⟩
 | c::cs,ds,h=>by
   simp only[renL]at h
   split at h
   ·rename_i b s hb hs
    simp only[Option.some.injEq]at h
    subst h
    obtain⟨h1,h2⟩:=renL_get hs
    refine⟨by simp[h1],fun k d hd=>?_⟩
    cases k with
    | zero=>simp only[List.getElem?_cons_zero,Option.some.injEq]at hd ⊢;subst hd;exact⟨c,rfl,hb⟩
    | succ k=>rw[List.getElem?_cons_succ]at hd;obtain⟨c',hc',hr⟩:=h2 k d hd;exact⟨c',by rw[List.getElem?_cons_succ];exact hc',hr⟩
   cases h
theorem selObjs_get{H:List AObj}{f:Nat→Option Nat}:∀ {sel:List Nat} {Hs:List AObj},selObjs H f sel=some Hs→sel.length=Hs.length∧∀ (i:Nat) (o:AObj),Hs[i]?=some o→∃l o',sel[i]?=some l∧H[l]?=some o'∧o'.ren f=some o
 | [],Hs,h=>by
   simp only[selObjs,Option.some.injEq]at h
   subst h
   exact⟨rfl,fun k d hd=>by simp at hd⟩
 | l::sel,Hs,h=>by
   simp only[selObjs]at h
   split at h
   ·rename_i o s ho hs
    simp only[Option.some.injEq]at h
    subst h
    obtain⟨h1,h2⟩:=selObjs_get hs
    refine⟨by simp[h1],fun k d hd=>?_⟩
    cases k with
    | zero=>
      simp only[List.getElem?_cons_zero,Option.some.injEq]at hd
      subst hd
      obtain⟨o',ho',hr⟩:=Option.bind_eq_some_iff.1 ho
      exact⟨l,o',rfl,ho',hr⟩
    | succ k=>
      rw[List.getElem?_cons_succ]at hd
      obtain⟨l',o',h3,h4,h5⟩:=h2 k d hd
      exact⟨l',o',by rw[List.getElem?_cons_succ];exact h3,h4,h5⟩
   cases h
section
variable {E:Env}{γ:List Gh}{H:List AObj}{Φ:Nat→Nat→Prop}{w:World}
def selGh(γ:List Gh)(sel:List Nat):List Gh:=sel.map fun l=>γ.getD l ⟨undef,[]⟩
theorem selGh_get{sel:List Nat}{i l:Nat}{g:Gh}(hi:sel[i]?=some l)(hg:γ[l]?=some g):(selGh γ sel)[i]?=some g:=by
 unfold selGh
 rw[List.getElem?_map,hi]
 simp[List.getD_eq_getElem?_getD,hg]
theorem AV.isS_ren{a b:AV}{f:Nat→Option Nat}(h:a.ren f=some b):b.isS=a.isS:=by
 cases a<;>simp only[AV.ren,AV.ren0,Option.some.injEq]at h<;>first|(subst h;rfl)|(obtain⟨_,_,rfl⟩:=Option.map_eq_some_iff.1 h;rfl)|cases h
theorem AV.isS_mapL{f:Nat→Nat}(a:AV):(a.mapL f).isS=a.isS:=by cases a<;>rfl
theorem ARel.select0(hI:OInv E γ H Φ w){sel:List Nat}{Hs:List AObj}(hs:selObjs H (idx sel) sel=some Hs){v:Value}{a b:AV}(h:ARel γ H Φ w v a)(hr:a.ren0 (idx sel)=some b):ARel (selGh γ sel) Hs Φ w v b:=by
 obtain⟨hl,hget⟩:=selObjs_get hs
 have key:∀l i,idx sel l=some i→gv (selGh γ sel) i=gv γ l∧∀o,H[l]?=some o→∃o',Hs[i]?=some o'∧o.ren (idx sel)=some o':=by
  intro l i hi
  have hsi:=idx_some hi
  have hil:i<Hs.length:=by rw[←hl];exact(List.getElem?_eq_some_iff.1 hsi).1
  obtain⟨l',o',h1,h2,h3⟩:=hget i Hs[i] (List.getElem?_eq_getElem hil)
  rw[hsi]at h1
  injection h1 with h1
  subst h1
  obtain⟨g,hg,_⟩:=hI.gh h2
  refine⟨?_,fun o ho=>⟨Hs[i],List.getElem?_eq_getElem hil,?_⟩⟩
  ·unfold gv
   rw[selGh_get hsi hg,hg]
  rw[ho]at h2
  injection h2 with h2
  rw[h2]
  exact h3
 cases h with
 | any v=>simp only[AV.ren0,Option.some.injEq]at hr;subst hr;exact .any v
 | pv h=>simp only[AV.ren0,Option.some.injEq]at hr;subst hr;exact .pv h
 | nils=>simp only[AV.ren0,Option.some.injEq]at hr;subst hr;exact .nils
 | ifc t u p h=>simp only[AV.ren0,Option.some.injEq]at hr;subst hr;exact .ifc t u p h
 | full A n xs h=>simp only[AV.ren0,Option.some.injEq]at hr;subst hr;exact .full A n xs h
 | pptr b' o cs vs h1 h2 h3=>simp only[AV.ren0,Option.some.injEq]at hr;subst hr;exact .pptr b' o cs vs h1 h2 h3
 | tup=>simp[AV.ren0]at hr
 | agg=>simp[AV.ren0]at hr
 | ref b' l off h=>
   obtain⟨i,hi,rfl⟩:=Option.map_eq_some_iff.1 hr
   exact .ref b' i off ((key l i hi).1.trans h)
 | mref b' l h=>
   obtain⟨i,hi,rfl⟩:=Option.map_eq_some_iff.1 hr
   exact .mref b' i ((key l i hi).1.trans h)
 | selfp A l h=>
   obtain⟨i,hi,rfl⟩:=Option.map_eq_some_iff.1 hr
   exact .selfp A i (fun a e=>(key l i hi).1.trans (h a e))
 | fn f cs caps hl' h=>
   obtain⟨c,hc,rfl⟩:=Option.map_eq_some_iff.1 hr
   obtain⟨h1,h2⟩:=renN_get hc
   refine .fn f cs c (by omega) (fun k v i hv hi=>?_)
   obtain⟨l,hl2,hli⟩:=h2 k i hi
   obtain⟨b,hb,hg⟩:=h k v l hv hl2
   exact⟨b,hb,(key l i hli).1.trans hg⟩
 | vec A l n cap e sz len hrow hn hA h=>
   obtain⟨i,hi,rfl⟩:=Option.map_eq_some_iff.1 hr
   obtain⟨o,ho,hlo⟩:=rowAt_some hrow
   obtain⟨o',ho',hro⟩:=(key l i hi).2 _ ho
   exact .vec A i n cap e sz len (by unfold rowAt;rw[ho',Option.bind_some,rowLike_ren hro];exact hlo) hn hA (fun hx=>(key l i hi).1.trans (h hx))
 | vptr b' o l n j off e sz len hrow hn h=>
   obtain⟨i,hi,rfl⟩:=Option.map_eq_some_iff.1 hr
   obtain⟨ob,ho,hlo⟩:=rowAt_some hrow
   obtain⟨o',ho',hro⟩:=(key l i hi).2 _ ho
   refine .vptr b' o i n j off e sz len (by unfold rowAt;rw[ho',Option.bind_some,rowLike_ren hro];exact hlo) hn (fun hx=>?_)
   obtain⟨cap,h1,h2⟩:=h hx
   exact⟨cap,(key l i hi).1.trans h1,h2⟩
theorem ARel.select(hI:OInv E γ H Φ w){sel:List Nat}{Hs:List AObj}(hs:selObjs H (idx sel) sel=some Hs){v:Value}{a b:AV}(h:ARel γ H Φ w v a)(hr:a.ren (idx sel)=some b):ARel (selGh γ sel) Hs Φ w v b:=by
 cases a with
 | agg vs=>
   cases h with
   | agg ws vs hl h1 h=>
     obtain⟨us,hu,rfl⟩:=Option.map_eq_some_iff.1 hr
     obtain⟨e1,e2⟩:=renL0_get hu
     refine .agg ws us (by omega) h1 (fun k v c hv hc=>?_)
     obtain⟨c',hc',hr'⟩:=e2 k c hc
     exact(h k v c' hv hc').select0 hI hs hr'
 | _=>exact h.select0 hI hs hr
theorem OInv.select(hI:OInv E γ H Φ w){sel:List Nat}(hnd:sel.Nodup){Hs:List AObj}(hs:selObjs H (idx sel) sel=some Hs):OInv E (selGh γ sel) Hs Φ w:=by
 obtain⟨hl,hget⟩:=selObjs_get hs
 have ghs:∀ (i:Nat) g,(selGh γ sel)[i]?=some g→∃l,sel[i]?=some l∧γ[l]?=some g:=by
  intro i g hg
  have hil:i<Hs.length:=by
   have:=(List.getElem?_eq_some_iff.1 hg).1
   simp[selGh]at this
   omega
  obtain⟨l,o',h1,h2,_⟩:=hget i Hs[i] (List.getElem?_eq_getElem hil)
  obtain⟨g',hg',_⟩:=hI.gh h2
  rw[selGh_get h1 hg']at hg
  injection hg with hg
  exact⟨l,h1,by rw[hg',hg]⟩
 refine⟨by simp[selGh,hl],fun i o g ho hg=>?_,fun i j gi gj hi hj hij b hb=>?_,fun i g hg b hb=>?_,hI.phi,hI.gi,hI.gn⟩
 ·obtain⟨l,o',h1,h2,h3⟩:=hget i o ho
  obtain⟨l',h4,h5⟩:=ghs i g hg
  rw[h1]at h4
  injection h4 with h4
  subst h4
  have hO:=hI.obj l o' g h2 h5
  cases o' with
  | var cs=>
    obtain⟨ds,hds,rfl⟩:=Option.map_eq_some_iff.1 h3
    obtain⟨hlen,hren⟩:=renL_get hds
    obtain⟨b,T,vs,hv,hown,hb,hvl,hr,hn⟩:=hO
    refine⟨b,T,vs,hv,hown,hb,by omega,fun k v c hvk hc=>?_,hn.1,fun c hc hs'=>?_⟩
    rotate_left
    ·obtain⟨k,hk⟩:=List.getElem?_of_mem hc
     obtain⟨c',hc',hrc⟩:=hren k c hk
     exact hn.2 c' (List.mem_of_getElem? hc') ((AV.isS_ren hrc).symm.trans hs')
    obtain⟨c',hc',hrc⟩:=hren k c hc
    obtain⟨h6,h7⟩:=hr k v c' hvk hc'
    exact⟨h6,h7.select hI hs hrc⟩
  | row e sz xs fz=>simp only[AObj.ren,Option.some.injEq]at h3;subst h3;exact hO
  | map es=>simp only[AObj.ren,Option.some.injEq]at h3;subst h3;exact hO
  | bld s=>simp only[AObj.ren,Option.some.injEq]at h3;subst h3;exact hO
  | brow e s=>simp only[AObj.ren,Option.some.injEq]at h3;subst h3;exact hO
  | prn e1 s e2 sz xs=>simp only[AObj.ren,Option.some.injEq]at h3;subst h3;exact hO
  | iter s p=>simp only[AObj.ren,Option.some.injEq]at h3;subst h3;exact hO
  | tree e sz off e2 sz2 m xs=>simp only[AObj.ren,Option.some.injEq]at h3;subst h3;exact hO
  | hrow e sz xs j off l' n=>
    obtain⟨i,hi,rfl⟩:=Option.map_eq_some_iff.1 h3
    obtain⟨cells,k1,k2,k3,k4,k5,k6,k7,k8,k9,k10,k11⟩:=hO
    exact⟨cells,k1,k2,k3,k4,k5,k6,k7,k8,k9,k10,fun v hv=>(k11 v hv).select0 hI hs (by simp only[AV.ren0,hi,Option.map_some])⟩
  | moved e sz n=>simp only[AObj.ren,Option.some.injEq]at h3;subst h3;trivial
  | hold d=>simp only[AObj.ren,Option.some.injEq]at h3;subst h3;exact hO
  | gone=>simp only[AObj.ren,Option.some.injEq]at h3;subst h3;trivial
 ·obtain⟨l,h1,h2⟩:=ghs i gi hi
  obtain⟨l',h3,h4⟩:=ghs j gj hj
  refine hI.disj l l' gi gj h2 h4 (fun e=>hij ?_) b hb
  subst e
  have e1:=idx_of hnd h1
  have e2:=idx_of hnd h3
  rw[e1]at e2
  injection e2
 obtain⟨l,_,h2⟩:=ghs i g hg
 exact hI.own l g h2 b hb
def backN(n:Nat)(sel:List Nat)(i:Nat):Nat:=match sel[i]? with
 | some l=>l
 | none=>n+(i-sel.length)
def backGh(γ:List Gh)(sel:List Nat)(γ':List Gh):List Gh:=
 ((List.range γ.length).map fun l=>match idx sel l with
   | some i=>γ'.getD i ⟨undef,[]⟩
   | none=>γ.getD l ⟨undef,[]⟩)++γ'.drop sel.length
def backObjs(H:List AObj)(sel:List Nat)(H':List AObj):List AObj:=
 ((List.range H.length).map fun l=>match idx sel l with
   | some i=>(H'.getD i .gone).mapL (backN H.length sel)
   | none=>H.getD l .gone)++(H'.drop sel.length).map (AObj.mapL (backN H.length sel))
theorem backGh_old{sel:List Nat}{γ':List Gh}{l:Nat}(hl:l<γ.length)(hk:sel.length≤γ'.length):(backGh γ sel γ')[l]?=match idx sel l with
 | some i=>γ'[i]?
 | none=>γ[l]?:=by
 unfold backGh
 rw[List.getElem?_append_left (by simpa using hl),List.getElem?_map,List.getElem?_range hl]
 simp only[Option.map_some]
 cases hi:idx sel l with
 | none=>simp only[List.getD_eq_getElem?_getD];rw[List.getElem?_eq_getElem hl];rfl
 | some i=>
   have h1:=(List.getElem?_eq_some_iff.1 (idx_some hi)).1
   simp only[List.getD_eq_getElem?_getD]
   rw[List.getElem?_eq_getElem (show i<γ'.length by omega)]
   rfl
theorem backGh_new{sel:List Nat}{γ':List Gh}{l:Nat}(hl:γ.length≤l):(backGh γ sel γ')[l]?=γ'[sel.length+(l-γ.length)]?:=by
 unfold backGh
 rw[List.getElem?_append_right (by simpa using hl),List.getElem?_drop]
 simp
theorem backObjs_old{sel:List Nat}{H':List AObj}{l:Nat}(hl:l<H.length)(hk:sel.length≤H'.length):(backObjs H sel H')[l]?=match idx sel l with
 | some i=>(H'[i]?).map (AObj.mapL (backN H.length sel))
 | none=>H[l]?:=by
 unfold backObjs
 rw[List.getElem?_append_left (by simpa using hl),List.getElem?_map,List.getElem?_range hl]
 simp only[Option.map_some]
 cases hi:idx sel l with
 | none=>simp only[List.getD_eq_getElem?_getD];rw[List.getElem?_eq_getElem hl];rfl
 | some i=>
   have h1:=(List.getElem?_eq_some_iff.1 (idx_some hi)).1
   simp only[List.getD_eq_getElem?_getD]
   rw[List.getElem?_eq_getElem (show i<H'.length by omega)]
   rfl
theorem backObjs_new{sel:List Nat}{H':List AObj}{l:Nat}(hl:H.length≤l):(backObjs H sel H')[l]?=(H'[sel.length+(l-H.length)]?).map (AObj.mapL (backN H.length sel)):=by
 unfold backObjs
 rw[List.getElem?_append_right (by simpa using hl),List.getElem?_map,List.getElem?_drop]
 simp
theorem back_cases{sel:List Nat}{γ':List Gh}{H':List AObj}(hlen:γ.length=H.length)(hlen':γ'.length=H'.length)(hk:sel.length≤γ'.length)(l:Nat):
 (∃i,l=backN H.length sel i∧i<γ'.length∧(backGh γ sel γ')[l]?=γ'[i]?∧(backObjs H sel H')[l]?=(H'[i]?).map (AObj.mapL (backN H.length sel))) ∨
 (l<H.length∧idx sel l=none∧(backGh γ sel γ')[l]?=γ[l]?∧(backObjs H sel H')[l]?=H[l]?)∨((backGh γ sel γ')[l]?=none∧(backObjs H sel H')[l]?=none):=by
 by_cases hl:l<H.length
 ·rw[backGh_old (by omega) hk,backObjs_old hl (by omega)]
  cases hi:idx sel l with
  | none=>exact .inr (.inl ⟨hl,rfl,rfl,rfl⟩)
  | some i=>
    have h1:=idx_some hi
    have h2:=(List.getElem?_eq_some_iff.1 h1).1
    exact .inl ⟨i,by unfold backN;rw[h1],by omega,rfl,rfl⟩
 rw[backGh_new (by omega),backObjs_new (by omega),hlen]
 by_cases hi:sel.length+(l-H.length)<γ'.length
 ·refine .inl ⟨sel.length+(l-H.length),?_,hi,rfl,rfl⟩
  unfold backN
  rw[List.getElem?_eq_none (by omega)]
  simp only
  omega
 exact .inr (.inr ⟨List.getElem?_eq_none (by omega),by rw[List.getElem?_eq_none (show H'.length≤_ by omega)];rfl⟩)
theorem back_at{sel:List Nat}(hnd:sel.Nodup)(hlt:∀l∈sel,l<H.length){γ':List Gh}{H':List AObj}(hlen:γ.length=H.length)(hlen':γ'.length=H'.length)(hk:sel.length≤γ'.length)(i:Nat):
 (backGh γ sel γ')[backN H.length sel i]?=γ'[i]?∧(backObjs H sel H')[backN H.length sel i]?=(H'[i]?).map (AObj.mapL (backN H.length sel)):=by
 unfold backN
 cases h:sel[i]? with
 | some l=>
   have hl:=hlt l (List.mem_of_getElem? h)
   simp only
   rw[backGh_old (by omega) hk,backObjs_old hl (by omega),idx_of hnd h]
   exact⟨rfl,rfl⟩
 | none=>
   have hge:sel.length≤i:=by
    rcases Nat.lt_or_ge i sel.length with h1|h1
    ·rw[List.getElem?_eq_getElem h1]at h;cases h
    exact h1
   simp only
   rw[backGh_new (by omega),backObjs_new (by omega),hlen]
   rw[show sel.length+(H.length+(i-sel.length)-H.length)=i from by omega]
   exact⟨rfl,rfl⟩
theorem ARel.back0{sel:List Nat}(hnd:sel.Nodup)(hlt:∀l∈sel,l<H.length){γ':List Gh}{H':List AObj}{Φ':Nat→Nat→Prop}{w':World}(hlen:γ.length=H.length)(hlen':γ'.length=H'.length)(hk:sel.length≤γ'.length)
 {v:Value} {a:AV} (h:ARel γ' H' Φ' w' v a):ARel (backGh γ sel γ') (backObjs H sel H') Φ' w' v (a.mapL0 (backN H.length sel)):=by
 have g1:∀i u,gv γ' i=some u→gv (backGh γ sel γ') (backN H.length sel i)=some u:=by
  intro i u hu
  obtain⟨g,hg,hv⟩:=gv_some hu
  unfold gv
  rw[(back_at hnd hlt hlen hlen' hk i).1,hg,←hv]
  rfl
 have g2:∀i p,rowAt H' i=some p→rowAt (backObjs H sel H') (backN H.length sel i)=some p:=by
  intro i p hp
  obtain⟨o,ho,hl⟩:=rowAt_some hp
  unfold rowAt
  rw[(back_at hnd hlt hlen hlen' hk i).2,ho,Option.map_some,Option.bind_some,rowLike_mapL]
  exact hl
 cases h with
 | any v=>exact .any v
 | pv h=>exact .pv h
 | nils=>exact .nils
 | ifc t u p h=>exact .ifc t u p h
 | full A n xs h=>exact .full A n xs h
 | pptr b' o cs vs h1 h2 h3=>exact .pptr b' o cs vs h1 h2 h3
 | tup ws vs _ _=>exact .any _
 | agg ws vs _ _ _=>exact .any _
 | ref b' l off h=>exact .ref b' _ off (g1 l _ h)
 | mref b' l h=>exact .mref b' _ (g1 l _ h)
 | selfp A l h=>exact .selfp A _ (fun a e=>g1 l _ (h a e))
 | fn f cs caps hl h=>
   refine .fn f cs _ (by simp[hl]) (fun k v i hv hi=>?_)
   rw[List.getElem?_map]at hi
   obtain⟨l,hl2,rfl⟩:=Option.map_eq_some_iff.1 hi
   obtain⟨b,hb,hg⟩:=h k v l hv hl2
   exact⟨b,hb,g1 l _ hg⟩
 | vec A l n cap e sz len hrow hn hA h=>exact .vec A _ n cap e sz len (g2 l _ hrow) hn hA (fun hx=>g1 l _ (h hx))
 | vptr b' o l n j off e sz len hrow hn h=>
   refine .vptr b' o _ n j off e sz len (g2 l _ hrow) hn (fun hx=>?_)
   obtain⟨cap,h1,h2⟩:=h hx
   exact⟨cap,g1 l _ h1,h2⟩
theorem ARel.back{sel:List Nat}(hnd:sel.Nodup)(hlt:∀l∈sel,l<H.length){γ':List Gh}{H':List AObj}{Φ':Nat→Nat→Prop}{w':World}(hlen:γ.length=H.length)(hlen':γ'.length=H'.length)(hk:sel.length≤γ'.length)
 {v:Value} {a:AV} (h:ARel γ' H' Φ' w' v a):ARel (backGh γ sel γ') (backObjs H sel H') Φ' w' v (a.mapL (backN H.length sel)):=by
 cases a with
 | agg vs=>
   cases h with
   | agg ws vs hl h1 h=>
     refine .agg ws _ (by simp[hl]) h1 (fun k v c hv hc=>?_)
     rw[List.getElem?_map]at hc
     obtain⟨c',hc',rfl⟩:=Option.map_eq_some_iff.1 hc
     exact(h k v c' hv hc').back0 hnd hlt hlen hlen' hk
 | _=>exact h.back0 hnd hlt hlen hlen' hk
theorem Ok.back(hI:OInv E γ H Φ w){sel:List Nat}(hnd:sel.Nodup){Hs:List AObj}(hs:selObjs H (idx sel) sel=some Hs){γ':List Gh}{H':List AObj}{Φ':Nat→Nat→Prop}{w':World}
 (hk:Ok E (selGh γ sel) Hs Φ w γ' H' Φ' w') (hle:sel.length≤H'.length):Ok E γ H Φ w (backGh γ sel γ') (backObjs H sel H') Φ' w':=by
 obtain⟨hl,hget⟩:=selObjs_get hs
 have hlt:∀l∈sel,l<H.length:=by
  intro l hm
  obtain⟨i,hi,hil⟩:=List.getElem_of_mem hm
  obtain⟨l',o',h1,h2,_⟩:=hget i (Hs[i]'(by omega)) (List.getElem?_eq_getElem (by omega))
  rw[List.getElem?_eq_getElem hi,hil]at h1
  injection h1 with h1
  subst h1
  exact(List.getElem?_eq_some_iff.1 h2).1
 have hlen:=hI.len
 have hlen':=hk.inv.len
 have hkl:sel.length≤γ'.length:=by omega
 have hcases:=fun l=>back_cases (γ:=γ) (H:=H) hlen hlen' hkl l
 have selown:∀ (j:Nat) g b,(selGh γ sel)[j]?=some g→b∈g.own→∃l,sel[j]?=some l∧γ[l]?=some g:=by
  intro j g b hg _
  have hjl:j<Hs.length:=by
   have:=(List.getElem?_eq_some_iff.1 hg).1
   simp[selGh]at this
   omega
  obtain⟨l,o',h1,h2,_⟩:=hget j Hs[j] (List.getElem?_eq_getElem hjl)
  obtain⟨g',hg',_⟩:=hI.gh h2
  rw[selGh_get h1 hg']at hg
  injection hg with hg
  exact⟨l,h1,by rw[hg',hg]⟩
 have foreign:∀b,(∀ (l:Nat) g,γ[l]?=some g→l∈sel→b∉g.own)→∀ (i:Nat) g,(selGh γ sel)[i]?=some g→b∉g.own:=by
  intro b hb i g hg hm
  obtain⟨l,h1,h2⟩:=selown i g b hg hm
  exact hb l g h2 (List.mem_of_getElem? h1) hm
 have oldfor:∀l g,γ[l]?=some g→idx sel l=none→∀b∈g.own,∀ (i:Nat) g',(selGh γ sel)[i]?=some g'→b∉g'.own:=by
  intro l g hg hn b hb
  refine foreign b (fun l' g' hg' hm hb'=>?_)
  have hne:l≠l':=fun e=>idx_none hn (by rw[e];exact hm)
  exact hI.disj l l' g g' hg hg' hne b hb hb'
 have hE:Evo γ H Φ w (backGh γ sel γ') (backObjs H sel H') Φ' w':=by
  refine⟨hk.evo.phi,hk.evo.cell,fun l v hv=>?_,fun l e sz n hrow=>?_⟩
  ·obtain⟨g,hg,hgv⟩:=gv_some hv
   have hlγ:=(List.getElem?_eq_some_iff.1 hg).1
   cases hi:idx sel l with
   | none=>
     refine .inl ?_
     unfold gv
     rw[backGh_old hlγ hkl,hi]
     exact hv
   | some i=>
     have h1:gv (selGh γ sel) i=some v:=by
      unfold gv
      rw[selGh_get (idx_some hi) hg,←hgv]
      rfl
     rcases hk.evo.gh i v h1 with h2|h2
     ·refine .inl ?_
      unfold gv
      rw[backGh_old hlγ hkl,hi]
      exact h2
     exact .inr h2
  have hlH:=rowAt_lt hrow
  cases hi:idx sel l with
  | none=>
    refine⟨n,by unfold rowAt;rw[backObjs_old hlH hle,hi];exact hrow,Nat.le_refl _,fun _=>?_⟩
    unfold gv
    rw[backGh_old (by omega) hkl,hi]
  | some i=>
    have hsi:=idx_some hi
    have hil:i<Hs.length:=by rw[←hl];exact(List.getElem?_eq_some_iff.1 hsi).1
    obtain⟨l',o',h1,h2,h3⟩:=hget i Hs[i] (List.getElem?_eq_getElem hil)
    rw[hsi]at h1
    injection h1 with h1
    subst h1
    have hro:rowLike o'=some (e,sz,n):=by
     unfold rowAt at hrow
     rw[h2,Option.bind_some]at hrow
     exact hrow
    obtain⟨n',h4,h5,h6⟩:=hk.evo.row i e sz n (by unfold rowAt;rw[List.getElem?_eq_getElem hil,Option.bind_some,rowLike_ren h3];exact hro)
    obtain⟨o'',h7,h8⟩:=rowAt_some h4
    refine⟨n',by unfold rowAt;rw[backObjs_old hlH hle,hi];simp only[h7,Option.map_some,Option.bind_some,rowLike_mapL];exact h8,h5,fun hx=>?_⟩
    obtain⟨g,hg,_⟩:=hI.gh h2
    have h7:=h6 hx
    unfold gv at h7 ⊢
    rw[selGh_get hsi hg]at h7
    rw[backGh_old (by omega) hkl,hi,hg]
    exact h7
 have hgrow:∀b,b<w.heap.size→b<w'.heap.size:=fun b hb=>Nat.lt_of_lt_of_le hb hk.since.size
 refine⟨⟨?_,fun l o g ho hg=>?_,fun i j gi gj hi hj hij b hb hb'=>?_,fun l g hg b hb=>?_,hk.inv.phi,hk.inv.gi,hk.inv.gn⟩,hE,
  ⟨hk.since.os,hk.since.tape,hk.since.output,hk.since.size,fun b hb hn=>hk.since.foreign b hb (foreign b (fun l g hg _=>hn l g hg)),fun b k hΦ hb hn=>hk.since.phi b k hΦ hb (foreign b (fun l g hg _=>hn l g hg)),fun l g hg b hb=>?_⟩⟩
 ·simp[backGh,backObjs,hlen,hlen']
 ·rcases hcases l with⟨i,_,hil,h1,h2⟩|⟨hlH,hi,h1,h2⟩|⟨h1,_⟩
  ·rw[h1]at hg
   rw[h2]at ho
   obtain⟨o',ho',rfl⟩:=Option.map_eq_some_iff.1 ho
   have hO:=hk.inv.obj i o' g ho' hg
   cases o' with
   | var cs=>
     obtain⟨b,T,vs,hv,hown,hb,hvl,hr,hn⟩:=hO
     refine⟨b,T,vs,hv,hown,hb,by simpa using hvl,fun k v c hvk hc=>?_,hn.1,fun c hc hs'=>?_⟩
     rotate_left
     ·obtain⟨c',hc',rfl⟩:=List.mem_map.1 hc
      exact hn.2 c' hc' ((AV.isS_mapL c').symm.trans hs')
     rw[List.getElem?_map]at hc
     obtain⟨c',hc',rfl⟩:=Option.map_eq_some_iff.1 hc
     obtain⟨h6,h7⟩:=hr k v c' hvk hc'
     exact⟨h6,h7.back hnd hlt hlen hlen' hkl⟩
   | row e sz xs fz=>exact hO
   | map es=>exact hO
   | bld s=>exact hO
   | brow e s=>exact hO
   | prn e1 s e2 sz xs=>exact hO
   | iter s p=>exact hO
   | tree e sz off e2 sz2 m xs=>exact hO
   | hrow e sz xs j off l' n=>
     obtain⟨cells,k1,k2,k3,k4,k5,k6,k7,k8,k9,k10,k11⟩:=hO
     exact⟨cells,k1,k2,k3,k4,k5,k6,k7,k8,k9,k10,fun v hv=>(k11 v hv).back0 hnd hlt hlen hlen' hkl⟩
   | moved e sz n=>trivial
   | hold d=>exact hO
   | gone=>trivial
  ·rw[h1]at hg
   rw[h2]at ho
   have hof:=oldfor l g hg hi
   exact(hI.obj l o g ho hg).keep hE (fun b hb=>hk.since.foreign b (hI.own l g hg b hb).2 (hof b hb)) (fun b hb k hΦ=>hk.since.phi b k hΦ (hI.own l g hg b hb).2 (hof b hb))
  rw[h1]at hg
  cases hg
 ·rcases hcases i with⟨i',hie,hil,h1,_⟩|⟨hlH,hin,h1,_⟩|⟨h1,_⟩<;>rcases hcases j with⟨j',hje,hjl,k1,_⟩|⟨hlJ,hjn,k1,_⟩|⟨k1,_⟩<;>rw[h1]at hi<;>rw[k1]at hj
  ·exact hk.inv.disj i' j' gi gj hi hj (fun e=>hij (by rw[hie,hje,e])) b hb hb'
  ·rcases hk.since.own i' gi hi b hb with h2|⟨q,g₀,h2,h3⟩
   ·have:=(hI.own j gj hj b hb').2
    omega
   exact oldfor j gj hj hjn b hb' q g₀ h2 h3
  ·cases hj
  ·rcases hk.since.own j' gj hj b hb' with h2|⟨q,g₀,h2,h3⟩
   ·have:=(hI.own i gi hi b hb).2
    omega
   exact oldfor i gi hi hin b hb q g₀ h2 h3
  ·exact hI.disj i j gi gj hi hj hij b hb hb'
  ·cases hj
  ·cases hi
  ·cases hi
  cases hi
 ·rcases hcases l with⟨i,_,hil,h1,_⟩|⟨hlH,hi,h1,_⟩|⟨h1,_⟩
  ·rw[h1]at hg
   exact hk.inv.own i g hg b hb
  ·rw[h1]at hg
   exact⟨(hI.own l g hg b hb).1,hgrow b (hI.own l g hg b hb).2⟩
  rw[h1]at hg
  cases hg
 rcases hcases l with⟨i,_,hil,h1,_⟩|⟨hlH,hi,h1,_⟩|⟨h1,_⟩
 ·rw[h1]at hg
  rcases hk.since.own i g hg b hb with h2|⟨q,g₀,h2,h3⟩
  ·exact .inl h2
  obtain⟨l',_,h4⟩:=selown q g₀ b h2 h3
  exact .inr ⟨l',g₀,h4,h3⟩
 ·rw[h1]at hg
  exact .inr ⟨l,g,hg,hb⟩
 rw[h1]at hg
 cases hg
end
end Go.Abs
