import Derived.Test.YtkfcehagblhjaaaGreatDoorA19
set_option linter.unusedVariables false
set_option linter.unusedSimpArgs false
set_option linter.defProp false
namespace Go.Abs
open Go.RowKit
def AV.ltB0(m:Nat):AV→Bool
 | .ref l _|.vec l _|.vptr l _ _ _|.mref l|.selfp l=>decide (l<m)
 | .fn _ caps=>caps.all fun l=>decide (l<m)
 | .tup _=>false
 | .agg _=>false
 | _=>true
def AV.ltB(m:Nat):AV→Bool
 | .ref l _|.vec l _|.vptr l _ _ _|.mref l|.selfp l=>decide (l<m)
 | .fn _ caps=>caps.all fun l=>decide (l<m)
 | .tup _=>false
 | .agg vs=>vs.all (AV.ltB0 m)
 | _=>true
def AObj.ltB(m:Nat):AObj→Bool
 | .var cs=>cs.all (AV.ltB m)
 | .hrow _ _ _ _ _ l _=>decide (l<m)
 | _=>true
def scr(m:Nat)(a:AV):AV:=if a.ltB m then a else .any
section
variable {E:Env}{O:Orc}{γ₀ γ:List Gh}{H₀ H:List AObj}{Φ₀ Φ:Nat→Nat→Prop}{w₀ w:World}{σ σ':St}{a:Act}{k:Nat}
theorem gv_take{l m:Nat}(h:l<m):gv (γ.take m) l=gv γ l:=by
 unfold gv
 rw[List.getElem?_take,if_pos h]
theorem ARel.take0{m:Nat}{v:Value}{x:AV}(h:ARel γ H Φ w v x)(hx:x.ltB0 m=true):ARel (γ.take m) (H.take m) Φ w v x:=by
 have hr:∀ (l:Nat) p,l<m→rowAt H l=some p→rowAt (H.take m) l=some p:=fun l o hl ho=>by unfold rowAt;rw[List.getElem?_take,if_pos hl];exact ho
 cases h with
 | any v=>exact .any v
 | pv h=>exact .pv h
 | nils=>exact .nils
 | ifc t u p h=>exact .ifc t u p h
 | full A n xs h=>exact .full A n xs h
 | pptr b' o cs vs h1 h2 h3=>exact .pptr b' o cs vs h1 h2 h3
 | tup=>simp[AV.ltB0]at hx
 | agg=>simp[AV.ltB0]at hx
 | ref b' l off h=>exact .ref b' l off ((gv_take (by simpa[AV.ltB0]using hx)).trans h)
 | mref b' l h=>exact .mref b' l ((gv_take (by simpa[AV.ltB0]using hx)).trans h)
 | selfp A l h=>exact .selfp A l (fun a e=>(gv_take (by simpa[AV.ltB0]using hx)).trans (h a e))
 | vec A l n cap e sz len hrow hn hA h=>
   have hl:l<m:=by simpa[AV.ltB0]using hx
   exact .vec A l n cap e sz len (hr l _ hl hrow) hn hA (fun hx=>(gv_take hl).trans (h hx))
 | vptr b' o l n j off e sz len hrow hn h=>
   have hl:l<m:=by simpa[AV.ltB0]using hx
   refine .vptr b' o l n j off e sz len (hr l _ hl hrow) hn (fun hx=>?_)
   obtain⟨cap,h1,h2⟩:=h hx
   exact⟨cap,(gv_take hl).trans h1,h2⟩
 | fn f cs caps h1 h2=>
   refine .fn f cs caps h1 (fun k v l hv hc=>?_)
   obtain⟨b,e1,e2⟩:=h2 k v l hv hc
   have hl:l<m:=by simpa using List.all_eq_true.1 (show(caps.all fun l=>decide (l<m))=true from hx) l (List.mem_of_getElem? hc)
   exact⟨b,e1,(gv_take hl).trans e2⟩
theorem ARel.take{m:Nat}{v:Value}{x:AV}(h:ARel γ H Φ w v x)(hx:x.ltB m=true):ARel (γ.take m) (H.take m) Φ w v x:=by
 cases x with
 | agg vs=>
   cases h with
   | agg ws vs hl h1 h=>
     exact .agg ws vs hl h1 (fun k v c hv hc=>(h k v c hv hc).take0 (List.all_eq_true.1 (show vs.all (AV.ltB0 m)=true from hx) c (List.mem_of_getElem? hc)))
 | _=>exact h.take0 hx
theorem Ok.take(h:Ok E γ₀ H₀ Φ₀ w₀ γ H Φ w){m:Nat}(hm:H₀.length≤m)(hl0:γ₀.length=H₀.length)(ho:(H.take m).all (AObj.ltB m)=true):Ok E γ₀ H₀ Φ₀ w₀ (γ.take m) (H.take m) Φ w:=by
 have get:∀ {α:Type} {xs:List α} {l:Nat} {x:α},(xs.take m)[l]?=some x→l<m∧xs[l]?=some x:=by
  intro α xs l x hx
  rw[List.getElem?_take]at hx
  split at hx
  ·exact⟨by assumption,hx⟩
  cases hx
 refine⟨⟨by simp[h.inv.len],fun l o g hlo hg=>?_,fun i j gi gj hi hj=>h.inv.disj i j gi gj (get hi).2 (get hj).2,fun i g hg=>h.inv.own i g (get hg).2,h.inv.phi,h.inv.gi,h.inv.gn⟩,
  ⟨h.evo.phi,h.evo.cell,fun l v hv=>?_,fun l e sz n hrow=>?_⟩,
  ⟨h.since.os,h.since.tape,h.since.output,h.since.size,h.since.foreign,h.since.phi,fun i g hg=>h.since.own i g (get hg).2⟩⟩
 ·have hO:=h.inv.obj l o g (get hlo).2 (get hg).2
  cases o with
  | var cs=>
    obtain⟨b,T,vs,hv,hown,hb,hvl,hr,hn⟩:=hO
    have hlt:cs.all (AV.ltB m)=true:=List.all_eq_true.1 ho _ (List.mem_of_getElem? hlo)
    exact⟨b,T,vs,hv,hown,hb,hvl,fun k v c hvk hc=>⟨(hr k v c hvk hc).1,(hr k v c hvk hc).2.take (List.all_eq_true.1 hlt c (List.mem_of_getElem? hc))⟩,hn⟩
  | row e sz xs fz=>exact hO
  | map es=>exact hO
  | bld s=>exact hO
  | brow e s=>exact hO
  | prn e1 s e2 sz xs=>exact hO
  | iter s p=>exact hO
  | tree e sz off e2 sz2 m xs=>exact hO
  | hrow e sz xs j off l' n=>
    obtain⟨cells,h1,h2,h3,h4,h5,h6,h7,h8,h9,h10,h11⟩:=hO
    have hlt:decide (l'<m)=true:=List.all_eq_true.1 ho _ (List.mem_of_getElem? hlo)
    exact⟨cells,h1,h2,h3,h4,h5,h6,h7,h8,h9,h10,fun v hv=>(h11 v hv).take0 hlt⟩
  | moved e sz n=>trivial
  | hold d=>exact hO
  | gone=>trivial
 ·obtain⟨g,hg,_⟩:=gv_some hv
  have hl:l<m:=by
   have:=(List.getElem?_eq_some_iff.1 hg).1
   omega
  rw[gv_take hl]
  exact h.evo.gh l v hv
 have hl:l<m:=by
  have:=rowAt_lt hrow
  omega
 obtain⟨n',h1,h2,h3⟩:=h.evo.row l e sz n hrow
 exact⟨n',by unfold rowAt;rw[List.getElem?_take,if_pos hl];exact h1,h2,fun hx=>(gv_take hl).trans (h3 hx)⟩
def scrub(m:Nat)(σ:St):St:=⟨fun i=>scr m (σ.t i),σ.n,σ.h.take m⟩
theorem Weak.scrub{m:Nat}(hk:k≤m)(ho:(σ.h.take m).all (AObj.ltB m)=true):Weak E k σ (scrub m σ):=by
 intro γ₀ H₀ Φ₀ w₀ a w hl hR
 obtain⟨⟨γ,Φ,hok,hs⟩,hsz,hd,hl0⟩:=hR
 refine⟨⟨γ.take m,Φ,hok.take (by omega) hl0 ho,fun i=>?_⟩,hsz,hd,hl0⟩
 show ARel _ _ Φ w _ (scr m (σ.t i))
 unfold scr
 split
 ·rename_i h
  exact(hs i).take h
 exact .any _
theorem Weak.own(i:Nat)(e:TypeId)(sz:Nat)(hsz:0<sz)(hi:σ.t i=.nils)(fz:Bool:=true):Weak E k σ ⟨upd σ.t i (.vec σ.h.length 0),σ.n,σ.h++[.row e sz [] fz]⟩:=by
 intro γ₀ H₀ Φ₀ w₀ a w hl hR
 obtain⟨⟨γ,Φ,hok,hs⟩,hn,hd,hl0⟩:=hR
 have hrow:w.ownsRow 0 e sz (.slice none 0 0) ([]:List PV).length []:=World.ownsRow_nil w 0 e sz
 obtain⟨γ',Φ',hk,hr⟩:=pushRow (v:=.slice none 0 0) hok.inv hrow ⟨rfl,rfl,rfl,Nat.le_refl _,.inr ⟨rfl,rfl,fun _ _=>rfl⟩⟩ rfl ⟨rfl,fun c hc=>by simp[flat_nil]at hc,fun k v c hv _=>by simp at hv⟩ (fun z hz=>by cases hz) hsz fz
 refine⟨⟨γ',Φ',hok.trans hk,fun j=>?_⟩,hn,hd,hl0⟩
 show ARel _ _ Φ' w _ (upd σ.t i (.vec σ.h.length 0) j)
 unfold upd
 split
 ·rename_i hj
  subst hj
  have h:=hs j
  rw[hi]at h
  generalize a.tmps.getD j undef=v at h ⊢
  cases h
  exact hr
 exact(hs j).mono hk.evo
theorem Weak.freeze(l:Nat){e:TypeId}{sz:Nat}{xs:List PV}(hl:σ.h[l]?=some (.row e sz xs false)):Weak E k σ ⟨σ.t,σ.n,σ.h.set l (.row e sz xs true)⟩:=by
 intro γ₀ H₀ Φ₀ w₀ a w _ hR
 obtain⟨⟨γ,Φ,hok,hs⟩,hn,hd,hl0⟩:=hR
 obtain⟨g,hg,hO⟩:=hok.inv.gh hl
 obtain⟨cells,hown,hcl,hrep,hsz,h1,hgo,h0,hphi⟩:=hO
 have hmem:∀b,b∈g.own↔g.v.ownBlock=some b:=fun b=>by rw[hgo];simp
 have hk:=hok.inv.setObj (o':=.row e sz xs true) (g':=g) (w':=w) (Φ':=fun b k=>Φ b k∨(g.v.ownBlock=some b∧k<xs.length * sz)) hl hg (fun _ _ _=>rfl) (Nat.le_refl _) rfl rfl rfl (fun _ _ h=>.inl h)
  (fun b k h _ hn=>h.elim id (fun h=>absurd ((hmem b).2 h.1) hn)) (fun b k h=>h.elim (hok.inv.phi b k) (fun h=>(hok.inv.own l g hg b ((hmem b).2 h.1)).2)) (fun _ _ _ _=>rfl) (fun b hb=>⟨.inl hb,(hok.inv.own l g hg b hb).2⟩) (.inl rfl)
  (rowLike_step (Nat.le_refl _) (fun _=>rfl))
  (fun hE=>⟨cells,hown,hcl,fun k v c hv hc=>(hrep k v c hv hc).mono hE.phi hE.cell,hsz,h1,hgo,h0,fun b hb k=>⟨fun h=>h.elim (fun h=>absurd (((hphi b hb) k).1 h).1 (by simp)) (fun h=>⟨rfl,h.2⟩),fun _ hk=>.inr ⟨hb,hk⟩⟩⟩)
 have hset:γ.set l g=γ:=by
  refine List.ext_getElem? fun i=>?_
  by_cases hi:i=l
  ·subst hi
   rw[List.getElem?_set_self (List.getElem?_eq_some_iff.1 hg).1,hg]
  rw[List.getElem?_set_ne (Ne.symm hi)]
 exact⟨⟨_,_,hok.trans hk,fun j=>(hs j).mono hk.evo⟩,hn,hd,hl0⟩
theorem Weak.forget{t:Nat→AV}(h:∀i,t i=σ.t i∨t i=.any):Weak E k σ ⟨t,σ.n,σ.h⟩:=by
 intro γ₀ H₀ Φ₀ w₀ a w _ hR
 obtain⟨⟨γ,Φ,hok,hs⟩,hn,hd,hl0⟩:=hR
 refine⟨⟨γ,Φ,hok,fun i=>?_⟩,hn,hd,hl0⟩
 show ARel γ σ.h Φ w _ (t i)
 rcases h i with h|h
 ·rw[h]
  exact hs i
 rw[h]
 exact .any _
def entryT(args:List AV):Nat→AV:=fun i=>args.getD i .any
def resOf(E:Env)(σ:St):List ResultVar→Option (List AV)
 | []=>some []
 | .tmp t::r=>(resOf E σ r).map (σ.t t::·)
 | .cell p ty::r=>match qload E.T σ.h ty (σ.t p),resOf E σ r with
   | some a,some s=>some (a::s)
   | _,_=>none
def finish(E:Env)(rv:List ResultVar)(m:Nat)(extra:List Nat)(σ:St):Option (List AV×List AObj):=
 let sel:=List.range m++extra
 if sel.Nodup then match resOf E σ rv,selObjs σ.h (idx sel) sel with
 | some rs,some Hs=>match (if extra=[]then renArgs σ.h (idx sel) rs else renL (idx sel) rs)with
   | some rs'=>some (rs',Hs)
   | none=>none
 | _,_=>none
 else none
def renArgsW(H:List AObj)(f:Nat→Option Nat):List AV→Option (List AV)
 | []=>some []
 | a::r=>match (match toPVw H a with|some p=>some (AV.pv p)|none=>a.ren f),renArgsW H f r with
   | some b,some s=>some (b::s)
   | _,_=>none
theorem renArgsW_spec{H:List AObj}{f:Nat→Option Nat}:∀ {az bs:List AV},renArgsW H f az=some bs→az.length=bs.length∧∀ (i:Nat) a b,az[i]?=some a→bs[i]?=some b→(∃p,toPVw H a=some p∧b=.pv p)∨a.ren f=some b
 | [],bs,h=>by
   simp only[renArgsW,Option.some.injEq]at h
   subst h
   exact⟨rfl,fun i a b ha=>by simp at ha⟩
 | a::az,bs,h=>by
   simp only[renArgsW]at h
   split at h
   ·rename_i b s hb hs
    simp only[Option.some.injEq]at h
    subst h
    obtain⟨h1,h2⟩:=renArgsW_spec hs
    refine⟨by simp[h1],fun i x y hx hy=>?_⟩
    cases i with
    | zero=>
      simp only[List.getElem?_cons_zero,Option.some.injEq]at hx hy
      subst hx hy
      split at hb
      ·rename_i p hp
       exact .inl ⟨p,hp,(Option.some.inj hb).symm⟩
      exact .inr hb
    | succ i=>rw[List.getElem?_cons_succ]at hx hy;exact h2 i x y hx hy
   cases h
def finishW(E:Env)(rv:List ResultVar)(m:Nat)(σ:St):Option (List AV×List AObj):=
 match resOf E σ rv,selObjs σ.h (idx (List.range m++[])) (List.range m++[])with
 | some rs,some Hs=>match renArgsW σ.h (idx (List.range m++[])) rs with
   | some rs'=>some (rs',Hs)
   | none=>none
 | _,_=>none
def resF(tmps:Array Value):ResultVar→Sem Value
 | .tmp t=>pure (tmps.getD t undef)
 | .cell a t=>do loadVar t (← asAddr (tmps.getD a undef))
theorem results_resF(fn:Func)(tmps:Array Value):results fn tmps=(do let vs←fn.results.mapM (resF tmps);pure (if h:vs.size=1 then vs[0]else .tuple vs)):=rfl
theorem resOf_sound{γ:List Gh}{Φ:Nat→Nat→Prop}(hI:OInv E γ σ.h Φ w)(hs:Slots γ σ.h Φ w a σ.t):∀ (rv:List ResultVar) (rs:List AV),resOf E σ rv=some rs→
 ∃vs,(rv.mapM (resF a.tmps)).run E.P w=.ok vs w∧vs.length=rs.length∧∀ (i:Nat) v b,vs[i]?=some v→rs[i]?=some b→ARel γ σ.h Φ w v b
 | [],rs,h=>by
   simp only[resOf,Option.some.injEq]at h
   subst h
   exact⟨[],by simp,rfl,fun i v b hv=>by simp at hv⟩
 | .tmp t::rv,rs,h=>by
   simp only[resOf]at h
   obtain⟨s,hsr,rfl⟩:=Option.map_eq_some_iff.1 h
   obtain⟨vs,h1,h2,h3⟩:=resOf_sound hI hs rv s hsr
   refine⟨a.tmps.getD t undef::vs,?_,by simp[h2],fun i v b hv hb=>?_⟩
   ·have h0:(resF a.tmps (.tmp t)).run E.P w=.ok (a.tmps.getD t undef) w:=rfl
    rw[List.mapM_cons]
    simp only[bind,Sem.run_bind']at h1 h0 ⊢
    rw[h0]
    simp only[Result.andThen_ok,h1]
    rfl
   cases i with
   | zero=>simp only[List.getElem?_cons_zero,Option.some.injEq]at hv hb;subst hv hb;exact hs t
   | succ i=>rw[List.getElem?_cons_succ]at hv hb;exact h3 i v b hv hb
 | .cell p ty::rv,rs,h=>by
   simp only[resOf]at h
   split at h
   ·rename_i x s hx hsr
    simp only[Option.some.injEq]at h
    subst h
    obtain⟨vs,h1,h2,h3⟩:=resOf_sound hI hs rv s hsr
    obtain⟨u,hu,hr⟩:=load_sound hI (hs p) hx
    have hu2:(resF a.tmps (.cell p ty)).run E.P w=.ok u w:=by
     have hp:=hs p
     show(do loadVar ty (← asAddr (a.tmps.getD p undef)):Sem Value).run E.P w=.ok u w
     generalize a.tmps.getD p undef=v at hu hp ⊢
     generalize σ.t p=y at hp hx
     unfold qload at hx
     split at hx
     ·cases hx
     cases hp<;>first|(simp at hx;done)|(simpa[Instr.loadAt,Instr.sureAddr,asAddr]using hu)
    refine⟨u::vs,?_,by simp[h2],fun i v b hv hb=>?_⟩
    ·rw[List.mapM_cons]
     simp only[bind,Sem.run_bind']at h1 hu2 ⊢
     rw[hu2]
     simp only[Result.andThen_ok,h1]
     rfl
    cases i with
    | zero=>simp only[List.getElem?_cons_zero,Option.some.injEq]at hv hb;subst hv hb;exact hr
    | succ i=>rw[List.getElem?_cons_succ]at hv hb;exact h3 i v b hv hb
   cases h
theorem Ok.sel(h:Ok E γ₀ H₀ Φ₀ w₀ γ H Φ w)(hl0:γ₀.length=H₀.length){extra:List Nat}(hnd:(List.range H₀.length++extra).Nodup){Hs:List AObj}(hs:selObjs H (idx (List.range H₀.length++extra)) (List.range H₀.length++extra)=some Hs):
 Ok E γ₀ H₀ Φ₀ w₀ (selGh γ (List.range H₀.length++extra)) Hs Φ w:=by
 obtain⟨hl,hget⟩:=selObjs_get hs
 have hinv:=h.inv.select hnd hs
 have hat:∀l,l<H₀.length→(List.range H₀.length++extra)[l]?=some l:=fun l hl=>by
  rw[List.getElem?_append_left (by simpa using hl),List.getElem?_range hl]
 have hgv:∀l,l<H₀.length→gv (selGh γ (List.range H₀.length++extra)) l=gv γ l:=by
  intro l hlt
  have h1:=hat l hlt
  have hil:l<Hs.length:=by rw[←hl];exact(List.getElem?_eq_some_iff.1 h1).1
  obtain⟨l',o',h2,h3,_⟩:=hget l Hs[l] (List.getElem?_eq_getElem hil)
  rw[h1]at h2
  injection h2 with h2
  subst h2
  obtain⟨g,hg,_⟩:=h.inv.gh h3
  unfold gv
  rw[selGh_get h1 hg,hg]
 refine⟨hinv,⟨h.evo.phi,h.evo.cell,fun l v hv=>?_,fun l e sz n hrow=>?_⟩,⟨h.since.os,h.since.tape,h.since.output,h.since.size,h.since.foreign,h.since.phi,fun i g hg b hb=>?_⟩⟩
 ·obtain⟨g,hg,_⟩:=gv_some hv
  have hlt:l<H₀.length:=by
   have:=(List.getElem?_eq_some_iff.1 hg).1
   omega
  rw[hgv l hlt]
  exact h.evo.gh l v hv
 ·have hlt:=rowAt_lt hrow
  obtain⟨n',h1,h2,h3⟩:=h.evo.row l e sz n hrow
  have h4:=hat l hlt
  have hil:l<Hs.length:=by rw[←hl];exact(List.getElem?_eq_some_iff.1 h4).1
  obtain⟨l',o',h5,h6,h7⟩:=hget l Hs[l] (List.getElem?_eq_getElem hil)
  rw[h4]at h5
  injection h5 with h5
  subst h5
  unfold rowAt at h1
  rw[h6,Option.bind_some]at h1
  exact⟨n',by unfold rowAt;rw[List.getElem?_eq_getElem hil,Option.bind_some,rowLike_ren h7];exact h1,h2,fun hx=>(hgv l hlt).trans (h3 hx)⟩
 have hil:i<Hs.length:=by
  have:=(List.getElem?_eq_some_iff.1 hg).1
  simp only[selGh,List.length_map]at this
  omega
 obtain⟨l',o',h2,h3,_⟩:=hget i Hs[i] (List.getElem?_eq_getElem hil)
 obtain⟨g',hg',_⟩:=h.inv.gh h3
 rw[selGh_get h2 hg']at hg
 injection hg with hg
 subst hg
 exact h.since.own l' g' hg' b hb
def retQ(E:Env)(fn:Func)(m:Nat)(extra:List Nat)(rs:List AV)(H':List AObj):Exit→St→Prop
 | .normal,σ|.ret,σ=>finish E fn.results.toList m extra σ=some (rs,H')∨finishW E fn.results.toList m σ=some (rs,H')
 | _,_=>False
theorem Good.of_body{f:FuncId}{fn:Func}{c:Code}(hf:E.P.funcs[f]?=some fn)(hb:fn.body=some c){args:List AV}{H:List AObj}{rs:List AV}{H':List AObj}(hn:args.length≤fn.ntmps)(extra:List Nat)(hd0:E.dfs=[])
 (h:AW E H.length c (retQ E fn H.length extra rs H') ⟨entryT args,fn.ntmps,H⟩):Good E f args H rs H':=by
 intro w Φ γ cargs hI hl hr
 refine calls_of_wp hf hb ?_
 have hR:Rel E γ H Φ w ⟨entryT args,fn.ntmps,H⟩ { tmps:=(⟨cargs⟩:Array Value)++Array.replicate (fn.ntmps-(⟨cargs⟩:Array Value).size) undef,defers:=[] } w:=by
  refine⟨⟨γ,Φ,.refl hI,fun i=>?_⟩,?_,hd0.symm,hI.len⟩
  ·show ARel γ H Φ w _ (args.getD i .any)
   rw[List.getD_eq_getElem?_getD]
   by_cases hi:i<args.length
   ·rw[List.getElem?_eq_getElem hi]
    have hi':i<cargs.length:=by omega
    refine hr i _ _ ?_ (List.getElem?_eq_getElem hi)
    rw[List.getElem?_eq_getElem hi']
    simp[Array.getD_eq_getD_getElem?,Array.getElem?_append,hi']
   rw[List.getElem?_eq_none (by omega)]
   exact .any _
  show((⟨cargs⟩:Array Value)++Array.replicate (fn.ntmps-(⟨cargs⟩:Array Value).size) undef).size=fn.ntmps
  simp
  omega
 refine wp_mono (h γ H Φ w _ w rfl hR) (fun e a' w' ⟨σ',hR',hQ⟩=>?_)
 have fin:finish E fn.results.toList H.length extra σ'=some (rs,H')→a'.defers=[]∧∃v,(results fn a'.tmps).run E.P w'=.ok v w'∧∃vs γ' Φ',Ending.returned v=.returned (retV vs)∧Ok E γ H Φ w γ' H' Φ' w'∧vs.length=rs.length∧∀ (i:Nat) v a,vs[i]?=some v→rs[i]?=some a→ARel γ' H' Φ' w' v a:=by
  intro hfin
  obtain⟨⟨γ',Φ',hok,hs⟩,_,hd,hl0⟩:=hR'
  unfold finish at hfin
  simp only at hfin
  split at hfin
  ·rename_i hnd
   split at hfin
   ·rename_i rs0 Hs hrs hHs
    split at hfin
    ·rename_i rs' hren
     simp only[Option.some.injEq,Prod.mk.injEq]at hfin
     obtain⟨rfl,rfl⟩:=hfin
     obtain⟨vs,h1,h2,h3⟩:=resOf_sound hok.inv hs fn.results.toList rs0 hrs
     have hrun:(results fn a'.tmps).run E.P w'=.ok (retV vs) w':=by
      have h1':(fn.results.mapM (resF a'.tmps)).run E.P w'=.ok ⟨vs⟩ w':=by
       rw[Array.mapM_eq_mapM_toList,Sem.run_map,h1]
       rfl
      rw[results_resF]
      simp only[bind,Sem.run_bind',h1',Result.andThen_ok]
      match vs with
      | []=>rfl
      | [v]=>rfl
      | v::v'::vs=>simp[retV]
     refine⟨hd.trans hd0,_,hrun,vs,_,Φ',rfl,hok.sel hl0 hnd hHs,?_⟩
     split at hren
     ·obtain⟨e1,e2⟩:=renArgs_spec hren
      refine⟨by omega,fun i v b hv hb=>?_⟩
      have hi:i<rs0.length:=by
       have:=(List.getElem?_eq_some_iff.1 hv).1
       omega
      have hr0:=h3 i v rs0[i] hv (List.getElem?_eq_getElem hi)
      rcases e2 i rs0[i] b (List.getElem?_eq_getElem hi) hb with⟨p,hp,rfl⟩|hr1
      ·exact .pv (toPV_rep hok.inv hr0 hp)
      exact hr0.select hok.inv hHs hr1
     obtain⟨e1,e2⟩:=renL_get hren
     refine⟨by omega,fun i v b hv hb=>?_⟩
     obtain⟨c,hc,hr1⟩:=e2 i b hb
     exact(h3 i v c hv hc).select hok.inv hHs hr1
    cases hfin
   cases hfin
  cases hfin
 have finW:finishW E fn.results.toList H.length σ'=some (rs,H')→a'.defers=[]∧∃v,(results fn a'.tmps).run E.P w'=.ok v w'∧∃vs γ' Φ',Ending.returned v=.returned (retV vs)∧Ok E γ H Φ w γ' H' Φ' w'∧vs.length=rs.length∧∀ (i:Nat) v a,vs[i]?=some v→rs[i]?=some a→ARel γ' H' Φ' w' v a:=by
  intro hfin
  obtain⟨⟨γ',Φ',hok,hs⟩,_,hd,hl0⟩:=hR'
  have hnd:(List.range H.length++[]).Nodup:=by rw[List.append_nil];exact List.nodup_range
  unfold finishW at hfin
  split at hfin
  ·rename_i rs0 Hs hrs hHs
   split at hfin
   ·rename_i rs' hren
    simp only[Option.some.injEq,Prod.mk.injEq]at hfin
    obtain⟨rfl,rfl⟩:=hfin
    obtain⟨vs,h1,h2,h3⟩:=resOf_sound hok.inv hs fn.results.toList rs0 hrs
    have hrun:(results fn a'.tmps).run E.P w'=.ok (retV vs) w':=by
     have h1':(fn.results.mapM (resF a'.tmps)).run E.P w'=.ok ⟨vs⟩ w':=by
      rw[Array.mapM_eq_mapM_toList,Sem.run_map,h1]
      rfl
     rw[results_resF]
     simp only[bind,Sem.run_bind',h1',Result.andThen_ok]
     match vs with
     | []=>rfl
     | [v]=>rfl
     | v::v'::vs=>simp[retV]
    refine⟨hd.trans hd0,_,hrun,vs,_,Φ',rfl,hok.sel hl0 hnd hHs,?_⟩
    obtain⟨e1,e2⟩:=renArgsW_spec hren
    refine⟨by omega,fun i v b hv hb=>?_⟩
    have hi:i<rs0.length:=by
     have:=(List.getElem?_eq_some_iff.1 hv).1
     omega
    have hr0:=h3 i v rs0[i] hv (List.getElem?_eq_getElem hi)
    rcases e2 i rs0[i] b (List.getElem?_eq_getElem hi) hb with⟨p,hp,rfl⟩|hr1
    ·exact .pv (toPVw_rep hok.inv hr0 hp)
    exact hr0.select hok.inv hHs hr1
   cases hfin
  cases hfin
 cases e with
 | normal=>exact hQ.elim fin finW
 | ret=>exact hQ.elim fin finW
 | _=>exact hQ.elim
def HasBody(E:Env)(f:FuncId):Prop:=∃fn,E.P.funcs[f]?=some fn∧fn.body.isSome=true∧(fn.name=="runtime.NumGoroutine")=false
end
end Go.Abs
namespace Go.Abs
def zokB:Value→PV→Bool
 | .bool a,.bool b=>a==b
 | .int k a,.int k' b=>decide (k=k')&&a==b
 | .string s,.str l=>s.data.toList==l
 | .slice none 0 0,.slice []=>true
 | .slice none 0 0,.snil=>true
 | .nilIface,.nil=>true
 | .pointer none,.nilp=>true
 | _,_=>false
theorem zokB_sound{v:Value}{p:PV}(h:zokB v p=true):Zero1 v p:=by
 unfold zokB at h
 split at h
 ·simp only[beq_iff_eq]at h
  subst h
  exact⟨rfl,fun _ _=>.bool _,fun h=>by cases h⟩
 ·simp only[Bool.and_eq_true,decide_eq_true_eq,beq_iff_eq]at h
  obtain⟨rfl,rfl⟩:=h
  exact⟨rfl,fun _ _=>.int _ _,fun h=>by cases h⟩
 ·rename_i s l
  have:s.data.toList=l:=by simpa using h
  subst this
  exact⟨rfl,fun _ _=>.str _,fun h=>by cases h⟩
 ·exact⟨rfl,fun _ _=>.sliceNil,fun _=>rfl⟩
 ·exact⟨rfl,fun _ _=>.snil,fun h=>by cases h⟩
 ·exact⟨rfl,fun _ _=>.nil,fun h=>by cases h⟩
 ·exact⟨rfl,fun _ _=>.nilp,fun h=>by cases h⟩
 cases h
def zlistB:List Value→List PV→Bool
 | [],[]=>true
 | v::vs,p::ps=>zokB v p&&zlistB vs ps
 | _,_=>false
theorem zlistB_sound:∀ {vs:List Value} {ps:List PV},zlistB vs ps=true→vs.length=ps.length∧∀ (k:Nat) v c,vs[k]?=some v→ps[k]?=some c→Zero1 v c
 | [],[],_=>⟨rfl,fun k v c hv=>by simp at hv⟩
 | v::vs,p::ps,h=>by
   simp only[zlistB,Bool.and_eq_true]at h
   obtain⟨h1,h2⟩:=zlistB_sound h.2
   refine⟨by simp[h1],fun k u c hu hc=>?_⟩
   cases k with
   | zero=>simp only[List.getElem?_cons_zero,Option.some.injEq]at hu hc;subst hu hc;exact zokB_sound h.1
   | succ k=>rw[List.getElem?_cons_succ]at hu hc;exact h2 k u c hu hc
 | [],_::_,h=>by simp[zlistB]at h
 | _::_,[],h=>by simp[zlistB]at h
def fieldsB(P:Program):List Field→List (Nat×Nat)→Bool
 | [],[]=>true
 | f::fs,p::ps=>f.offset==p.1&&(match P.info? f.type with|some i=>i.size==p.2|none=>false)&&fieldsB P fs ps
 | _,_=>false
theorem fieldsB_sound{P:Program}:∀ {fs:List Field} {ps:List (Nat×Nat)},fieldsB P fs ps=true→fs.length=ps.length∧∀ (j:Nat) (f:Field) (p:Nat×Nat),fs[j]?=some f→ps[j]?=some p→f.offset=p.1∧∃fi,P.info? f.type=some fi∧fi.size=p.2
 | [],[],_=>⟨rfl,fun k v c hv=>by simp at hv⟩
 | f::fs,p::ps,h=>by
   simp only[fieldsB,Bool.and_eq_true,beq_iff_eq]at h
   obtain⟨h1,h2⟩:=fieldsB_sound h.2
   refine⟨by simp[h1],fun k u c hu hc=>?_⟩
   cases k with
   | zero=>
     simp only[List.getElem?_cons_zero,Option.some.injEq]at hu hc
     subst hu hc
     refine⟨h.1.1,?_⟩
     have h3:=h.1.2
     split at h3
     ·rename_i i hi
      exact⟨i,hi,by simpa using h3⟩
     cases h3
   | succ k=>rw[List.getElem?_cons_succ]at hu hc;exact h2 k u c hu hc
 | [],_::_,h=>by simp[fieldsB]at h
 | _::_,[],h=>by simp[fieldsB]at h
def tkB(P:Program):TypeDesc→TK→Bool
 | .int k,.int k'=>decide (k=k')
 | .bool,.bool=>true
 | .string,.str=>true
 | .slice e,.slice e'=>e==e'
 | .struct fields,.strct fs=>fieldsB P fields.toList fs
 | .array _ _,.strct fs=>fs.isEmpty
 | .map k e,.map k' e'=>k==k'&&e==e'
 | .pointer e,.ptr e'=>e==e'
 | .interface _,.iface=>true
 | _,.other=>true
 | _,_=>false
theorem tkB_sound{P:Program}{d:TypeDesc}{k:TK}(h:tkB P d k=true):TKok P d k:=by
 cases k with
 | other=>cases d<;>trivial
 | strct fs=>
   cases d with
   | struct fields=>
     obtain⟨h1,h2⟩:=fieldsB_sound h
     exact⟨by simpa using h1,fun j f p hf hp=>h2 j f p (by simpa using hf) hp⟩
   | array _ _=>simpa[tkB,TKok]using h
   | _=>simp[tkB]at h
 | int k=>cases d<;>simp_all [tkB,TKok]
 | bool=>cases d<;>simp_all [tkB,TKok]
 | str=>cases d<;>simp_all [tkB,TKok]
 | slice e=>cases d<;>simp_all [tkB,TKok]
 | map k e=>cases d<;>simp_all [tkB,TKok]
 | ptr e=>cases d<;>simp_all [tkB,TKok]
 | iface=>cases d<;>simp_all [tkB,TKok]
def isStrct:TK→Bool
 | .strct _=>true
 | _=>false
def tcheck(P:Program)(t:TypeId)(ti:TI):Bool:=
 match P.info? t,P.underlying t with
 | some i,some d=>i.size==ti.size&&i.bytes==ti.bytes&&tkB P d ti.k &&
   match ti.zero with
   | none=>true
   | some zs=>match i.zero with
     | none=>false
     | some z=>zlistB z.cells.toList zs&&zs.length==ti.size&&(match z with|.agg _=>isStrct ti.k|_=>!isStrct ti.k)
 | _,_=>false
theorem tcheck_sound{P:Program}{t:TypeId}{ti:TI}(h:tcheck P t ti=true):TOne P t ti:=by
 unfold tcheck at h
 split at h
 ·rename_i i d hi hd
  simp only[Bool.and_eq_true,beq_iff_eq]at h
  obtain⟨⟨⟨h1,h2⟩,h3⟩,h4⟩:=h
  refine⟨i,d,hi,h1,h2,hd,tkB_sound h3,fun zs hzs=>?_⟩
  rw[hzs]at h4
  simp only at h4
  split at h4
  ·cases h4
  rename_i z hz
  simp only[Bool.and_eq_true,beq_iff_eq]at h4
  obtain⟨⟨h5,h6⟩,h7⟩:=h4
  obtain⟨h8,h9⟩:=zlistB_sound h5
  refine⟨z,hz,h8,h6,h9,fun fs hfs=>?_,fun hn=>?_⟩
  ·cases z with
   | agg cs=>exact⟨cs,rfl⟩
   | _=>simp[hfs,isStrct]at h7
  cases z with
  | agg cs=>
    cases hk:ti.k<;>simp[hk,isStrct]at h7
    exact absurd hk (hn _)
  | _=>rfl
 cases h
def tabT(tab:List (Nat×TI))(t:Nat):Option TI:=(tab.find? fun p=>p.1==t).map (·.2)
theorem tabT_sound{P:Program}{tab:List (Nat×TI)}(h:tab.all (fun p=>tcheck P p.1 p.2)=true)(t:Nat)(ti:TI)(ht:tabT tab t=some ti):TOne P t ti:=by
 unfold tabT at ht
 obtain⟨p,hp,rfl⟩:=Option.map_eq_some_iff.1 ht
 have h1:=List.mem_of_find?_eq_some hp
 have h2:=List.find?_some hp
 simp only[beq_iff_eq]at h2
 subst h2
 exact tcheck_sound (List.all_eq_true.1 h p h1)
end Go.Abs
