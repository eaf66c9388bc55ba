import Derived.Test.YtljahlbklgnfhaaGreatDoorA19
set_option linter.unusedVariables false
set_option linter.unusedSimpArgs false
set_option linter.defProp false
namespace Go.Abs
open Go.RowKit
def AV.ltB0(m:Nat):AV->Bool
 | .ref l _|.vec l _|.vptr l _ _ _|.selfp l=>decide (l<m)
 | .fn _ b=>b.all λl=>decide (l<m)
 | .tup _=>false
 | .agg _=>false
 | _=>true
def AV.ltB(m:Nat):AV->Bool
 | .ref l _|.vec l _|.vptr l _ _ _|.selfp l=>decide (l<m)
 | .fn _ b=>b.all λl=>decide (l<m)
 | .tup _=>false
 | .agg vs=>vs.all (AV.ltB0 m)
 | _=>true
def AObj.ltB(m:Nat):AObj->Bool
 | .var cs=>cs.all (AV.ltB m)
 | _=>true
def scr(m:Nat)(a:AV):AV:=if a.ltB m then a else .any
section
variable {E:Env}{O:Orc}{γ₀ γ:List Gh}{H₀ H:List AObj}{Φ₀ Φ:Nat->Nat->Prop}{w₀ w:World}{σ σ':St}{a:Act}{k:Nat}
theorem Z1m{l m:Nat}(h:l<m):gv (γ.take m) l=gv γ l:=by
 unfold gv
 rw[G2a,if_pos h]
theorem ARel.take0{m:Nat}{v:Value}{x:AV}(h:ARel γ H Φ w v x)(d:x.ltB0 m=true):ARel (γ.take m) (H.take m) Φ w v x:=by
 have z:∀ (l:Nat) p,l<m->rowAt H l=some p->rowAt (H.take m) l=some p:=λl o g F=>by unfold rowAt;rw[G2a,if_pos g];exact F
 cases h with
 | any v=>exact .any v
 | pv h=>exact .pv h
 | nils=>exact .nils
 | ifc t u p h=>exact .ifc t u p h
 | full A n xs h=>exact .full A n xs h
 | pptr b' o cs vs i q I=>exact .pptr b' o cs vs i q I
 | tup=>simp[AV.ltB0]at d
 | agg=>simp[AV.ltB0]at d
 | ref b' l off h=>exact .ref b' l off ((Z1m (by simpa[AV.ltB0]using d)).trans h)
 | selfp A l h=>exact .selfp A l (λa e=>(Z1m (by simpa[AV.ltB0]using d)).trans (h a e))
 | vec A l n cap e sz len r y J h=>
   have g:l<m:=by simpa[AV.ltB0]using d
   exact .vec A l n cap e sz len (z l _ g r) y J (λd=>(Z1m g).trans (h d))
 | vptr b' o l n j off e sz len r y h=>
   have g:l<m:=by simpa[AV.ltB0]using d
   refine .vptr b' o l n j off e sz len (z l _ g r) y (λd=>?_)
   obtain⟨cap,i,q⟩:=h d
   exact⟨cap,(Z1m g).trans i,q⟩
 | fn f cs C i q=>
   refine .fn f cs C i (λk v l K D=>?_)
   obtain⟨b,L,M⟩:=q k v l K D
   have g:l<m:=by simpa using G0p.1 (show(C.all λl=>decide (l<m))=true from d) l (G1o D)
   exact⟨b,L,(Z1m g).trans M⟩
theorem ARel.take{m:Nat}{v:Value}{x:AV}(h:ARel γ H Φ w v x)(b:x.ltB m=true):ARel (γ.take m) (H.take m) Φ w v x:=by
 cases x with
 | agg vs=>
   cases h with
   | agg ws vs e f h=>
     exact .agg ws vs e f (λk v c g d=>(h k v c g d).take0 (G0p.1 (show vs.all (AV.ltB0 m)=true from b) c (G1o d)))
 | _=>exact h.take0 b
theorem Ok.take(h:Ok E γ₀ H₀ Φ₀ w₀ γ H Φ w){m:Nat}(X:H₀.length<=m)(Y:γ₀.length=H₀.length)(F:(H.take m).all (AObj.ltB m)=true):Ok E γ₀ H₀ Φ₀ w₀ (γ.take m) (H.take m) Φ w:=by
 have p:∀ {α:Type} {xs:List α} {l:Nat} {x:α},(xs.take m)[l]?=some x->l<m/\xs[l]?=some x:=by
  intro α xs l x q
  rw[G2a]at q
  split at q
  ·exact⟨by assumption,q⟩
  cases q
 refine⟨⟨by simp[h.inv.len],λl o g z f=>?_,λi j I J K L=>h.inv.disj i j I J (p K).2 (p L).2,λi g f=>h.inv.own i g (p f).2,h.inv.phi,h.inv.gi,h.inv.gn⟩,
  ⟨h.evo.phi,h.evo.cell,λl v t=>?_,λl e sz n A=>?_⟩,
  ⟨h.since.os,h.since.tape,h.since.output,h.since.size,h.since.foreign,h.since.phi,λi g f=>h.since.own i g (p f).2⟩⟩
 ·have r:=h.inv.obj l o g (p z).2 (p f).2
  cases o with
  | var cs=>
    obtain⟨b,T,vs,t,M,hb,N,C,P⟩:=r
    have Q:cs.all (AV.ltB m)=true:=G0p.1 F _ (G1o z)
    exact⟨b,T,vs,t,M,hb,N,λk v c D y=>⟨(C k v c D y).1,(C k v c D y).2.take (G0p.1 Q c (G1o y))⟩,P⟩
  | row e sz xs fz=>exact r
  | bld s=>exact r
  | brow e s=>exact r
  | prn e1 s e2 sz xs=>exact r
  | moved e sz n=>trivial
  | hold d=>exact r
  | gone=>trivial
 ·obtain⟨g,f,_⟩:=Z3x t
  have u:l<m:=by
   have:=(G0j.1 f).1
   omega
  rw[Z1m u]
  exact h.evo.gh l v t
 have u:l<m:=by
  have:=Q9z A
  omega
 obtain⟨S,U,V,W⟩:=h.evo.row l e sz n A
 exact⟨S,by unfold rowAt;rw[G2a,if_pos u];exact U,V,λq=>(Z1m u).trans (W q)⟩
def scrub(m:Nat)(σ:St):St:=⟨λi=>scr m (σ.t i),σ.n,σ.h.take m⟩
theorem Weak.scrub{m:Nat}(hk:k<=m)(d:(σ.h.take m).all (AObj.ltB m)=true):Weak E k σ (scrub m σ):=by
 intro γ₀ H₀ Φ₀ w₀ a w j e
 obtain⟨⟨γ,Φ,f,hs⟩,g,hd,b⟩:=e
 refine⟨⟨γ.take m,Φ,f.take (by omega) b d,λi=>?_⟩,g,hd,b⟩
 show ARel _ _ Φ w _ (scr m (σ.t i))
 unfold scr
 split
 ·rename_i h
  exact(hs i).take h
 exact .any _
theorem Weak.own(i:Nat)(e:TypeId)(sz:Nat)(d:0<sz)(f:σ.t i=.nils):Weak E k σ ⟨upd σ.t i (.vec σ.h.length 0),σ.n,σ.h++[.row e sz [] true]⟩:=by
 intro γ₀ H₀ Φ₀ w₀ a w x g
 obtain⟨⟨γ,Φ,b,hs⟩,l,hd,m⟩:=g
 have n:w.ownsRow 0 e sz (.slice none 0 0) ([]:List PV).length []:=G5b w 0 e sz
 obtain⟨o,Φ',hk,p⟩:=Z3r (v:=.slice none 0 0) b.inv n ⟨rfl,rfl,rfl,G0r _,.inr ⟨rfl,rfl,λ_ _=>rfl⟩⟩ rfl ⟨rfl,λc q=>by simp[Q4h]at q,λk v c r _=>by simp at r⟩ (λz t=>by cases t) d true
 refine⟨⟨o,Φ',b.trans hk,λj=>?_⟩,l,hd,m⟩
 show ARel _ _ Φ' w _ (upd σ.t i (.vec σ.h.length 0) j)
 unfold upd
 split
 ·rename_i u
  subst u
  have h:=hs j
  rw[f]at h
  generalize a.tmps.getD j undef=v at h |-
  cases h
  exact p
 exact(hs j).mono hk.evo
theorem Weak.freeze(l:Nat){e:TypeId}{sz:Nat}{xs:List PV}(n:σ.h[l]?=some (.row e sz xs false)):Weak E k σ ⟨σ.t,σ.n,σ.h.set l (.row e sz xs true)⟩:=by
 intro γ₀ H₀ Φ₀ w₀ a w _ t
 obtain⟨⟨γ,Φ,d,hs⟩,m,hd,u⟩:=t
 obtain⟨g,f,x⟩:=d.inv.gh n
 obtain⟨cells,y,z,A,C,D,o,F,I⟩:=x
 have p:∀b,b∈g.own↔g.v.ownBlock=some b:=λb=>by rw[o];simp
 have hk:=d.inv.setObj (o':=.row e sz xs true) (g':=g) (w':=w) (Φ':=λb k=>Φ b k\/(g.v.ownBlock=some b/\k<xs.length * sz)) n f (λ_ _ _=>rfl) (G0r _) rfl rfl rfl (λ_ _ h=>.inl h)
  (λb k h _ m=>h.elim id (λh=>absurd ((p b).2 h.1) m)) (λb k h=>h.elim (d.inv.phi b k) (λh=>(d.inv.own l g f b ((p b).2 h.1)).2)) (λ_ _ _ _=>rfl) (λb hb=>⟨.inl hb,(d.inv.own l g f b hb).2⟩) (.inl rfl)
  (Q8p (G0r _) (λ_=>rfl))
  (λq=>⟨cells,y,z,λk v c J K=>(A k v c J K).mono q.phi q.cell,C,D,o,F,λb hb k=>⟨λh=>h.elim (λh=>absurd (((I b hb) k).1 h).1 (by simp)) (λh=>⟨rfl,h.2⟩),λ_ hk=>.inr ⟨hb,hk⟩⟩⟩)
 have L:γ.set l g=γ:=by
  refine G4n λi=>?_
  by_cases r:i=l
  ·subst r
   rw[G1u (G0j.1 f).1,f]
  rw[G2b (Ne.symm r)]
 exact⟨⟨_,_,d.trans hk,λj=>(hs j).mono hk.evo⟩,m,hd,u⟩
theorem Wq1{t:Nat->AV}(h:∀i,t i=σ.t i\/t i=.any):Weak E k σ ⟨t,σ.n,σ.h⟩:=by
 intro γ₀ H₀ Φ₀ w₀ a w _ b
 obtain⟨⟨γ,Φ,d,hs⟩,e,hd,f⟩:=b
 refine⟨⟨γ,Φ,d,λi=>?_⟩,e,hd,f⟩
 show ARel γ σ.h Φ w _ (t i)
 rcases h i with h|h
 ·rw[h]
  exact hs i
 rw[h]
 exact .any _
def Z5n(args:List AV):Nat->AV:=λi=>args.getD i .any
def Q8r(E:Env)(σ:St):List ResultVar->Option (List AV)
 | []=>some []
 | .tmp t::r=>(Q8r E σ r).map (σ.t t::·)
 | .cell p b::r=>match Z7o E.T σ.h b (σ.t p),Q8r E σ r with
   | some a,some s=>some (a::s)
   | _,_=>none
def J1j(E:Env)(d:List ResultVar)(m:Nat)(b:List Nat)(σ:St):Option (List AV×List AObj):=
 let sel:=List.range m++b
 if sel.Nodup then match Q8r E σ d,Q1c σ.h (idx sel) sel with
 | some rs,some Hs=>match (if b=[]then Q1a σ.h (idx sel) rs else renL (idx sel) rs)with
   | some e=>some (e,Hs)
   | none=>none
 | _,_=>none
 else none
def Z0b(H:List AObj)(f:Nat->Option Nat):List AV->Option (List AV)
 | []=>some []
 | a::r=>match (match Z0i H a with|some p=>some (AV.pv p)|none=>a.ren f),Z0b H f r with
   | some b,some s=>some (b::s)
   | _,_=>none
theorem Z2h{H:List AObj}{f:Nat->Option Nat}:∀ {az bs:List AV},Z0b H f az=some bs->az.length=bs.length/\∀ (i:Nat) a b,az[i]?=some a->bs[i]?=some b->(∃p,Z0i H a=some p/\b=.pv p)\/a.ren f=some b
 | [],bs,h=>by
   simp only[Z0b,G0c]at h
   subst h
   exact⟨rfl,λi a b g=>by simp at g⟩
 | a::az,bs,h=>by
   simp only[Z0b]at h
   split at h
   ·rename_i b s hb hs
    simp only[G0c]at h
    subst h
    obtain⟨j,l⟩:=Z2h hs
    refine⟨by simp[j],λi x y d e=>?_⟩
    cases i with
    | zero=>
      simp only[G0s,G0c]at d e
      subst d e
      split at hb
      ·rename_i p m
       exact .inl ⟨p,m,(G3p hb).symm⟩
      exact .inr hb
    | succ i=>rw[G1f]at d e;exact l i x y d e
   cases h
def Z3y(E:Env)(b:List ResultVar)(m:Nat)(σ:St):Option (List AV×List AObj):=
 match Q8r E σ b,Q1c σ.h (idx (List.range m++[])) (List.range m++[])with
 | some rs,some Hs=>match Z0b σ.h (idx (List.range m++[])) rs with
   | some d=>some (d,Hs)
   | none=>none
 | _,_=>none
def resF(tmps:Array Value):ResultVar->Sem Value
 | .tmp t=>pure (tmps.getD t undef)
 | .cell a t=>do loadVar t (<- asAddr (tmps.getD a undef))
theorem Q8q(fn:Func)(tmps:Array Value):results fn tmps=(do let vs<-fn.results.mapM (resF tmps);pure (if h:vs.size=1 then vs[0]else .tuple vs)):=rfl
theorem Q5n{γ:List Gh}{Φ:Nat->Nat->Prop}(j:OInv E γ σ.h Φ w)(hs:Slots γ σ.h Φ w a σ.t):∀ (e:List ResultVar) (rs:List AV),Q8r E σ e=some rs->
 ∃vs,(e.mapM (resF a.tmps)).run E.P w=.ok vs w/\vs.length=rs.length/\∀ (i:Nat) v b,vs[i]?=some v->rs[i]?=some b->ARel γ σ.h Φ w v b
 | [],rs,h=>by
   simp only[Q8r,G0c]at h
   subst h
   exact⟨[],by simp,rfl,λi v b d=>by simp at d⟩
 | .tmp t::e,rs,h=>by
   simp only[Q8r]at h
   obtain⟨s,l,rfl⟩:=G0k.1 h
   obtain⟨vs,g,m,n⟩:=Q5n j hs e s l
   refine⟨a.tmps.getD t undef::vs,?_,by simp[m],λi v b d hb=>?_⟩
   ·have q:(resF a.tmps (.tmp t)).run E.P w=.ok (a.tmps.getD t undef) w:=rfl
    rw[G7y]
    simp only[bind,G1n]at g q |-
    rw[q]
    simp only[G1b,g]
    rfl
   cases i with
   | zero=>simp only[G0s,G0c]at d hb;subst d hb;exact hs t
   | succ i=>rw[G1f]at d hb;exact n i v b d hb
 | .cell p r::e,rs,h=>by
   simp only[Q8r]at h
   split at h
   ·rename_i x s f l
    simp only[G0c]at h
    subst h
    obtain⟨vs,g,m,n⟩:=Q5n j hs e s l
    obtain⟨u,z,C⟩:=J1e j (hs p) f
    have A:(resF a.tmps (.cell p r)).run E.P w=.ok u w:=by
     have o:=hs p
     show(do loadVar r (<- asAddr (a.tmps.getD p undef)):Sem Value).run E.P w=.ok u w
     generalize a.tmps.getD p undef=v at z o |-
     generalize σ.t p=y at o f
     unfold Z7o at f
     split at f
     ·cases f
     cases o<;>first|(simp at f;done)|(simpa[Instr.loadAt,Instr.sureAddr,asAddr]using z)
    refine⟨u::vs,?_,by simp[m],λi v b d hb=>?_⟩
    ·rw[G7y]
     simp only[bind,G1n]at g A |-
     rw[A]
     simp only[G1b,g]
     rfl
    cases i with
    | zero=>simp only[G0s,G0c]at d hb;subst d hb;exact C
    | succ i=>rw[G1f]at d hb;exact n i v b d hb
   cases h
theorem Ok.sel(h:Ok E γ₀ H₀ Φ₀ w₀ γ H Φ w)(M:γ₀.length=H₀.length){m:List Nat}(D:(List.range H₀.length++m).Nodup){Hs:List AObj}(hs:Q1c H (idx (List.range H₀.length++m)) (List.range H₀.length++m)=some Hs):
 Ok E γ₀ H₀ Φ₀ w₀ (Q6v γ (List.range H₀.length++m)) Hs Φ w:=by
 obtain⟨q,u⟩:=Q3d hs
 have F:=h.inv.select D hs
 have hat:∀l,l<H₀.length->(List.range H₀.length++m)[l]?=some l:=λl q=>by
  rw[G0q (by simpa using q),G4f q]
 have x:∀l,l<H₀.length->gv (Q6v γ (List.range H₀.length++m)) l=gv γ l:=by
  intro l o
  have j:=hat l o
  have p:l<Hs.length:=by rw[<-q];exact(G0j.1 j).1
  obtain⟨l',o',f,r,_⟩:=u l Hs[l] (G0f p)
  rw[j]at f
  injection f with f
  subst f
  obtain⟨g,d,_⟩:=h.inv.gh r
  unfold gv
  rw[Q5l j d,d]
 refine⟨F,⟨h.evo.phi,h.evo.cell,λl v y=>?_,λl e sz n z=>?_⟩,⟨h.since.os,h.since.tape,h.since.output,h.since.size,h.since.foreign,h.since.phi,λi g d b hb=>?_⟩⟩
 ·obtain⟨g,d,_⟩:=Z3x y
  have o:l<H₀.length:=by
   have:=(G0j.1 d).1
   omega
  rw[x l o]
  exact h.evo.gh l v y
 ·have o:=Q9z z
  obtain⟨I,j,f,r⟩:=h.evo.row l e sz n z
  have A:=hat l o
  have p:l<Hs.length:=by rw[<-q];exact(G0j.1 A).1
  obtain⟨l',o',t,J,K⟩:=u l Hs[l] (G0f p)
  rw[A]at t
  injection t with t
  subst t
  unfold rowAt at j
  rw[J,G0a]at j
  exact⟨I,by unfold rowAt;rw[G0f p,G0a,Q7n K];exact j,f,λL=>(x l o).trans (r L)⟩
 have p:i<Hs.length:=by
  have:=(G0j.1 d).1
  simp only[Q6v,G1h]at this
  omega
 obtain⟨l',o',f,r,_⟩:=u i Hs[i] (G0f p)
 obtain⟨g',C,_⟩:=h.inv.gh r
 rw[Q5l f C]at d
 injection d with d
 subst d
 exact h.since.own l' g' C b hb
def retQ(E:Env)(fn:Func)(m:Nat)(b:List Nat)(rs:List AV)(H':List AObj):Exit->St->Prop
 | .normal,σ|.ret,σ=>J1j E fn.results.toList m b σ=some (rs,H')\/Z3y E fn.results.toList m σ=some (rs,H')
 | _,_=>False
theorem Good.of_body{f:FuncId}{fn:Func}{c:Code}(U:E.P.funcs[f]?=some fn)(hb:fn.body=some c){args:List AV}{H:List AObj}{rs:List AV}{H':List AObj}(hn:args.length<=fn.ntmps)(M:List Nat)(hd0:E.dfs=[])
 (h:AW E H.length c (retQ E fn H.length M rs H') ⟨Z5n args,fn.ntmps,H⟩):Good E f args H rs H':=by
 intro w Φ γ r N hl V
 refine calls_of_wp U hb ?_
 have W:Rel E γ H Φ w ⟨Z5n args,fn.ntmps,H⟩ { tmps:=(⟨r⟩:Array Value)++Array.replicate (fn.ntmps-(⟨r⟩:Array Value).size) undef,defers:=[] } w:=by
  refine⟨⟨γ,Φ,.refl N,λi=>?_⟩,?_,hd0.symm,N.len⟩
  ·show ARel γ H Φ w _ (args.getD i .any)
   rw[G0y]
   by_cases l:i<args.length
   ·rw[G0f l]
    have P:i<r.length:=by omega
    refine V i _ _ ?_ (G0f l)
    rw[G0f P]
    simp[G2w,G7f,P]
   rw[G2c (by omega)]
   exact .any _
  show((⟨r⟩:Array Value)++Array.replicate (fn.ntmps-(⟨r⟩:Array Value).size) undef).size=fn.ntmps
  simp
  omega
 refine wp_mono (h γ H Φ w _ w rfl W) (λe m w' ⟨σ',Q,A⟩=>?_)
 have fin:J1j E fn.results.toList H.length M σ'=some (rs,H')->m.defers=[]/\∃v,(results fn m.tmps).run E.P w'=.ok v w'/\∃vs n Φ',Ending.returned v=.returned (retV vs)/\Ok E γ H Φ w n H' Φ' w'/\vs.length=rs.length/\∀ (i:Nat) v a,vs[i]?=some v->rs[i]?=some a->ARel n H' Φ' w' v a:=by
  intro d
  obtain⟨⟨n,Φ',g,hs⟩,_,hd,C⟩:=Q
  unfold J1j at d
  simp only at d
  split at d
  ·rename_i D
   split at d
   ·rename_i j Hs F q
    split at d
    ·rename_i X t
     simp only[G0c,G1k]at d
     obtain⟨rfl,rfl⟩:=d
     obtain⟨vs,I,Y,z⟩:=Q5n g.inv hs fn.results.toList j F
     have J:(results fn m.tmps).run E.P w'=.ok (retV vs) w':=by
      have K:(fn.results.mapM (resF m.tmps)).run E.P w'=.ok ⟨vs⟩ w':=by
       rw[G4q,G8f,I]
       rfl
      rw[Q8q]
      simp only[bind,G1n,K,G1b]
      match vs with
      | []=>rfl
      | [v]=>rfl
      | v::v'::vs=>simp[retV]
     refine⟨hd.trans hd0,_,J,vs,_,Φ',rfl,g.sel C D q,?_⟩
     split at t
     ·obtain⟨S,u⟩:=Q6j t
      refine⟨by omega,λi v b o hb=>?_⟩
      have l:i<j.length:=by
       have:=(G0j.1 o).1
       omega
      have x:=z i v j[i] o (G0f l)
      rcases u i j[i] b (G0f l) hb with⟨p,L,rfl⟩|y
      ·exact .pv (Q2b g.inv x L)
      exact x.select g.inv q y
     obtain⟨S,u⟩:=J2s t
     refine⟨by omega,λi v b o hb=>?_⟩
     obtain⟨c,hc,y⟩:=u i b hb
     exact(z i v c o hc).select g.inv q y
    cases d
   cases d
  cases d
 have T:Z3y E fn.results.toList H.length σ'=some (rs,H')->m.defers=[]/\∃v,(results fn m.tmps).run E.P w'=.ok v w'/\∃vs n Φ',Ending.returned v=.returned (retV vs)/\Ok E γ H Φ w n H' Φ' w'/\vs.length=rs.length/\∀ (i:Nat) v a,vs[i]?=some v->rs[i]?=some a->ARel n H' Φ' w' v a:=by
  intro d
  obtain⟨⟨n,Φ',g,hs⟩,_,hd,C⟩:=Q
  have D:(List.range H.length++[]).Nodup:=by rw[G0n];exact List.nodup_range
  unfold Z3y at d
  split at d
  ·rename_i j Hs F q
   split at d
   ·rename_i X t
    simp only[G0c,G1k]at d
    obtain⟨rfl,rfl⟩:=d
    obtain⟨vs,I,Y,z⟩:=Q5n g.inv hs fn.results.toList j F
    have J:(results fn m.tmps).run E.P w'=.ok (retV vs) w':=by
     have K:(fn.results.mapM (resF m.tmps)).run E.P w'=.ok ⟨vs⟩ w':=by
      rw[G4q,G8f,I]
      rfl
     rw[Q8q]
     simp only[bind,G1n,K,G1b]
     match vs with
     | []=>rfl
     | [v]=>rfl
     | v::v'::vs=>simp[retV]
    refine⟨hd.trans hd0,_,J,vs,_,Φ',rfl,g.sel C D q,?_⟩
    obtain⟨S,u⟩:=Z2h t
    refine⟨by omega,λi v b o hb=>?_⟩
    have l:i<j.length:=by
     have:=(G0j.1 o).1
     omega
    have x:=z i v j[i] o (G0f l)
    rcases u i j[i] b (G0f l) hb with⟨p,L,rfl⟩|y
    ·exact .pv (J4v g.inv x L)
    exact x.select g.inv q y
   cases d
  cases d
 cases e with
 | normal=>exact A.elim fin T
 | ret=>exact A.elim fin T
 | _=>exact A.elim
def Z9l(E:Env)(f:FuncId):Prop:=∃fn,E.P.funcs[f]?=some fn/\fn.body.isSome=true/\(fn.name=="runtime.NumGoroutine")=false
end
end Go.Abs
namespace Go.Abs
def zokB:Value->PV->Bool
 | .bool a,.bool b=>a==b
 | .int k a,.int d b=>decide (k=d)&&a==b
 | .string s,.str l=>s.data.toList==l
 | .slice none 0 0,.slice []=>true
 | .nilIface,.nil=>true
 | .pointer none,.nilp=>true
 | _,_=>false
theorem X3n{v:Value}{p:PV}(h:zokB v p=true):Zero1 v p:=by
 unfold zokB at h
 split at h
 ·simp only[G3o]at h
  subst h
  exact⟨rfl,λ_ _=>.bool _,λh=>by cases h⟩
 ·simp only[G0d,G0l,G3o]at h
  obtain⟨rfl,rfl⟩:=h
  exact⟨rfl,λ_ _=>.int _ _,λh=>by cases h⟩
 ·rename_i s l
  have:s.data.toList=l:=by simpa using h
  subst this
  exact⟨rfl,λ_ _=>.str _,λh=>by cases h⟩
 ·exact⟨rfl,λ_ _=>.sliceNil,λ_=>rfl⟩
 ·exact⟨rfl,λ_ _=>.nil,λh=>by cases h⟩
 ·exact⟨rfl,λ_ _=>.nilp,λh=>by cases h⟩
 cases h
def J0t:List Value->List PV->Bool
 | [],[]=>true
 | v::vs,p::ps=>zokB v p&&J0t vs ps
 | _,_=>false
theorem Z4z:∀ {vs:List Value} {ps:List PV},J0t vs ps=true->vs.length=ps.length/\∀ (k:Nat) v c,vs[k]?=some v->ps[k]?=some c->Zero1 v c
 | [],[],_=>⟨rfl,λk v c e=>by simp at e⟩
 | v::vs,p::ps,h=>by
   simp only[J0t,G0d]at h
   obtain⟨f,g⟩:=Z4z h.2
   refine⟨by simp[f],λk u c b d=>?_⟩
   cases k with
   | zero=>simp only[G0s,G0c]at b d;subst b d;exact X3n h.1
   | succ k=>rw[G1f]at b d;exact g k u c b d
 | [],_::_,h=>by simp[J0t]at h
 | _::_,[],h=>by simp[J0t]at h
def Z4a(P:Program):List Field->List (Nat×Nat)->Bool
 | [],[]=>true
 | f::b,p::ps=>f.offset==p.1&&(match P.info? f.type with|some i=>i.size==p.2|none=>false)&&Z4a P b ps
 | _,_=>false
theorem Z2v{P:Program}:∀ {b:List Field} {ps:List (Nat×Nat)},Z4a P b ps=true->b.length=ps.length/\∀ (j:Nat) (f:Field) (p:Nat×Nat),b[j]?=some f->ps[j]?=some p->f.offset=p.1/\∃l,P.info? f.type=some l/\l.size=p.2
 | [],[],_=>⟨rfl,λk v c m=>by simp at m⟩
 | f::b,p::ps,h=>by
   simp only[Z4a,G0d,G3o]at h
   obtain⟨n,o⟩:=Z2v h.2
   refine⟨by simp[n],λk u c d e=>?_⟩
   cases k with
   | zero=>
     simp only[G0s,G0c]at d e
     subst d e
     refine⟨h.1.1,?_⟩
     have g:=h.1.2
     split at g
     ·rename_i i q
      exact⟨i,q,by simpa using g⟩
     cases g
   | succ k=>rw[G1f]at d e;exact o k u c d e
 | [],_::_,h=>by simp[Z4a]at h
 | _::_,[],h=>by simp[Z4a]at h
def tkB(P:Program):TypeDesc->TK->Bool
 | .int k,.int d=>decide (k=d)
 | .bool,.bool=>true
 | .string,.str=>true
 | .slice e,.slice b=>e==b
 | .struct fields,.strct f=>Z4a P fields.toList f
 | .map k e,.map d b=>k==d&&e==b
 | .pointer e,.ptr b=>e==b
 | .interface _,.iface=>true
 | _,.other=>true
 | _,_=>false
theorem X6l{P:Program}{d:TypeDesc}{k:TK}(h:tkB P d k=true):TKok P d k:=by
 cases k with
 | other=>cases d<;>trivial
 | strct m=>
   cases d with
   | struct fields=>
     obtain⟨b,g⟩:=Z2v h
     exact⟨by simpa using b,λj f p i l=>g j f p (by simpa using i) l⟩
   | _=>simp[tkB]at h
 | int k=>cases d<;>simp_all [tkB,TKok]
 | bool=>cases d<;>simp_all [tkB,TKok]
 | str=>cases d<;>simp_all [tkB,TKok]
 | slice e=>cases d<;>simp_all [tkB,TKok]
 | map k e=>cases d<;>simp_all [tkB,TKok]
 | ptr e=>cases d<;>simp_all [tkB,TKok]
 | iface=>cases d<;>simp_all [tkB,TKok]
def J3k:TK->Bool
 | .strct _=>true
 | _=>false
def X0o(P:Program)(t:TypeId)(ti:TI):Bool:=
 match P.info? t,P.underlying t with
 | some i,some d=>i.size==ti.size&&i.bytes==ti.bytes&&tkB P d ti.k &&
   match ti.zero with
   | none=>true
   | some zs=>match i.zero with
     | none=>false
     | some z=>J0t z.cells.toList zs&&zs.length==ti.size&&(match z with|.agg _=>J3k ti.k|_=>!J3k ti.k)
 | _,_=>false
theorem J4w{P:Program}{t:TypeId}{ti:TI}(h:X0o P t ti=true):TOne P t ti:=by
 unfold X0o at h
 split at h
 ·rename_i i d f hd
  simp only[G0d,G3o]at h
  obtain⟨⟨⟨g,j⟩,l⟩,b⟩:=h
  refine⟨i,d,f,g,j,hd,X6l l,λzs m=>?_⟩
  rw[m]at b
  simp only at b
  split at b
  ·cases b
  rename_i z n
  simp only[G0d,G3o]at b
  obtain⟨⟨o,p⟩,e⟩:=b
  obtain⟨q,r⟩:=Z4z o
  refine⟨z,n,q,p,r,λy u=>?_,λx=>?_⟩
  ·cases z with
   | agg cs=>exact⟨cs,rfl⟩
   | _=>simp[u,J3k]at e
  cases z with
  | agg cs=>
    cases hk:ti.k<;>simp[hk,J3k]at e
    exact absurd hk (x _)
  | _=>rfl
 cases h
def tabT(tab:List (Nat×TI))(t:Nat):Option TI:=(tab.find? λp=>p.1==t).map (·.2)
theorem X3r{P:Program}{tab:List (Nat×TI)}(h:tab.all (λp=>X0o P p.1 p.2)=true)(t:Nat)(ti:TI)(b:tabT tab t=some ti):TOne P t ti:=by
 unfold tabT at b
 obtain⟨p,d,rfl⟩:=G0k.1 b
 have f:=G8c d
 have e:=G8o d
 simp only[G3o]at e
 subst e
 exact J4w (G0p.1 h p f)
end Go.Abs
