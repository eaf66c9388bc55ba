import Derived.Test.YtljahlbklgnfhaaGreatDoorA19
set_option linter.unusedVariables false
set_option linter.unusedSimpArgs false
set_option linter.defProp false
namespace Go.Abs
open Go.RowKit
def AV.ltB0(m:Nat):AV->Bool
 | .ref l _|.vec l _|.vptr l _ _ _|.mref l|.selfp l=>decide (l<m)
 | .fn _ b=>b.all λl=>decide (l<m)
 | .tup _=>false
 | .agg _=>false
 | _=>true
def AV.ltB(m:Nat):AV->Bool
 | .ref l _|.vec l _|.vptr l _ _ _|.mref l|.selfp l=>decide (l<m)
 | .fn _ b=>b.all λl=>decide (l<m)
 | .tup _=>false
 | .agg vs=>vs.all (AV.ltB0 m)
 | _=>true
def AObj.ltB(m:Nat):AObj->Bool
 | .var cs=>cs.all (AV.ltB m)
 | .hrow _ _ _ _ _ l _=>decide (l<m)
 | _=>true
def scr(m:Nat)(a:AV):AV:=if a.ltB m then a else .any
section
variable {E:Env}{O:Orc}{γ₀ γ:List Gh}{H₀ H:List AObj}{Φ₀ Φ:Nat->Nat->Prop}{w₀ w:World}{σ σ':St}{a:Act}{k:Nat}
theorem Q8n{l m:Nat}(h:l<m):gv (γ.take m) l=gv γ l:=by
 unfold gv
 rw[G1l,if_pos h]
theorem ARel.take0{m:Nat}{v:Value}{x:AV}(h:ARel γ H Φ w v x)(d:x.ltB0 m=true):ARel (γ.take m) (H.take m) Φ w v x:=by
 have s:∀ (l:Nat) p,l<m->rowAt H l=some p->rowAt (H.take m) l=some p:=λl o g C=>by unfold rowAt;rw[G1l,if_pos g];exact C
 cases h with
 | any v=>exact .any v
 | pv h=>exact .pv h
 | nils=>exact .nils
 | ifc t u p h=>exact .ifc t u p h
 | full A n xs h=>exact .full A n xs h
 | pptr b' o cs vs i q D=>exact .pptr b' o cs vs i q D
 | tup=>simp[AV.ltB0]at d
 | agg=>simp[AV.ltB0]at d
 | ref b' l off h=>exact .ref b' l off ((Q8n (by simpa[AV.ltB0]using d)).trans h)
 | mref b' l h=>exact .mref b' l ((Q8n (by simpa[AV.ltB0]using d)).trans h)
 | selfp A l h=>exact .selfp A l (λa e=>(Q8n (by simpa[AV.ltB0]using d)).trans (h a e))
 | vec A l n cap e sz len hrow r F h=>
   have g:l<m:=by simpa[AV.ltB0]using d
   exact .vec A l n cap e sz len (s l _ g hrow) r F (λd=>(Q8n g).trans (h d))
 | vptr b' o l n j off e sz len hrow r h=>
   have g:l<m:=by simpa[AV.ltB0]using d
   refine .vptr b' o l n j off e sz len (s l _ g hrow) r (λd=>?_)
   obtain⟨cap,i,q⟩:=h d
   exact⟨cap,(Q8n g).trans i,q⟩
 | fn f cs y i q=>
   refine .fn f cs y i (λk v l I z=>?_)
   obtain⟨b,J,K⟩:=q k v l I z
   have g:l<m:=by simpa using G0t.1 (show(y.all λl=>decide (l<m))=true from d) l (G0r z)
   exact⟨b,J,(Q8n g).trans K⟩
theorem ARel.take{m:Nat}{v:Value}{x:AV}(h:ARel γ H Φ w v x)(b:x.ltB m=true):ARel (γ.take m) (H.take m) Φ w v x:=by
 cases x with
 | agg vs=>
   cases h with
   | agg e vs f g h=>
     exact .agg e vs f g (λk v c i d=>(h k v c i d).take0 (G0t.1 (show vs.all (AV.ltB0 m)=true from b) c (G0r d)))
 | _=>exact h.take0 b
theorem Ok.take(h:Ok E γ₀ H₀ Φ₀ w₀ γ H Φ w){m:Nat}(hm:H₀.length<=m)(aj:γ₀.length=H₀.length)(J:(H.take m).all (AObj.ltB m)=true):Ok E γ₀ H₀ Φ₀ w₀ (γ.take m) (H.take m) Φ w:=by
 have r:∀ {α:Type} {xs:List α} {l:Nat} {x:α},(xs.take m)[l]?=some x->l<m/\xs[l]?=some x:=by
  intro α xs l x t
  rw[G1l]at t
  split at t
  ·exact⟨by assumption,t⟩
  cases t
 refine⟨⟨by simp[h.inv.len],λl o g z q=>?_,λi j gi M N P=>h.inv.disj i j gi M (r N).2 (r P).2,λi g q=>h.inv.own i g (r q).2,h.inv.phi,h.inv.gi,h.inv.gn⟩,
  ⟨h.evo.phi,h.evo.cell,λl v u=>?_,λl e sz n hrow=>?_⟩,
  ⟨h.since.os,h.since.tape,h.since.output,h.since.size,h.since.foreign,h.since.phi,λi g q=>h.since.own i g (r q).2⟩⟩
 ·have f:=h.inv.obj l o g (r z).2 (r q).2
  cases o with
  | var cs=>
    obtain⟨b,T,vs,u,Q,hb,S,K,U⟩:=f
    have A:cs.all (AV.ltB m)=true:=G0t.1 J _ (G0r z)
    exact⟨b,T,vs,u,Q,hb,S,λk v c L C=>⟨(K k v c L C).1,(K k v c L C).2.take (G0t.1 A c (G0r C))⟩,U⟩
  | row e sz xs fz=>exact f
  | map es=>exact f
  | bld s=>exact f
  | brow e s=>exact f
  | prn e1 s V sz xs=>exact f
  | iter s p=>exact f
  | tree e sz off V am m xs=>exact f
  | hrow e sz xs j off l' n=>
    obtain⟨cells,D,F,I,W,X,Y,h7,h8,h9,ae,af⟩:=f
    have A:decide (l'<m)=true:=G0t.1 J _ (G0r z)
    exact⟨cells,D,F,I,W,X,Y,h7,h8,h9,ae,λv u=>(af v u).take0 A⟩
  | moved e sz n=>trivial
  | hold d=>exact f
  | gone=>trivial
 ·obtain⟨g,q,_⟩:=Z2l u
  have y:l<m:=by
   have:=(G0f.1 q).1
   omega
  rw[Q8n y]
  exact h.evo.gh l v u
 have y:l<m:=by
  have:=Q7d hrow
  omega
 obtain⟨n',D,F,I⟩:=h.evo.row l e sz n hrow
 exact⟨n',by unfold rowAt;rw[G1l,if_pos y];exact D,F,λt=>(Q8n y).trans (I t)⟩
def scrub(m:Nat)(σ:St):St:=⟨λi=>scr m (σ.t i),σ.n,σ.h.take m⟩
theorem Weak.scrub{m:Nat}(hk:k<=m)(d:(σ.h.take m).all (AObj.ltB m)=true):Weak E k σ (scrub m σ):=by
 intro γ₀ H₀ Φ₀ w₀ a w j e
 obtain⟨⟨γ,Φ,f,hs⟩,g,hd,b⟩:=e
 refine⟨⟨γ.take m,Φ,f.take (by omega) b d,λi=>?_⟩,g,hd,b⟩
 show ARel _ _ Φ w _ (scr m (σ.t i))
 unfold scr
 split
 ·rename_i h
  exact(hs i).take h
 exact .any _
theorem Weak.own(i:Nat)(e:TypeId)(sz:Nat)(d:0<sz)(f:σ.t i=.nils):Weak E k σ ⟨upd σ.t i (.vec σ.h.length 0),σ.n,σ.h++[.row e sz [] true]⟩:=by
 intro γ₀ H₀ Φ₀ w₀ a w t g
 obtain⟨⟨γ,Φ,b,hs⟩,l,hd,m⟩:=g
 have hrow:w.ownsRow 0 e sz (.slice none 0 0) ([]:List PV).length []:=World.ownsRow_nil w 0 e sz
 obtain⟨n,Φ',hk,o⟩:=Z2h (v:=.slice none 0 0) b.inv hrow ⟨rfl,rfl,rfl,G0o _,.inr ⟨rfl,rfl,λ_ _=>rfl⟩⟩ rfl ⟨rfl,λc p=>by simp[Q3y]at p,λk v c q _=>by simp at q⟩ (λz r=>by cases r) d true
 refine⟨⟨n,Φ',b.trans hk,λj=>?_⟩,l,hd,m⟩
 show ARel _ _ Φ' w _ (upd σ.t i (.vec σ.h.length 0) j)
 unfold upd
 split
 ·rename_i s
  subst s
  have h:=hs j
  rw[f]at h
  generalize a.tmps.getD j undef=v at h |-
  cases h
  exact o
 exact(hs j).mono hk.evo
theorem Weak.freeze(l:Nat){e:TypeId}{sz:Nat}{xs:List PV}(n:σ.h[l]?=some (.row e sz xs false)):Weak E k σ ⟨σ.t,σ.n,σ.h.set l (.row e sz xs true)⟩:=by
 intro γ₀ H₀ Φ₀ w₀ a w _ s
 obtain⟨⟨γ,Φ,d,hs⟩,m,hd,t⟩:=s
 obtain⟨g,f,u⟩:=d.inv.gh n
 obtain⟨cells,x,y,z,A,C,o,D,F⟩:=u
 have p:∀b,b∈g.own↔g.v.ownBlock=some b:=λb=>by rw[o];simp
 have hk:=d.inv.setObj (o':=.row e sz xs true) (g':=g) (w':=w) (Φ':=λb k=>Φ b k\/(g.v.ownBlock=some b/\k<xs.length * sz)) n f (λ_ _ _=>rfl) (G0o _) rfl rfl rfl (λ_ _ h=>.inl h)
  (λb k h _ m=>h.elim id (λh=>absurd ((p b).2 h.1) m)) (λb k h=>h.elim (d.inv.phi b k) (λh=>(d.inv.own l g f b ((p b).2 h.1)).2)) (λ_ _ _ _=>rfl) (λb hb=>⟨.inl hb,(d.inv.own l g f b hb).2⟩) (.inl rfl)
  (Q8d (G0o _) (λ_=>rfl))
  (λq=>⟨cells,x,y,λk v c I J=>(z k v c I J).mono q.phi q.cell,A,C,o,D,λb hb k=>⟨λh=>h.elim (λh=>absurd (((F b hb) k).1 h).1 (by simp)) (λh=>⟨rfl,h.2⟩),λ_ hk=>.inr ⟨hb,hk⟩⟩⟩)
 have K:γ.set l g=γ:=by
  refine G3x λi=>?_
  by_cases r:i=l
  ·subst r
   rw[G1c (G0f.1 f).1,f]
  rw[G1e (Ne.symm r)]
 exact⟨⟨_,_,d.trans hk,λj=>(hs j).mono hk.evo⟩,m,hd,t⟩
theorem Weak.forget{t:Nat->AV}(h:∀i,t i=σ.t i\/t i=.any):Weak E k σ ⟨t,σ.n,σ.h⟩:=by
 intro γ₀ H₀ Φ₀ w₀ a w _ b
 obtain⟨⟨γ,Φ,d,hs⟩,e,hd,f⟩:=b
 refine⟨⟨γ,Φ,d,λi=>?_⟩,e,hd,f⟩
 show ARel γ σ.h Φ w _ (t i)
 rcases h i with h|h
 ·rw[h]
  exact hs i
 rw[h]
 exact .any _
def Z3p(args:List AV):Nat->AV:=λi=>args.getD i .any
def Q8f(E:Env)(σ:St):List ResultVar->Option (List AV)
 | []=>some []
 | .tmp t::r=>(Q8f E σ r).map (σ.t t::·)
 | .cell p b::r=>match Z5j E.T σ.h b (σ.t p),Q8f E σ r with
   | some a,some s=>some (a::s)
   | _,_=>none
def Z8l(E:Env)(d:List ResultVar)(m:Nat)(b:List Nat)(σ:St):Option (List AV×List AObj):=
 let sel:=List.range m++b
 if sel.Nodup then match Q8f E σ d,Q1a σ.h (idx sel) sel with
 | some rs,some Hs=>match (if b=[]then Q0v σ.h (idx sel) rs else renL (idx sel) rs)with
   | some e=>some (e,Hs)
   | none=>none
 | _,_=>none
 else none
def Q9h(H:List AObj)(f:Nat->Option Nat):List AV->Option (List AV)
 | []=>some []
 | a::r=>match (match Q9o H a with|some p=>some (AV.pv p)|none=>a.ren f),Q9h H f r with
   | some b,some s=>some (b::s)
   | _,_=>none
theorem Z1e{H:List AObj}{f:Nat->Option Nat}:∀ {az bs:List AV},Q9h H f az=some bs->az.length=bs.length/\∀ (i:Nat) a b,az[i]?=some a->bs[i]?=some b->(∃p,Q9o H a=some p/\b=.pv p)\/a.ren f=some b
 | [],bs,h=>by
   simp only[Q9h,G0b]at h
   subst h
   exact⟨rfl,λi a b g=>by simp at g⟩
 | a::az,bs,h=>by
   simp only[Q9h]at h
   split at h
   ·rename_i b s hb hs
    simp only[G0b]at h
    subst h
    obtain⟨j,l⟩:=Z1e hs
    refine⟨by simp[j],λi x y d e=>?_⟩
    cases i with
    | zero=>
      simp only[G0n,G0b]at d e
      subst d e
      split at hb
      ·rename_i p m
       exact .inl ⟨p,m,(G3g hb).symm⟩
      exact .inr hb
    | succ i=>rw[G0y]at d e;exact l i x y d e
   cases h
def Z2m(E:Env)(b:List ResultVar)(m:Nat)(σ:St):Option (List AV×List AObj):=
 match Q8f E σ b,Q1a σ.h (idx (List.range m++[])) (List.range m++[])with
 | some rs,some Hs=>match Q9h σ.h (idx (List.range m++[])) rs with
   | some d=>some (d,Hs)
   | none=>none
 | _,_=>none
def resF(tmps:Array Value):ResultVar->Sem Value
 | .tmp t=>pure (tmps.getD t undef)
 | .cell a t=>do loadVar t (<- asAddr (tmps.getD a undef))
theorem Q8e(fn:Func)(tmps:Array Value):results fn tmps=(do let vs<-fn.results.mapM (resF tmps);pure (if h:vs.size=1 then vs[0]else .tuple vs)):=rfl
theorem Q4w{γ:List Gh}{Φ:Nat->Nat->Prop}(j:OInv E γ σ.h Φ w)(hs:Slots γ σ.h Φ w a σ.t):∀ (e:List ResultVar) (rs:List AV),Q8f E σ e=some rs->
 ∃vs,(e.mapM (resF a.tmps)).run E.P w=.ok vs w/\vs.length=rs.length/\∀ (i:Nat) v b,vs[i]?=some v->rs[i]?=some b->ARel γ σ.h Φ w v b
 | [],rs,h=>by
   simp only[Q8f,G0b]at h
   subst h
   exact⟨[],by simp,rfl,λi v b d=>by simp at d⟩
 | .tmp t::e,rs,h=>by
   simp only[Q8f]at h
   obtain⟨s,l,rfl⟩:=G0g.1 h
   obtain⟨vs,g,m,n⟩:=Q4w j hs e s l
   refine⟨a.tmps.getD t undef::vs,?_,by simp[m],λi v b d hb=>?_⟩
   ·have q:(resF a.tmps (.tmp t)).run E.P w=.ok (a.tmps.getD t undef) w:=rfl
    rw[G6s]
    simp only[bind,Sem.run_bind']at g q |-
    rw[q]
    simp only[Result.andThen_ok,g]
    rfl
   cases i with
   | zero=>simp only[G0n,G0b]at d hb;subst d hb;exact hs t
   | succ i=>rw[G0y]at d hb;exact n i v b d hb
 | .cell p r::e,rs,h=>by
   simp only[Q8f]at h
   split at h
   ·rename_i x s f l
    simp only[G0b]at h
    subst h
    obtain⟨vs,g,m,n⟩:=Q4w j hs e s l
    obtain⟨u,z,C⟩:=Z8i j (hs p) f
    have A:(resF a.tmps (.cell p r)).run E.P w=.ok u w:=by
     have o:=hs p
     show(do loadVar r (<- asAddr (a.tmps.getD p undef)):Sem Value).run E.P w=.ok u w
     generalize a.tmps.getD p undef=v at z o |-
     generalize σ.t p=y at o f
     unfold Z5j at f
     split at f
     ·cases f
     cases o<;>first|(simp at f;done)|(simpa[Instr.loadAt,Instr.sureAddr,asAddr]using z)
    refine⟨u::vs,?_,by simp[m],λi v b d hb=>?_⟩
    ·rw[G6s]
     simp only[bind,Sem.run_bind']at g A |-
     rw[A]
     simp only[Result.andThen_ok,g]
     rfl
    cases i with
    | zero=>simp only[G0n,G0b]at d hb;subst d hb;exact C
    | succ i=>rw[G0y]at d hb;exact n i v b d hb
   cases h
theorem Ok.sel(h:Ok E γ₀ H₀ Φ₀ w₀ γ H Φ w)(K:γ₀.length=H₀.length){m:List Nat}(A:(List.range H₀.length++m).Nodup){Hs:List AObj}(hs:Q1a H (idx (List.range H₀.length++m)) (List.range H₀.length++m)=some Hs):
 Ok E γ₀ H₀ Φ₀ w₀ (Q6h γ (List.range H₀.length++m)) Hs Φ w:=by
 obtain⟨q,t⟩:=Q2x hs
 have C:=h.inv.select A hs
 have hat:∀l,l<H₀.length->(List.range H₀.length++m)[l]?=some l:=λl q=>by
  rw[G0l (by simpa using q),G3f q]
 have u:∀l,l<H₀.length->gv (Q6h γ (List.range H₀.length++m)) l=gv γ l:=by
  intro l o
  have j:=hat l o
  have p:l<Hs.length:=by rw[<-q];exact(G0f.1 j).1
  obtain⟨l',o',f,r,_⟩:=t l Hs[l] (G0c p)
  rw[j]at f
  injection f with f
  subst f
  obtain⟨g,d,_⟩:=h.inv.gh r
  unfold gv
  rw[Q4v j d,d]
 refine⟨C,⟨h.evo.phi,h.evo.cell,λl v x=>?_,λl e sz n hrow=>?_⟩,⟨h.since.os,h.since.tape,h.since.output,h.since.size,h.since.foreign,h.since.phi,λi g d b hb=>?_⟩⟩
 ·obtain⟨g,d,_⟩:=Z2l x
  have o:l<H₀.length:=by
   have:=(G0f.1 d).1
   omega
  rw[u l o]
  exact h.evo.gh l v x
 ·have o:=Q7d hrow
  obtain⟨D,j,f,r⟩:=h.evo.row l e sz n hrow
  have y:=hat l o
  have p:l<Hs.length:=by rw[<-q];exact(G0f.1 y).1
  obtain⟨l',o',s,F,I⟩:=t l Hs[l] (G0c p)
  rw[y]at s
  injection s with s
  subst s
  unfold rowAt at j
  rw[F,G0a]at j
  exact⟨D,by unfold rowAt;rw[G0c p,G0a,Q7c I];exact j,f,λJ=>(u l o).trans (r J)⟩
 have p:i<Hs.length:=by
  have:=(G0f.1 d).1
  simp only[Q6h,G1m]at this
  omega
 obtain⟨l',o',f,r,_⟩:=t i Hs[i] (G0c p)
 obtain⟨g',z,_⟩:=h.inv.gh r
 rw[Q4v f z]at d
 injection d with d
 subst d
 exact h.since.own l' g' z b hb
def retQ(E:Env)(fn:Func)(m:Nat)(b:List Nat)(rs:List AV)(H':List AObj):Exit->St->Prop
 | .normal,σ|.ret,σ=>Z8l E fn.results.toList m b σ=some (rs,H')\/Z2m E fn.results.toList m σ=some (rs,H')
 | _,_=>False
theorem Good.of_body{f:FuncId}{fn:Func}{c:Code}(T:E.P.funcs[f]?=some fn)(hb:fn.body=some c){args:List AV}{H:List AObj}{rs:List AV}{H':List AObj}(hn:args.length<=fn.ntmps)(L:List Nat)(hd0:E.dfs=[])
 (h:AW E H.length c (retQ E fn H.length L rs H') ⟨Z3p args,fn.ntmps,H⟩):Good E f args H rs H':=by
 intro w Φ γ r M hl U
 refine calls_of_wp T hb ?_
 have V:Rel E γ H Φ w ⟨Z3p args,fn.ntmps,H⟩ { tmps:=(⟨r⟩:Array Value)++Array.replicate (fn.ntmps-(⟨r⟩:Array Value).size) undef,defers:=[] } w:=by
  refine⟨⟨γ,Φ,.refl M,λi=>?_⟩,?_,hd0.symm,M.len⟩
  ·show ARel γ H Φ w _ (args.getD i .any)
   rw[G0v]
   by_cases l:i<args.length
   ·rw[G0c l]
    have N:i<r.length:=by omega
    refine U i _ _ ?_ (G0c l)
    rw[G0c N]
    simp[G2m,G6d,N]
   rw[G1a (by omega)]
   exact .any _
  show((⟨r⟩:Array Value)++Array.replicate (fn.ntmps-(⟨r⟩:Array Value).size) undef).size=fn.ntmps
  simp
  omega
 refine wp_mono (h γ H Φ w _ w rfl V) (λe m w' ⟨σ',P,z⟩=>?_)
 have fin:Z8l E fn.results.toList H.length L σ'=some (rs,H')->m.defers=[]/\∃v,(results fn m.tmps).run E.P w'=.ok v w'/\∃vs n Φ',Ending.returned v=.returned (retV vs)/\Ok E γ H Φ w n H' Φ' w'/\vs.length=rs.length/\∀ (i:Nat) v a,vs[i]?=some v->rs[i]?=some a->ARel n H' Φ' w' v a:=by
  intro d
  obtain⟨⟨n,Φ',g,hs⟩,_,hd,A⟩:=P
  unfold Z8l at d
  simp only at d
  split at d
  ·rename_i C
   split at d
   ·rename_i j Hs D q
    split at d
    ·rename_i W s
     simp only[G0b,G1d]at d
     obtain⟨rfl,rfl⟩:=d
     obtain⟨vs,F,X,y⟩:=Q4w g.inv hs fn.results.toList j D
     have I:(results fn m.tmps).run E.P w'=.ok (retV vs) w':=by
      have J:(fn.results.mapM (resF m.tmps)).run E.P w'=.ok ⟨vs⟩ w':=by
       rw[G4b,Sem.run_map,F]
       rfl
      rw[Q8e]
      simp only[bind,Sem.run_bind',J,Result.andThen_ok]
      match vs with
      | []=>rfl
      | [v]=>rfl
      | v::v'::vs=>simp[retV]
     refine⟨hd.trans hd0,_,I,vs,_,Φ',rfl,g.sel A C q,?_⟩
     split at s
     ·obtain⟨Q,t⟩:=Q5s s
      refine⟨by omega,λi v b o hb=>?_⟩
      have l:i<j.length:=by
       have:=(G0f.1 o).1
       omega
      have u:=y i v j[i] o (G0c l)
      rcases t i j[i] b (G0c l) hb with⟨p,K,rfl⟩|x
      ·exact .pv (Q1q g.inv u K)
      exact u.select g.inv q x
     obtain⟨Q,t⟩:=Z9y s
     refine⟨by omega,λi v b o hb=>?_⟩
     obtain⟨c,Y,x⟩:=t i b hb
     exact(y i v c o Y).select g.inv q x
    cases d
   cases d
  cases d
 have S:Z2m E fn.results.toList H.length σ'=some (rs,H')->m.defers=[]/\∃v,(results fn m.tmps).run E.P w'=.ok v w'/\∃vs n Φ',Ending.returned v=.returned (retV vs)/\Ok E γ H Φ w n H' Φ' w'/\vs.length=rs.length/\∀ (i:Nat) v a,vs[i]?=some v->rs[i]?=some a->ARel n H' Φ' w' v a:=by
  intro d
  obtain⟨⟨n,Φ',g,hs⟩,_,hd,A⟩:=P
  have C:(List.range H.length++[]).Nodup:=by rw[G1s];exact List.nodup_range
  unfold Z2m at d
  split at d
  ·rename_i j Hs D q
   split at d
   ·rename_i W s
    simp only[G0b,G1d]at d
    obtain⟨rfl,rfl⟩:=d
    obtain⟨vs,F,X,y⟩:=Q4w g.inv hs fn.results.toList j D
    have I:(results fn m.tmps).run E.P w'=.ok (retV vs) w':=by
     have J:(fn.results.mapM (resF m.tmps)).run E.P w'=.ok ⟨vs⟩ w':=by
      rw[G4b,Sem.run_map,F]
      rfl
     rw[Q8e]
     simp only[bind,Sem.run_bind',J,Result.andThen_ok]
     match vs with
     | []=>rfl
     | [v]=>rfl
     | v::v'::vs=>simp[retV]
    refine⟨hd.trans hd0,_,I,vs,_,Φ',rfl,g.sel A C q,?_⟩
    obtain⟨Q,t⟩:=Z1e s
    refine⟨by omega,λi v b o hb=>?_⟩
    have l:i<j.length:=by
     have:=(G0f.1 o).1
     omega
    have u:=y i v j[i] o (G0c l)
    rcases t i j[i] b (G0c l) hb with⟨p,K,rfl⟩|x
    ·exact .pv (J1q g.inv u K)
    exact u.select g.inv q x
   cases d
  cases d
 cases e with
 | normal=>exact z.elim fin S
 | ret=>exact z.elim fin S
 | _=>exact z.elim
def Z6t(E:Env)(f:FuncId):Prop:=∃fn,E.P.funcs[f]?=some fn/\fn.body.isSome=true/\(fn.name=="runtime.NumGoroutine")=false
end
end Go.Abs
namespace Go.Abs
def zokB:Value->PV->Bool
 | .bool a,.bool b=>a==b
 | .int k a,.int d b=>decide (k=d)&&a==b
 | .string s,.str l=>s.data.toList==l
 | .slice none 0 0,.slice []=>true
 | .nilIface,.nil=>true
 | .pointer none,.nilp=>true
 | _,_=>false
theorem J8i{v:Value}{p:PV}(h:zokB v p=true):Zero1 v p:=by
 unfold zokB at h
 split at h
 ·simp only[G3h]at h
  subst h
  exact⟨rfl,λ_ _=>.bool _,λh=>by cases h⟩
 ·simp only[G0k,G0s,G3h]at h
  obtain⟨rfl,rfl⟩:=h
  exact⟨rfl,λ_ _=>.int _ _,λh=>by cases h⟩
 ·rename_i s l
  have:s.data.toList=l:=by simpa using h
  subst this
  exact⟨rfl,λ_ _=>.str _,λh=>by cases h⟩
 ·exact⟨rfl,λ_ _=>.sliceNil,λ_=>rfl⟩
 ·exact⟨rfl,λ_ _=>.nil,λh=>by cases h⟩
 ·exact⟨rfl,λ_ _=>.nilp,λh=>by cases h⟩
 cases h
def Z7z:List Value->List PV->Bool
 | [],[]=>true
 | v::vs,p::ps=>zokB v p&&Z7z vs ps
 | _,_=>false
theorem Z3e:∀ {vs:List Value} {ps:List PV},Z7z vs ps=true->vs.length=ps.length/\∀ (k:Nat) v c,vs[k]?=some v->ps[k]?=some c->Zero1 v c
 | [],[],_=>⟨rfl,λk v c e=>by simp at e⟩
 | v::vs,p::ps,h=>by
   simp only[Z7z,G0k]at h
   obtain⟨f,g⟩:=Z3e h.2
   refine⟨by simp[f],λk u c b d=>?_⟩
   cases k with
   | zero=>simp only[G0n,G0b]at b d;subst b d;exact J8i h.1
   | succ k=>rw[G0y]at b d;exact g k u c b d
 | [],_::_,h=>by simp[Z7z]at h
 | _::_,[],h=>by simp[Z7z]at h
def Z2n(P:Program):List Field->List (Nat×Nat)->Bool
 | [],[]=>true
 | f::b,p::ps=>f.offset==p.1&&(match P.info? f.type with|some i=>i.size==p.2|none=>false)&&Z2n P b ps
 | _,_=>false
theorem Z1q{P:Program}:∀ {b:List Field} {ps:List (Nat×Nat)},Z2n P b ps=true->b.length=ps.length/\∀ (j:Nat) (f:Field) (p:Nat×Nat),b[j]?=some f->ps[j]?=some p->f.offset=p.1/\∃l,P.info? f.type=some l/\l.size=p.2
 | [],[],_=>⟨rfl,λk v c m=>by simp at m⟩
 | f::b,p::ps,h=>by
   simp only[Z2n,G0k,G3h]at h
   obtain⟨n,o⟩:=Z1q h.2
   refine⟨by simp[n],λk u c d e=>?_⟩
   cases k with
   | zero=>
     simp only[G0n,G0b]at d e
     subst d e
     refine⟨h.1.1,?_⟩
     have g:=h.1.2
     split at g
     ·rename_i i q
      exact⟨i,q,by simpa using g⟩
     cases g
   | succ k=>rw[G0y]at d e;exact o k u c d e
 | [],_::_,h=>by simp[Z2n]at h
 | _::_,[],h=>by simp[Z2n]at h
def tkB(P:Program):TypeDesc->TK->Bool
 | .int k,.int d=>decide (k=d)
 | .bool,.bool=>true
 | .string,.str=>true
 | .slice e,.slice b=>e==b
 | .struct fields,.strct f=>Z2n P fields.toList f
 | .map k e,.map d b=>k==d&&e==b
 | .pointer e,.ptr b=>e==b
 | .interface _,.iface=>true
 | _,.other=>true
 | _,_=>false
theorem X0l{P:Program}{d:TypeDesc}{k:TK}(h:tkB P d k=true):TKok P d k:=by
 cases k with
 | other=>cases d<;>trivial
 | strct m=>
   cases d with
   | struct fields=>
     obtain⟨b,g⟩:=Z1q h
     exact⟨by simpa using b,λj f p i l=>g j f p (by simpa using i) l⟩
   | _=>simp[tkB]at h
 | int k=>cases d<;>simp_all [tkB,TKok]
 | bool=>cases d<;>simp_all [tkB,TKok]
 | str=>cases d<;>simp_all [tkB,TKok]
 | slice e=>cases d<;>simp_all [tkB,TKok]
 | map k e=>cases d<;>simp_all [tkB,TKok]
 | ptr e=>cases d<;>simp_all [tkB,TKok]
 | iface=>cases d<;>simp_all [tkB,TKok]
def J0k:TK->Bool
 | .strct _=>true
 | _=>false
def J6i(P:Program)(t:TypeId)(ti:TI):Bool:=
 match P.info? t,P.underlying t with
 | some i,some d=>i.size==ti.size&&i.bytes==ti.bytes&&tkB P d ti.k &&
   match ti.zero with
   | none=>true
   | some zs=>match i.zero with
     | none=>false
     | some z=>Z7z z.cells.toList zs&&zs.length==ti.size&&(match z with|.agg _=>J0k ti.k|_=>!J0k ti.k)
 | _,_=>false
theorem J1r{P:Program}{t:TypeId}{ti:TI}(h:J6i P t ti=true):TOne P t ti:=by
 unfold J6i at h
 split at h
 ·rename_i i d f hd
  simp only[G0k,G3h]at h
  obtain⟨⟨⟨g,j⟩,l⟩,b⟩:=h
  refine⟨i,d,f,g,j,hd,X0l l,λzs m=>?_⟩
  rw[m]at b
  simp only at b
  split at b
  ·cases b
  rename_i z n
  simp only[G0k,G3h]at b
  obtain⟨⟨o,p⟩,e⟩:=b
  obtain⟨q,r⟩:=Z3e o
  refine⟨z,n,q,p,r,λx s=>?_,λu=>?_⟩
  ·cases z with
   | agg cs=>exact⟨cs,rfl⟩
   | _=>simp[s,J0k]at e
  cases z with
  | agg cs=>
    cases hk:ti.k<;>simp[hk,J0k]at e
    exact absurd hk (u _)
  | _=>rfl
 cases h
def tabT(tab:List (Nat×TI))(t:Nat):Option TI:=(tab.find? λp=>p.1==t).map (·.2)
theorem J8m{P:Program}{tab:List (Nat×TI)}(h:tab.all (λp=>J6i P p.1 p.2)=true)(t:Nat)(ti:TI)(b:tabT tab t=some ti):TOne P t ti:=by
 unfold tabT at b
 obtain⟨p,d,rfl⟩:=G0g.1 b
 have f:=G6t d
 have e:=G7a d
 simp only[G3h]at e
 subst e
 exact J1r (G0t.1 h p f)
end Go.Abs
