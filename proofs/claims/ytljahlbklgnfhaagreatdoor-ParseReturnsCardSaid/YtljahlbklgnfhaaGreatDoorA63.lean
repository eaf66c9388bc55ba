import Derived.Test.YtljahlbklgnfhaaGreatDoorA61
import Derived.Defers
import Derived.Recover
set_option linter.unusedVariables false
set_option linter.unusedSimpArgs false
set_option linter.defProp false
namespace Go.Abs
open Go Go.RowKit
def Env.wd(E:Env)(D:List Deferred):Env:={ E with dfs:=D }
section
variable {E:Env}{D:List Deferred}{γ γ₀:List Gh}{H H₀:List AObj}{Φ Φ₀:Nat->Nat->Prop}{w w₀:World}
theorem ObjRel.wd{o:AObj}{g:Gh}:ObjRel (E.wd D) γ H Φ w o g↔ObjRel E γ H Φ w o g:=by
 cases o<;>exact Iff.rfl
theorem OInv.wd:OInv (E.wd D) γ H Φ w↔OInv E γ H Φ w:=
 ⟨λh=>⟨h.len,λl o g a b=>ObjRel.wd.1 (h.obj l o g a b),h.disj,h.own,h.phi,h.gi,h.gn⟩,
  λh=>⟨h.len,λl o g a b=>ObjRel.wd.2 (h.obj l o g a b),h.disj,h.own,h.phi,h.gi,h.gn⟩⟩
theorem Ok.wd:Ok (E.wd D) γ₀ H₀ Φ₀ w₀ γ H Φ w↔Ok E γ₀ H₀ Φ₀ w₀ γ H Φ w:=
 ⟨λh=>⟨OInv.wd.1 h.inv,h.evo,h.since⟩,λh=>⟨OInv.wd.2 h.inv,h.evo,h.since⟩⟩
theorem Good.wd{f:FuncId}{args:List AV}{rs:List AV}{H':List AObj}(h:Good E f args H rs H'):Good (E.wd D) f args H rs H':=by
 intro w Φ γ a b d g
 refine(h w Φ γ a (OInv.wd.1 b) d g).mono ?_
 rintro e w' ⟨vs,i,Φ',j,l,m,n⟩
 exact⟨vs,i,Φ',j,Ok.wd.2 l,m,n⟩
theorem J4e.wd{f:FuncId}{args:List AV}{v:Value}(h:J4e E f args H v):J4e (E.wd D) f args H v:=by
 intro w Φ γ a b d g
 refine(h w Φ γ a (OInv.wd.1 b) d g).mono ?_
 rintro e w' ⟨i,Φ',j,l⟩
 exact⟨i,Φ',j,Ok.wd.2 l⟩
theorem Q0c.wd{S:Spec}(h:Q0c E S):Q0c (E.wd D) S:=by
 refine⟨λx r a=>?_,h.2⟩
 have:=h.1 x r a
 generalize S.R x r=o at this
 cases o with
 | ret rs H'=>exact Good.wd this
 | boom v=>exact J4e.wd this
theorem AllG.wd:∀ {L:List Spec},AllG E L->AllG (E.wd D) L
 | [],_=>trivial
 | _::_,h=>⟨h.1.wd,AllG.wd h.2⟩
theorem X7g(d:OInv E γ H Φ w){args:List AV}{b:List Value}(j:b.length=args.length)(g:∀ (i:Nat) v a,b[i]?=some v->args[i]?=some a->ARel γ H Φ w v a){N:Nat}(l:args.length<=N)(hd0:E.dfs=[]):
 Rel E γ H Φ w ⟨Z5n args,N,H⟩ { tmps:=(⟨b⟩:Array Value)++Array.replicate (N-(⟨b⟩:Array Value).size) undef,defers:=[] } w:=by
 refine⟨⟨γ,Φ,.refl d,λi=>?_⟩,?_,hd0.symm,d.len⟩
 ·show ARel γ H Φ w _ (args.getD i .any)
  rw[G0y]
  by_cases e:i<args.length
  ·rw[G0f e]
   have f:i<b.length:=by omega
   refine g i _ _ ?_ (G0f e)
   rw[G0f f]
   simp[G2w,G7f,f]
  rw[G2c (by omega)]
  exact .any _
 show((⟨b⟩:Array Value)++Array.replicate (N-(⟨b⟩:Array Value).size) undef).size=N
 simp
 omega
theorem X6s{O:Orc}{X:XO}{σ:St}{a:Act}(hX:Q7l E X){ops:Array Oper}{o:Oper}{v:Value}{H':List AObj}{Q:Exit->Act->World->Prop}(hs:Q7k X o σ.t σ.h v H')(C:Rel E γ₀ H₀ Φ₀ w₀ σ a w)
 (n:∀q w',Rel E γ₀ H₀ Φ₀ w₀ ⟨σ.t,σ.n,H'⟩ q w'->Q (.panic [{ v:=v,recovered:=false }]) q w') (K:Act->World->Prop):Region.wanted o (yielded ops a.tmps)=true/\o.wp E.P a w K Q:=by
 obtain⟨F,hs⟩:=hs
 refine⟨by simp[Region.wanted,F],?_⟩
 obtain⟨⟨γ,Φ,d,b⟩,r,hd,y⟩:=C
 rcases hs with⟨f,args,V,g,j⟩|⟨x,I,J,m,g,j,rfl,rfl⟩
 ·have L:(args.toList.map a.eval).length=(args.toList.map (ev σ.t)).length:=by simp
  have M:(⟨args.toList.map a.eval⟩:Array Value)=args.map a.eval:=by
   apply G6h
   simp
  obtain⟨⟨fn,N,hb,P⟩,z⟩:=Z7g hX d.inv L (Q8e b args) j
  unfold Oper.wp
  rw[Z6k g N hb P]
  rw[M]at z
  refine z.mono ?_
  rintro e W ⟨S,Φ',rfl,A⟩
  exact n _ _ ⟨⟨S,Φ',d.trans A,λi=>(b i).mono A.evo⟩,r,hd,y⟩
 have l:=Q0u b x
 rw[j]at l
 have T:a.eval x=.iface I (.int J m):=by
  generalize a.eval x=u at l
  cases l with
  | ifc t u p U=>
    cases U
    rfl
 unfold Oper.wp execOp
 simp only[g,T,Instr.panic]
 exact n _ _ ⟨⟨γ,Φ,d,b⟩,r,hd,y⟩
def X2x(X:XO)(o:Oper)(ks:List Nat)(L:List (Nat×AV))(v:Value)(H':List AObj):Option St->Prop
 | some σ=>Q7k X o σ.t σ.h v H'/\pick ks σ.t=L
 | none=>False
theorem Z2p{X:XO}(o:Oper)(ks:List Nat)(L:List (Nat×AV))(v:Value)(H':List AObj)(σ:St):X2x X o ks L v H' (some σ)=(Q7k X o σ.t σ.h v H'/\pick ks σ.t=L):=rfl
theorem AW.regSk{O:Orc}{X:XO}{k:Nat}{Q:Exit->St->Prop}(hS:Q2d E O)(hX:Q7l E X){id n:Nat}{t:Nat->AV}{h:List AObj}{ops:Array Oper}(i:Nat)(ks:List Nat){o:Oper}{g:List Oper}{v:Value}{H':List AObj}{L:List (Nat×AV)}(j:ops.toList.drop i=o::g)
 (b:X2x X o ks L v H' (arun E O ops (ops.toList.take i) ⟨t,n,h⟩)) (l:Q (.panic [{ v:=v,recovered:=false }]) ⟨sl L,n,H'⟩):AW E k (.region id ops false) Q ⟨t,n,h⟩:=by
 generalize d:arun E O ops (ops.toList.take i) ⟨t,n,h⟩=x at b
 cases x with
 | none=>exact b.elim
 | some σ'=>
   obtain⟨b,rfl⟩:=b
   have m:=J1q d
   intro γ₀ H₀ Φ₀ w₀ a w p q
   refine G8b ?_
   rw[<-G2t i ops.toList]
   refine Z1o hS _ _ a w d q (λf w' r=>?_)
   rw[j]
   refine G7o λK F=>?_
   obtain⟨u,y⟩:=X6s (O:=O) (Q:=λe f w'=>∃σ',Rel E γ₀ H₀ Φ₀ w₀ σ' f w'/\Q e σ') hX b (ops:=ops) r (λz A C=>⟨_,Wq0 (k:=k) (Z0e ks) γ₀ H₀ Φ₀ w₀ z A p C,by rw[m];exact l⟩) K
   rw[if_pos u]
   exact y
theorem OInv.setVar(j:OInv E γ H Φ w){l:Nat}{x y:AV}(p:H[l]?=some (.var [x])){b:Nat}(C:gv γ l=some (.pointer (some ⟨b,0,none⟩))){v:Value}(F:v.oneCell'=true)(I:y.isS=false)
 (J:∀q H' Φ' w',Evo γ H Φ w q H' Φ' w'->ARel q H' Φ' w' v y):Ok E γ H Φ w γ (H.set l (.var [y])) Φ (w.setCell ⟨b,0,none⟩ v)/\w.frozen? ⟨b,0,none⟩=false/\∃u,w.cell? ⟨b,0,none⟩=some u:=by
 obtain⟨g,f,K⟩:=j.gh p
 obtain⟨b',T,vs,r,m,hb,L,U,t⟩:=K
 obtain⟨V,z,d⟩:=Z3x C
 rw[f]at z
 cases z
 rw[r]at d
 injection d with d
 injection d with d
 injection d with d
 subst d
 obtain⟨u,rfl⟩:∃u,vs=[u]:=by
  rcases vs with _|⟨u,_|⟨_,_⟩⟩<;>simp at L
  exact⟨u,rfl⟩
 have M:γ.set l g=γ:=by
  refine G4n λi=>?_
  by_cases A:i=l
  ·subst A
   rw[G1u (G0j.1 f).1,f]
  rw[G2b (Ne.symm A)]
 have N:∀k,k≠b'->(w.setCell ⟨b',0,none⟩ v).heap[k]?=w.heap[k]?:=λk hk=>Below.heap_setCell _ _ _ _ (λe=>hk e)
 have n:(w.setCell ⟨b',0,none⟩ v).heap.size=w.heap.size:=by simp[World.setCell]
 have O:(w.setCell ⟨b',0,none⟩ v).heap[b']?=some (.cells ⟨[v]⟩ T (0,0)):=by
  simp[World.setCell,G4g,hb]
 refine⟨?_,by simp[World.frozen?,hb],u,by simp[World.cell?,hb]⟩
 have:=j.setObj (o':=.var [y]) (g':=g) (w':=w.setCell ⟨b',0,none⟩ v) (Φ':=Φ) p f (λc a P=>N c (λe=>P (by rw[m,e];simp))) (by rw[n];exact G0r _) rfl rfl rfl (λ_ _ h=>h) (λ_ _ h _ _=>h) (λc k h=>by rw[n];exact j.phi c k h)
  (λc k Q a=>by rw[m]at a;simp at a;subst a;exact absurd Q (t.1 k)) (λc a=>⟨.inl a,by rw[n];exact(j.own l g f c a).2⟩) (.inl rfl) (λ_ _ _ h=>by cases h)
  (λS=>⟨b',T,[v],r,m,O,rfl,λk u c o a=>by
    match k,o,a with
    | 0,o,a=>
      cases o
      cases a
      exact⟨F,J _ _ _ _ S⟩,t.1,λc a hs=>by rw[G1p.1 a,I]at hs;cases hs⟩)
 rwa [M]at this
end
end Go.Abs
namespace Go.Abs
open Go.RowKit
def Q4n:List AV->Option (List AV)
 | []=>some []
 | .pv p::r=>(Q4n r).map (.pv p::·)
 | .nils::r=>(Q4n r).map (.pv (.slice [])::·)
 | .full xs::r=>(Q4n r).map (.pv (.slice xs)::·)
 | .fn g []::r=>(Q4n r).map (.fn g []::·)
 | _=>none
theorem pu0:Q4n []=some []:=rfl
theorem pu1(p:PV)(r:List AV):Q4n (.pv p::r)=(Q4n r).map (.pv p::·):=rfl
theorem pu2(r:List AV):Q4n (.nils::r)=(Q4n r).map (.pv (.slice [])::·):=rfl
theorem pu3(xs:List PV)(r:List AV):Q4n (.full xs::r)=(Q4n r).map (.pv (.slice xs)::·):=rfl
theorem pu4(g:FuncId)(r:List AV):Q4n (.fn g []::r)=(Q4n r).map (.fn g []::·):=rfl
def PU:=aj pu0 (aj @pu1 (aj @pu2 (aj @pu3 @pu4)))
theorem Q7f{H:List AObj}{f:Nat->Option Nat}:∀ {az bs:List AV},Q4n az=some bs->Q1t H az=[]/\Q1a H f az=some bs
 | [],bs,h=>by
   cases h
   exact⟨rfl,rfl⟩
 | a::r,bs,h=>by
   have b:∀ (x:AV),Q4n (a::r)=(Q4n r).map (x::·)->(∀s,Q1a H f r=some s->Q1a H f (a::r)=some (x::s))->(Q1t H (a::r)=Q1t H r)->Q1t H (a::r)=[]/\Q1a H f (a::r)=some bs:=by
    intro x d e i
    rw[d]at h
    obtain⟨cs,j,rfl⟩:=G0k.1 h
    obtain⟨l,m⟩:=Q7f (H:=H) (f:=f) j
    exact⟨by rw[i,l],e _ m⟩
   cases a with
   | pv p=>exact b (.pv p) rfl (λs hs=>by simp[Q1a,toPV,AV.ren,renN,hs]) (by simp[Q1t,toPV])
   | nils=>exact b (.pv (.slice [])) rfl (λs hs=>by simp[Q1a,toPV,AV.ren,renN,hs]) (by simp[Q1t,toPV])
   | full xs=>exact b (.pv (.slice xs)) rfl (λs hs=>by simp[Q1a,toPV,AV.ren,renN,hs]) (by simp[Q1t,toPV])
   | fn g n=>
     cases n with
     | nil=>exact b (.fn g []) rfl (λs hs=>by simp[Q1a,toPV,AV.ren,renN,hs]) (by simp[Q1t,toPV])
     | cons c cs=>simp[Q4n]at h
   | _=>simp[Q4n]at h
def obj1:AObj->Bool
 | .var cs=>Z0j cs
 | _=>true
theorem Z6p{f:Nat->Option Nat}{o:AObj}(h:obj1 o=true):o.ren f=some o:=by
 cases o with
 | var cs=>simp only[AObj.ren,Z3p (az:=cs) h,G1s]
 | _=>rfl
theorem Z6q{f:Nat->Nat}{o:AObj}(h:obj1 o=true):o.mapL f=o:=by
 cases o with
 | var cs=>simp only[AObj.mapL,Q5r (az:=cs) h]
 | _=>rfl
theorem X4t{o:AObj}{rest:List AObj}(h:obj1 o=true):Q1k (o::rest) [0]=[]:=by
 cases o with
 | var cs=>simp only[Q1k,G0s,Q7r (az:=cs) h,G0n]
 | _=>rfl
theorem Y8k{o o':AObj}{rest:List AObj}(h:obj1 o'=true):Q0r (o::rest) [0] [o']=o'::rest:=by
 unfold Q0r
 rw[show List.drop [0].length [o']=[] from rfl,G3q,G0n]
 refine G5x (by simp) λk b a=>?_
 rw[G6n,G5z]
 cases k with
 | zero=>exact Z6q h
 | succ k=>
   have:idx [0] (k+1)=none:=by
    simp[idx]
   rw[this]
   have hk:k<rest.length:=by simpa using a
   simp[hk]
theorem ecp{O:Orc}{f:FuncId}{az:List AV}{rs:List AV}(h:O.C f az []=some (rs,[]))(d:Z0j rs=true)(H:List AObj)(args:List AV)(e:Q4n args=some az):Q4u O H f args=some (Q6w rs,H):=by
 obtain⟨b,a⟩:=Q7f (H:=H) (f:=idx []) e
 have g:Q0r H [] []=H:=by
  unfold Q0r
  simp only[G0z,G2u,G3q,G0n]
  refine G5x (by simp) λk b a=>?_
  rw[G6n,G5z]
  simp[idx,a]
 unfold Q4u
 simp only[b,Q1k,G0n]
 have hd:Q6f []=[]:=rfl
 simp only[hd,Q1c,a,h,G0z,G0r,if_true,g,Q5r d]
theorem ec1{O:Orc}{f:FuncId}{k:Nat}{az:List AV}{o o':AObj}{rs:List AV}(h:O.C f (.ref 0 k::az) [o]=some (rs,[o']))(a:obj1 o=true)(d:Z0j rs=true)(e:obj1 o'=true)(rest:List AObj)(args:List AV)(g:Q4n args=some az):Q4u O (o::rest) f (.ref 0 k::args)=some (Q6w rs,o'::rest):=by
 obtain⟨i,j⟩:=Q7f (H:=o::rest) (f:=idx [0]) g
 have l:Q1t (o::rest) (.ref 0 k::args)=[0]:=by
  simp only[Q1t,toPV]
  rw[i]
  rfl
 have m:Q1a (o::rest) (idx [0]) (.ref 0 k::args)=some (.ref 0 k::az):=by
  rw[show Q1a (o::rest) (idx [0]) (.ref 0 k::args)=(match (some (AV.ref 0 k):Option AV),Q1a (o::rest) (idx [0]) args with|some b,some s=>some (b::s)|_,_=>none) from rfl,j]
 have n:Q1c (o::rest) (idx [0]) [0]=some [o]:=by
  simp only[Q1c,G0s,G0a,Z6p a]
 unfold Q4u
 simp only[l,X4t a,G0n]
 have p:Q6f [0]=[0]:=rfl
 simp only[p,m,n,h,G0i,G0z,G0r,if_true,Y8k e,Q5r d]
def in12:List AV->Bool
 | []=>true
 | .pv _::r=>in12 r
 | .nils::r=>in12 r
 | .vec 1 _::r=>in12 r
 | .vec 2 _::r=>in12 r
 | _=>false
theorem Z2q:∀ {cs:List AV},in12 cs=true->renL (idx [0,1,2]) cs=some cs
 | [],_=>rfl
 | .pv p::r,h=>by
   simp only[renL,AV.ren]
   rw[Z2q (cs:=r) h]
 | .nils::r,h=>by
   simp only[renL,AV.ren]
   rw[Z2q (cs:=r) h]
 | .vec 1 n::r,h=>by
   rw[renL,Z2q (cs:=r) h]
   rfl
 | .vec 2 n::r,h=>by
   rw[renL,Z2q (cs:=r) h]
   rfl
theorem Z2r{m:Nat}:∀ {cs:List AV},in12 cs=true->cs.map (AV.mapL (Q6z m [0,1,2]))=cs
 | [],_=>rfl
 | .pv p::r,h=>by
   rw[G2i,Z2r (cs:=r) h]
   rfl
 | .nils::r,h=>by
   rw[G2i,Z2r (cs:=r) h]
   rfl
 | .vec 1 n::r,h=>by
   rw[G2i,Z2r (cs:=r) h]
   rfl
 | .vec 2 n::r,h=>by
   rw[G2i,Z2r (cs:=r) h]
   rfl
theorem Y8j{a b c d b' c':AObj}{rest:List AObj}(g:d.mapL (Q6z (rest.length+3) [0,1,2])=d)(hb:obj1 b'=true)(i:obj1 c'=true):Q0r (a::b::c::rest) [0,1,2] [d,b',c']=d::b'::c'::rest:=by
 unfold Q0r
 rw[show List.drop [0,1,2].length [d,b',c']=[] from rfl,G3q,G0n]
 refine G5x (by simp) λk f e=>?_
 rw[G6n,G5z]
 match k,f,e with
 | 0,_,_=>exact g
 | 1,_,_=>exact Z6q hb
 | 2,_,_=>exact Z6q i
 | k+3,f,e=>
   have:idx [0,1,2] (k+3)=none:=by
    simp[idx]
   rw[this]
   have hk:k<rest.length:=by simpa using e
   simp[hk]
theorem ec3{O:Orc}{f:FuncId}{k:Nat}{az:List AV}{cs cs':List AV}{b c b' c':AObj}{rs:List AV}(h:O.C f (.ref 0 k::az) [.var cs,b,c]=some (rs,[.var cs',b',c']))(a:(in12 cs&&decide (Q5c cs=[1,2]))=true)(hb:obj1 b=true)(d:obj1 c=true)(e:Z0j rs=true)(g:in12 cs'=true)(i:obj1 b'=true)(j:obj1 c'=true)(rest:List AObj)(args:List AV)(l:Q4n args=some az):
 Q4u O (.var cs::b::c::rest) f (.ref 0 k::args)=some (Q6w rs,.var cs'::b'::c'::rest):=by
 rw[G0d,G0l]at a
 obtain⟨m,n⟩:=Q7f (H:=.var cs::b::c::rest) (f:=idx [0,1,2]) l
 have o:Q1t (.var cs::b::c::rest) (.ref 0 k::args)=[0]:=by
  simp only[Q1t,toPV]
  rw[m]
  rfl
 have p:Q1k (.var cs::b::c::rest) [0]=[1,2]:=by
  simp only[Q1k,G0s,a.2,G0n]
 have q:Q1a (.var cs::b::c::rest) (idx [0,1,2]) (.ref 0 k::args)=some (.ref 0 k::az):=by
  rw[show Q1a (.var cs::b::c::rest) (idx [0,1,2]) (.ref 0 k::args)=(match (some (AV.ref 0 k):Option AV),Q1a (.var cs::b::c::rest) (idx [0,1,2]) args with|some b,some s=>some (b::s)|_,_=>none) from rfl,n]
 have r:Q1c (.var cs::b::c::rest) (idx [0,1,2]) [0,1,2]=some [.var cs,b,c]:=by
  have t:(AObj.var cs).ren (idx [0,1,2])=some (.var cs):=by simp only[AObj.ren,Z2q a.1,G1s]
  simp only[Q1c,G0s,G1f,G0a,t,Z6p hb,Z6p d]
 have u:AObj.mapL (Q6z (rest.length+3) [0,1,2]) (.var cs')=.var cs':=by
  simp only[AObj.mapL,Z2r g]
 unfold Q4u
 simp only[o,p]
 have x:Q6f ([0]++[1,2])=[0,1,2]:=rfl
 simp only[x,q,r,h,G0i,G0z,G0r,if_true,Y8j u i j,Q5r e]
end Go.Abs
