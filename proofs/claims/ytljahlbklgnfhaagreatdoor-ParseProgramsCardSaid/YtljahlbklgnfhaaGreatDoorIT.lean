import Derived.Test.YtljahlbklgnfhaaGreatDoorD1
import Derived.Test.YtljahlbklgnfhaaGreatDoorA63
import Derived.Tactics
import Derived.Tactics2
import Derived.Defers
import Derived.Recover
import Derived.Laws.Pointers
set_option linter.unusedVariables false
set_option linter.unusedSimpArgs false
set_option linter.defProp false
namespace Go.Abs.U48
open Go Go.RowKit Go.Proofs
theorem as73(v:Value)(w:World):(Instr.typeAssert (.iface 73 v) 20 73 true).run Tryz.prog w=.ok (.tuple #[v,.bool true]) w:=by kernel_rfl
set_option maxHeartbeats 1000000 in
set_option maxRecDepth 100000 in
theorem X4i(b d f:Addr)(n:Int)(w:World)(g i j:Value)(k:w.cell? b=some g)(l:w.frozen? b=false)
 (m:(w.setCell b (.slice none 0 0)).cell? d=some i) (p:(w.setCell b (.slice none 0 0)).frozen? d=false)
 (q:((w.setCell b (.slice none 0 0)).setCell d (.int .i64 n)).cell? f=some j) (r:((w.setCell b (.slice none 0 0)).setCell d (.int .i64 n)).frozen? f=false):
 CallsD Tryz.prog 45 #[.pointer (some b),.pointer (some d),.pointer (some f)] (.panicking [{ v:=syn n,recovered:=false }]) w λe s w'=>
  e=.returned (.tuple #[])/\s=.panicking [{ v:=syn n,recovered:=true }]/\w'=((w.setCell b (.slice none 0 0)).setCell d (.int .i64 n)).setCell f (.int .i64 47):=by
 refine callsD_of_wpS Tryz.func45 rfl λx cs u=>?_
 apply wpS_seq
 apply wpS_region
 simp[wpOpsS,go_sem,recoverD,u,Tryz.ntmps45,Exit.thenS]
 apply wpS_seq
 apply wpS_region
 simp[wpOpsS,go_sem,Exit.thenS]
 refine wpS_cond (t:=true) (by simp[Act.eval,Array.replicate]) ?_
 simp only[if_true]
 apply wpS_seq
 apply wpS_region
 simp[wpOpsS,go_sem,Exit.thenS,as73,Array.replicate]
 apply wpS_seq
 apply wpS_seq
 apply wpS_region
 simp[wpOpsS,go_sem,Exit.thenS]
 refine wpS_cond (t:=false) (by simp[Act.eval,Act.put]) ?_
 simp only[G2z,G2i]
 refine wpS_of_wp (wp_skip ?_)
 simp only[Exit.thenS]
 apply wpS_region
 simp[wpOpsS,go_sem,Exit.thenS,k,l,m,p,q,r,bodyPostS,results,Tryz.results45]
theorem J9x(b d f:Addr)(w:World):
 CallsD Tryz.prog 45 #[.pointer (some b),.pointer (some d),.pointer (some f)] .returning w λe g w'=>e=.returned (.tuple #[])/\g=.returning/\w'=w:=by
 refine callsD_of_wpS Tryz.func45 rfl λi cs j=>?_
 apply wpS_seq
 apply wpS_region
 simp[wpOpsS,go_sem,recoverD,j,Tryz.ntmps45,Exit.thenS]
 apply wpS_seq
 apply wpS_region
 simp[wpOpsS,go_sem,Exit.thenS]
 refine wpS_cond (t:=false) (by simp[Act.eval,Array.replicate]) ?_
 simp only[G2z,G2i]
 refine wpS_of_wp (wp_skip ?_)
 cases i
 simp_all [bodyPostS,results,Tryz.results45]
theorem wd_T{E:Env}{D:List Deferred}:(E.wd D).T=E.T:=rfl
theorem V9g{E:Env}{D:List Deferred}:(E.wd D).bT=E.bT:=rfl
theorem V9f{E:Env}{D:List Deferred}:(E.wd D).pT=E.pT:=rfl
theorem K5n{E:Env}{D:List Deferred}:(E.wd D).eqT=E.eqT:=rfl
theorem K1j{E:Env}{D:List Deferred}:(E.wd D).ownT=E.ownT:=rfl
def WDS:=And.intro @wd_T (And.intro @V9g (And.intro @V9f (And.intro @K5n @K1j)))
theorem dw{P:Prop}(h:P:=by simp -implicitDefEqProofs only[RUNS,Q1d,Nat.reduceAdd,Nat.reduceLeDiff,Nat.reduceSub,reduceIte,Nat.reduceEqDiff,Nat.reduceLT,reduceCtorEq,Nat.reduceMul,Nat.reduceBEq,Int.reduceEq,Int.reduceToNat,G1r,G2b,if_true,G2i,eq_self,ne_eq,Q3v,Q2w,Q2i,TYS,WDS];exact⟨rfl,rfl⟩):P:=h
theorem dw1{Q P:Prop}(q:Q)(h:Q->P:=by intro q;simp -implicitDefEqProofs only[RUNS,Q1d,Nat.reduceAdd,Nat.reduceLeDiff,Nat.reduceSub,reduceIte,Nat.reduceEqDiff,Nat.reduceLT,reduceCtorEq,Nat.reduceMul,Nat.reduceBEq,Int.reduceEq,Int.reduceToNat,G1r,G2b,if_true,G2i,eq_self,ne_eq,Q3v,Q2w,Q2i,TYS,WDS,q];exact⟨rfl,rfl⟩):P:=h q
theorem AW.use{E:Env}{k:Nat}{γ₀:List Gh}{H₀:List AObj}{Φ₀:Nat->Nat->Prop}{w₀ w:World}{c:Code}{Q:Exit->St->Prop}{σ:St}{a:Act}(h:AW E k c Q σ)(f:H₀.length=k)(g:Rel E γ₀ H₀ Φ₀ w₀ σ a w){d:Exit->Act->World->Prop}(i:∀e b w' σ',Rel E γ₀ H₀ Φ₀ w₀ σ' b w'->Q e σ'->d e b w'):c.wp E.P d a w:=
 wp_mono (h γ₀ H₀ Φ₀ w₀ a w f g) (λe b w' ⟨σ',j,hq⟩=>i e b w' σ' j hq)
def EndQ(b:List Cmd)(d e:Int):Exit->St->Prop
 | .ret,σ=>(∃t r,σ=⟨sl [(4,.ref 0 0),(5,.ref 1 0),(6,.ref 2 0)],t,.var [.pv (.slice (List.map Cmd.pv b))]::.var [.pv (.int .i64 d)]::.var [.pv (.int .i64 e)]::r⟩)
 | .panic f,σ=>∃n t x r,f=[{ v:=syn n,recovered:=false }]/\b=[]/\d=n/\e=47/\σ=⟨sl [(4,.ref 0 0),(5,.ref 1 0),(6,.ref 2 0)],t,.var [x]::.var [.pv (.int .i64 0)]::.var [.pv (.int .i64 0)]::r⟩
 | _,_=>False
noncomputable def itC:Code:=match Tryz.f20.body with
 | some (.seq _ (.seq _ c))=>c
 | _=>.skip
set_option maxHeartbeats 4000000 in
theorem J9n(D:List Deferred)(c:AllG (env.wd D) [S46,S47 (K200 BIG),S48])(d:Str)(b:List Token)(g:List Cmd)(i j:Int)(h:F20 d b=some (g,i,j)):
 AW (env.wd D) 3 itC (EndQ g i j) ⟨sl [(0,.pv (.str d)),(1,.pv (.slice (List.map Token.pv b))),(4,.ref 0 0),(5,.ref 1 0),(6,.ref 2 0)],28,[.var [.nils],.var [.pv (.int .i64 0)],.var [.pv (.int .i64 0)]]⟩:=by
 obtain⟨O,X,hS,hX,hpf,hk⟩:=orcs (pf:=pfn) c
 have s:O.pf 46=false:=pft hpf 46 rfl
 have t:O.pf 47=false:=pft hpf 47 rfl
 have K:O.pf 48=false:=pft hpf 48 rfl
 rw[F20]at h
 show AW (env.wd D) 3 (.seq _ _) _ _
 refine AW.seq ?_
 replace h:=obs h;obtain⟨e,u,h⟩:=h
 have f3:=(hk 0 46 rfl).ret (d,b) u rfl rfl
 try dsimp only at f3
 have x:Q0x O [.var [.nils],.var [.pv (.int .i64 0)],.var [.pv (.int .i64 0)]] 46 [.pv (.str d),.pv (.slice (List.map Token.pv b))]=some (Q1c [.pv (.slice (List.map PV.str e))],[.var [.nils],.var [.pv (.int .i64 0)],.var [.pv (.int .i64 0)]]):=Q0k rfl rfl rfl f3 rfl rfl rfl
 apply AW.rg hS [1,4,5,6,7]
 ·exact dw1 (an s x)
 refine AW.seq ?_
 have k:=hk 1 47 rfl
 generalize l:F47 (K200 BIG) false d b e 0=y at h
 match y,l,h with
 | none,_,h=>cases h
 | some (.inl p),l,h=>
   have h:some (([]:List Cmd),p,(47:Int))=some (g,i,j):=h
   simp only[G0b,G1d]at h
   have A:=k.boom (false,d,b,e,0) l rfl rfl
   have C:Z7q X [.var [.nils],.var [.pv (.int .i64 0)],.var [.pv (.int .i64 0)],.var [.pv (.str d),.pv (.slice (List.map Token.pv b)),.pv (.slice (List.map PV.str e)),.pv (.int .i64 0)]] 47 [.ref 3 0,.pv (.bool false)]=some (syn p,[.var [.nils],.var [.pv (.int .i64 0)],.var [.pv (.int .i64 0)],.gone]):=J6g rfl rfl rfl A rfl
   refine AW.regSk hS hX 1 [4,5,6] (v:=syn p) (H':=[.var [.nils],.var [.pv (.int .i64 0)],.var [.pv (.int .i64 0)],.gone]) (L:=[(4,.ref 0 0),(5,.ref 1 0),(6,.ref 2 0)]) rfl ?_ ⟨p,_,_,_,rfl,h.1.symm,h.2.1.symm,h.2.2.symm,rfl⟩
   simp -implicitDefEqProofs only[RUNS,Q1d,Nat.reduceAdd,Nat.reduceLeDiff,Nat.reduceSub,reduceIte,Nat.reduceEqDiff,Nat.reduceLT,reduceCtorEq,Nat.reduceMul,Nat.reduceBEq,Int.reduceEq,Int.reduceToNat,G1r,G2b,if_true,G2i,eq_self,ne_eq,Q3v,Q2w,Z1l,TYS,WDS]
   exact Q6w.call rfl rfl (by simp -implicitDefEqProofs only[RUNS,Q1d,Nat.reduceAdd,Nat.reduceLeDiff,Nat.reduceSub,reduceIte,Nat.reduceEqDiff,Nat.reduceLT,reduceCtorEq,Nat.reduceMul,Nat.reduceBEq,Int.reduceEq,Int.reduceToNat,G1r,G2b,if_true,G2i,eq_self,ne_eq,TYS,WDS,C])
 | some (.inr (m,f)),l,h=>
   have h:(bif decide (f<(b.length:Int))then
    match F48 d b e f with
    | some (.inl n)=>some (([]:List Cmd),n,(47:Int))
    | _=>none
   else
    some (m,0,0))=some (g,i,j):=h
   replace k:=k.ret (false,d,b,e,0) l rfl rfl
   try dsimp only at k
   have E:Q0x O [.var [.nils],.var [.pv (.int .i64 0)],.var [.pv (.int .i64 0)],.var [.pv (.str d),.pv (.slice (List.map Token.pv b)),.pv (.slice (List.map PV.str e)),.pv (.int .i64 0)]] 47 [.ref 3 0,.pv (.bool false)]=some (Q1c [.pv (.slice (List.map Cmd.pv m))],[.var [.nils],.var [.pv (.int .i64 0)],.var [.pv (.int .i64 0)],.var [.pv (.str d),.pv (.slice (List.map Token.pv b)),.pv (.slice (List.map PV.str e)),.pv (.int .i64 f)]]):=Q0k rfl rfl rfl k rfl rfl rfl
   apply AW.rg hS [1,4,5,6,7]
   ·exact dw1 (an t E)
   refine AW.seq ?_
   refine AW.seq ?_
   apply AW.rg hS [4,5,6,7,24]
   ·exact dw
   refine AW.iff_ h rfl rfl (λF h=>?_) (λF h=>?_)
   ·have H:=hk 2 48 rfl
    generalize r:F48 d b e f=z at h
    match z,r,h with
    | none,_,h=>cases h
    | some (.inr _),_,h=>cases h
    | some (.inl q),r,h=>
      have h:some (([]:List Cmd),q,(47:Int))=some (g,i,j):=h
      simp only[G0b,G1d]at h
      have I:=H.boom (d,b,e,f) r rfl rfl
      have J:Z7q X [.var [.pv (.slice (List.map Cmd.pv m))],.var [.pv (.int .i64 0)],.var [.pv (.int .i64 0)],.var [.pv (.str d),.pv (.slice (List.map Token.pv b)),.pv (.slice (List.map PV.str e)),.pv (.int .i64 f)]] 48 [.ref 3 0]=some (syn q,[.var [.pv (.slice (List.map Cmd.pv m))],.var [.pv (.int .i64 0)],.var [.pv (.int .i64 0)],.gone]):=J6g rfl rfl rfl I rfl
      refine AW.regSk hS hX 1 [4,5,6] (v:=syn q) (H':=[.var [.pv (.slice (List.map Cmd.pv m))],.var [.pv (.int .i64 0)],.var [.pv (.int .i64 0)],.gone]) (L:=[(4,.ref 0 0),(5,.ref 1 0),(6,.ref 2 0)]) rfl ?_ ⟨q,_,_,_,rfl,h.1.symm,h.2.1.symm,h.2.2.symm,rfl⟩
      simp -implicitDefEqProofs only[RUNS,Q1d,Nat.reduceAdd,Nat.reduceLeDiff,Nat.reduceSub,reduceIte,Nat.reduceEqDiff,Nat.reduceLT,reduceCtorEq,Nat.reduceMul,Nat.reduceBEq,Int.reduceEq,Int.reduceToNat,G1r,G2b,if_true,G2i,eq_self,ne_eq,Q3v,Q2w,Z1l,TYS,WDS]
      exact Q6w.call rfl rfl (by simp -implicitDefEqProofs only[RUNS,Q1d,Nat.reduceAdd,Nat.reduceLeDiff,Nat.reduceSub,reduceIte,Nat.reduceEqDiff,Nat.reduceLT,reduceCtorEq,Nat.reduceMul,Nat.reduceBEq,Int.reduceEq,Int.reduceToNat,G1r,G2b,if_true,G2i,eq_self,ne_eq,TYS,WDS,J])
   refine AW.skip ?_
   refine AW.seq ?_
   apply AW.rg hS [4,5,6]
   ·exact dw
   refine AW.ret ?_
   cases h
   exact⟨_,_,rfl⟩
theorem J0z{γ:List Gh}{H:List AObj}{Φ:Nat->Nat->Prop}{w:World}{v:Value}{l:Nat}(h:ARel γ H Φ w v (.ref l 0)):∃b,v=.pointer (some ⟨b,0,none⟩)/\gv γ l=some v:=by
 cases h with
 | ref b l off d=>exact⟨b,rfl,d⟩
section
variable {P:Program}{ops:Array Oper}{Q:Exit->Act->World->Prop}{o:Oper}{rest:List Oper}{a:Act}{w w':World}
theorem X6m(b:o.guard=none){v:Value}(d:(execOp a.eval o).run P w=.ok (.value v) w')(h:wpList P ops Q rest (a.put o.dst v) w'):wpList P ops Q (o::rest) a w:=by
 refine wpList_step λK e=>?_
 rw[if_pos (by simp[Region.wanted,b])]
 unfold Oper.wp
 rw[d]
 exact e _ _ h
theorem X6l(b:o.guard=none){d:Deferred}(e:(execOp a.eval o).run P w=.ok (.defer d) w')(h:wpList P ops Q rest ({ a with defers:=d::a.defers }.put o.dst undef) w'):wpList P ops Q (o::rest) a w:=by
 refine wpList_step λK f=>?_
 rw[if_pos (by simp[Region.wanted,b])]
 unfold Oper.wp
 rw[e]
 exact f _ _ h
end
theorem J2v{D:List Deferred}{Φ:Nat->Nat->Prop}{w w':World}{γ:List Gh}{Φ':Nat->Nat->Prop}{σ:St}{a:Act}{d:List Cmd}{e f:Int}(j:Ok (env.wd D) [] [] Φ w γ σ.h Φ' w')(hs:Slots γ σ.h Φ' w' a σ.t)
 (n:Q8f (env.wd D) σ Tryz.f20.results.toList=some [.pv (.slice (List.map Cmd.pv d)),.pv (.int .i64 e),.pv (.int .i64 f)]):
 ∃v,(results Tryz.f20 a.tmps).run env.P w'=.ok v w'/\∃vs k l,Ending.returned v=.returned (retV vs)/\Ok env [] [] Φ w k [] l w'/\vs.length=[AV.pv (.slice (List.map Cmd.pv d)),.pv (.int .i64 e),.pv (.int .i64 f)].length/\
  ∀ (i:Nat) (v:Value) (a:AV),vs[i]?=some v->[AV.pv (.slice (List.map Cmd.pv d)),.pv (.int .i64 e),.pv (.int .i64 f)][i]?=some a->ARel k [] l w' v a:=by
 obtain⟨vs,g,q,r⟩:=Q4w j.inv hs Tryz.f20.results.toList _ n
 have s:(results Tryz.f20 a.tmps).run env.P w'=.ok (retV vs) w':=by
  have t:(Tryz.f20.results.mapM (resF a.tmps)).run env.P w'=.ok ⟨vs⟩ w':=by
   rw[G4b,Sem.run_map]
   have g:(List.mapM (resF a.tmps) Tryz.f20.results.toList).run env.P w'=.ok vs w':=g
   rw[g]
   rfl
  rw[Q8e]
  simp only[bind,Sem.run_bind',t,Result.andThen_ok]
  match vs with
  | []=>rfl
  | [v]=>rfl
  | v::v'::vs=>simp[retV]
 have hk:=(Ok.wd.1 j).take (m:=0) (G0o _) rfl rfl
 refine⟨_,s,vs,_,Φ',rfl,hk,q,λi v b u hb=>?_⟩
 have x:∃p,b=.pv p:=by
  match i,hb with
  | 0,hb=>exact⟨_,(G3g hb).symm⟩
  | 1,hb=>exact⟨_,(G3g hb).symm⟩
  | 2,hb=>exact⟨_,(G3g hb).symm⟩
 obtain⟨p,rfl⟩:=x
 exact .pv (Q0o (r i v _ u hb))
theorem Y2m(c:AllG env [S46,S47 (K200 BIG),S48]):Q0c env S20:=by
 refine⟨?_,Tryz.f20,V3o,rfl,by kernel_rfl⟩
 rintro⟨q,s⟩ ⟨E,p,F⟩ h
 replace h:F20 q s=some (E,p,F):=h
 show Good env 20 [.pv (.str q),.pv (.slice (List.map Token.pv s))] [] [.pv (.slice (List.map Cmd.pv E)),.pv (.int .i64 p),.pv (.int .i64 F)] []
 intro w Φ γ aM L hl hr
 obtain rfl:=G1g L.len
 obtain⟨O,X,hS,hX,hpf,hk⟩:=orcs (pf:=pfn) c
 refine calls_of_wp_defers V3o rfl ?_
 have M:=X1o L hl hr (N:=28) (by simp) rfl
 rw[Z6f]at M
 refine wp_seq ?_
 refine AW.use (Q:=λe σ=>e=.normal/\σ=⟨sl [(0,.pv (.str q)),(1,.pv (.slice (List.map Token.pv s))),(4,.ref 0 0),(5,.ref 1 0),(6,.ref 2 0)],28,[.var [.nils],.var [.pv (.int .i64 0)],.var [.pv (.int .i64 0)]]⟩) (k:=0) (by
  show AW env 0 _ _ ⟨sl [(0,.pv (.str q)),(1,.pv (.slice (List.map Token.pv s)))],28,[]⟩
  apply AW.rg hS [0,1,4,5,6]
  ·exact di
  exact⟨rfl,rfl⟩) rfl M ?_
 rintro e f w1 aN al ⟨rfl,rfl⟩
 simp only[Exit.then]
 refine wp_seq ?_
 refine wp_region_list ?_
 obtain⟨⟨H,S,u,hs1⟩,z,I,aO⟩:=al
 obtain⟨g,T,U⟩:=J0z (l:=0) (hs1 4)
 obtain⟨j,V,g1⟩:=J0z (l:=1) (hs1 5)
 obtain⟨m,W,Y⟩:=J0z (l:=2) (hs1 6)
 rw[T]at U
 rw[V]at g1
 rw[W]at Y
 have v4:f.eval (.tmp 4)=.pointer (some ⟨g,0,none⟩):=T
 have v5:f.eval (.tmp 5)=.pointer (some ⟨j,0,none⟩):=V
 have v6:f.eval (.tmp 6)=.pointer (some ⟨m,0,none⟩):=W
 have I:f.defers=[]:=I
 have z:f.tmps.size=28:=z
 show wpList env.P _ _ [_,_] f w1
 refine X6m (v:=.func (.func 45) #[] #[.pointer (some ⟨g,0,none⟩),.pointer (some ⟨j,0,none⟩),.pointer (some ⟨m,0,none⟩)]) (w':=w1) rfl (by simp[execOp,v4,v5,v6];rfl) ?_
 refine X6l (d:=⟨.fn (.func 45) #[.pointer (some ⟨g,0,none⟩),.pointer (some ⟨j,0,none⟩),.pointer (some ⟨m,0,none⟩)],#[]⟩) (w':=w1) rfl (by simp[execOp,resolve,Act.eval,Act.put,z,Deferred.ofValue]) ?_
 generalize hd:(⟨.fn (.func 45) #[.pointer (some ⟨g,0,none⟩),.pointer (some ⟨j,0,none⟩),.pointer (some ⟨m,0,none⟩)],#[]⟩:Deferred)=d
 show Code.wp env.P itC _ _ w1
 have ao:Rel (env.wd [d]) H [.var [.nils],.var [.pv (.int .i64 0)],.var [.pv (.int .i64 0)]] S w1 ⟨sl [(0,.pv (.str q)),(1,.pv (.slice (List.map Token.pv s))),(4,.ref 0 0),(5,.ref 1 0),(6,.ref 2 0)],28,[.var [.nils],.var [.pv (.int .i64 0)],.var [.pv (.int .i64 0)]]⟩
  (Act.put { Act.put f (some 8) (.func (.func 45) #[] #[.pointer (some ⟨g,0,none⟩),.pointer (some ⟨j,0,none⟩),.pointer (some ⟨m,0,none⟩)])with defers:=d::(Act.put f (some 8) (.func (.func 45) #[] #[.pointer (some ⟨g,0,none⟩),.pointer (some ⟨j,0,none⟩),.pointer (some ⟨m,0,none⟩)])).defers } none undef) w1:=by
  refine⟨⟨H,S,.refl (OInv.wd.2 u.inv),λi=>?_⟩,?_,?_,u.inv.len⟩
  ·by_cases hi:i=8
   ·subst hi
    exact .any _
   have:=hs1 i
   show ARel _ _ _ _ ((f.tmps.setIfInBounds 8 _).getD i undef) _
   rw[G2m,G4g,if_neg (λe=>hi e.symm),<-G2m]
   exact this
  ·simp[Act.put,z]
  simp[Act.put,I,Env.wd]
 refine AW.use (J9n [d] c.wd q s E p F h) rfl ao ?_
 intro e a4 w4 aP aq hq
 obtain⟨⟨ar,aQ,C,ac⟩,aR,D,aS⟩:=aq
 have D:a4.defers=[d]:=D
 have J:∀l b,gv H l=some (.pointer (some ⟨b,0,none⟩))->gv ar l=some (.pointer (some ⟨b,0,none⟩)):=λl b hg=>by
  rcases C.evo.gh l _ hg with x|⟨A,n,cc,x⟩
  ·exact x
  cases x
 have ad:(invoke (.fn (.func 45) #[.pointer (some ⟨g,0,none⟩),.pointer (some ⟨j,0,none⟩),.pointer (some ⟨m,0,none⟩)]) #[]).run env.P w4=.ok (.enter 45 #[.pointer (some ⟨g,0,none⟩),.pointer (some ⟨j,0,none⟩),.pointer (some ⟨m,0,none⟩)]) w4:=by
  have hf:env.P.funcs[45]?=some Tryz.f45:=by
   rw[Y5j]
   exact Tryz.func45
  have hb:Tryz.f45.body≠none:=λe=>by have h2:Tryz.f45.body.isNone=false:=rfl;rw[e]at h2;cases h2
  have hn:(Tryz.f45.name=="runtime.NumGoroutine")=false:=by kernel_rfl
  have ax:Tryz.f45.name≠"runtime.NumGoroutine":=by simpa using hn
  simp[invoke,callFunc,hf,hb,ax]
 match e,hq with
 | .ret,⟨t,r,K⟩=>
   subst K
   show Go.Leaves env.P Tryz.f20 a4.tmps _ a4.defers .returning w4
   rw[D,<-hd]
   refine leaves_cons (by simp) ad ?_
   refine(J9x _ _ _ w4).mono ?_
   rintro e u' w5 ⟨rfl,rfl,rfl⟩
   exact J2v ((Ok.wd.2 u).trans C) ac (by rw[show Tryz.f20.results.toList=[.cell 4 23,.cell 5 3,.cell 6 24] from rfl];simp -implicitDefEqProofs only[RUNS,Q1d,Nat.reduceAdd,Nat.reduceLeDiff,Nat.reduceSub,reduceIte,Nat.reduceEqDiff,Nat.reduceLT,reduceCtorEq,Nat.reduceMul,Nat.reduceBEq,Int.reduceEq,Int.reduceToNat,G1r,G2b,if_true,G2i,eq_self,ne_eq,Q8f.eq_1,Q8f.eq_2,Q8f.eq_3,TYS,WDS,T_23,T_3,T_24])
 | .panic ch,⟨n,t,x,r,aA,h3,h4,h5,K⟩=>
   subst K aA h3 h4 h5
   show Go.Leaves env.P Tryz.f20 a4.tmps _ a4.defers (.panicking [{ v:=syn p,recovered:=false }]) w4
   have k1:=C.inv.setVar (l:=0) (x:=x) (y:=.pv (.slice [])) rfl (J 0 g U) (v:=.slice none 0 0) rfl rfl (λ_ _ _ _ _=>.pv .sliceNil)
   have k2:=k1.1.inv.setVar (l:=1) (x:=.pv (.int .i64 0)) (y:=.pv (.int .i64 p)) rfl (J 1 j g1) (v:=.int .i64 p) rfl rfl (λ_ _ _ _ _=>.pv (.int _ _))
   have k3:=k2.1.inv.setVar (l:=2) (x:=.pv (.int .i64 0)) (y:=.pv (.int .i64 47)) rfl (J 2 m Y) (v:=.int .i64 47) rfl rfl (λ_ _ _ _ _=>.pv (.int _ _))
   obtain⟨m1,f1,u1,c1⟩:=k1
   obtain⟨m2,f2,u2,c2⟩:=k2
   obtain⟨m3,f3,u3,c3⟩:=k3
   rw[D,<-hd]
   refine leaves_cons (by simp) ad ?_
   refine(X4i _ _ _ p w4 u1 u2 u3 c1 f1 c2 f2 c3 f3).mono ?_
   rintro e u' w5 ⟨rfl,rfl,rfl⟩
   have aL:=((((Ok.wd.2 u).trans C).trans m1).trans m2).trans m3
   exact J2v (σ:=⟨sl [(4,.ref 0 0),(5,.ref 1 0),(6,.ref 2 0)],t,.var [.pv (.slice [])]::.var [.pv (.int .i64 p)]::.var [.pv (.int .i64 47)]::r⟩) aL (λi=>(((ac i).mono m1.evo).mono m2.evo).mono m3.evo) (by rw[show Tryz.f20.results.toList=[.cell 4 23,.cell 5 3,.cell 6 24] from rfl];simp -implicitDefEqProofs only[RUNS,Q1d,Nat.reduceAdd,Nat.reduceLeDiff,Nat.reduceSub,reduceIte,Nat.reduceEqDiff,Nat.reduceLT,reduceCtorEq,Nat.reduceMul,Nat.reduceBEq,Int.reduceEq,Int.reduceToNat,G1r,G2b,if_true,G2i,eq_self,ne_eq,Q8f.eq_1,Q8f.eq_2,Q8f.eq_3,TYS,WDS,T_23,T_3,T_24])
end Go.Abs.U48
