import Derived.Test.YtljahlbklgnfhaaGreatDoorD1
import Derived.Test.YtljahlbklgnfhaaGreatDoorA63
import Derived.Tactics
import Derived.Tactics2
import Derived.Defers
import Derived.Recover
import Derived.Laws.Pointers
set_option linter.unusedVariables false
set_option linter.unusedSimpArgs false
set_option linter.defProp false
namespace Go.Abs.U48
open Go Go.RowKit Go.Proofs
open Go.Proofs.Tryz
theorem as73(v:Value)(w:World):(Instr.typeAssert (.iface 73 v) 20 73 true).run prog w=.ok (.tuple #[v,.bool true]) w:=by kernel_rfl
set_option maxHeartbeats 1000000 in
set_option maxRecDepth 100000 in
theorem K0g(b d f:Addr)(n:Int)(w:World)(g i j:Value)(l:w.cell? b=some g)(m:w.frozen? b=false)
 (p:(w.setCell b (.slice none 0 0)).cell? d=some i) (q:(w.setCell b (.slice none 0 0)).frozen? d=false)
 (r:((w.setCell b (.slice none 0 0)).setCell d (.int .i64 n)).cell? f=some j) (u:((w.setCell b (.slice none 0 0)).setCell d (.int .i64 n)).frozen? f=false):
 CallsD prog 45 #[.pointer (some b),.pointer (some d),.pointer (some f)] (.panicking [{ v:=syn n,recovered:=false }]) w λe x w'=>
  e=.returned (.tuple #[])/\x=.panicking [{ v:=syn n,recovered:=true }]/\w'=((w.setCell b (.slice none 0 0)).setCell d (.int .i64 n)).setCell f (.int .i64 47):=by
 refine callsD_of_wpS func45 rfl λz cs y=>?_
 apply wpS_seq
 apply wpS_region
 simp[wpOpsS,go_sem,recoverD,y,Tryz.ntmps45,Exit.thenS]
 apply wpS_seq
 apply wpS_region
 simp[wpOpsS,go_sem,Exit.thenS]
 refine wpS_cond (t:=true) (by simp[Act.eval,Array.replicate]) ?_
 simp only[if_true]
 apply wpS_seq
 apply wpS_region
 simp[wpOpsS,go_sem,Exit.thenS,as73,Array.replicate]
 apply wpS_seq
 apply wpS_seq
 apply wpS_region
 simp[wpOpsS,go_sem,Exit.thenS]
 refine wpS_cond (t:=false) (by simp[Act.eval,Act.put]) ?_
 simp only[G3a,G2v]
 refine wpS_of_wp (wp_skip ?_)
 simp only[Exit.thenS]
 apply wpS_region
 simp[wpOpsS,go_sem,Exit.thenS,l,m,p,q,r,u,bodyPostS,results,Tryz.results45]
theorem X5h(b d f:Addr)(w:World):
 CallsD prog 45 #[.pointer (some b),.pointer (some d),.pointer (some f)] .returning w λe g w'=>e=.returned (.tuple #[])/\g=.returning/\w'=w:=by
 refine callsD_of_wpS func45 rfl λi cs j=>?_
 apply wpS_seq
 apply wpS_region
 simp[wpOpsS,go_sem,recoverD,j,Tryz.ntmps45,Exit.thenS]
 apply wpS_seq
 apply wpS_region
 simp[wpOpsS,go_sem,Exit.thenS]
 refine wpS_cond (t:=false) (by simp[Act.eval,Array.replicate]) ?_
 simp only[G3a,G2v]
 refine wpS_of_wp (wp_skip ?_)
 cases i
 simp_all [bodyPostS,results,Tryz.results45]
theorem wd_T{E:Env}{D:List Deferred}:(E.wd D).T=E.T:=rfl
theorem Y4p{E:Env}{D:List Deferred}:(E.wd D).bT=E.bT:=rfl
theorem Y4o{E:Env}{D:List Deferred}:(E.wd D).pT=E.pT:=rfl
theorem V4h{E:Env}{D:List Deferred}:(E.wd D).eqT=E.eqT:=rfl
theorem K8w{E:Env}{D:List Deferred}:(E.wd D).ownT=E.ownT:=rfl
def WDS:=aj @wd_T (aj @Y4p (aj @Y4o (aj @V4h @K8w)))
theorem dw{P:Prop}(h:P:=by simp -implicitDefEqProofs only[RUNS,Q1j,Nat.reduceAdd,Nat.reduceLeDiff,Nat.reduceSub,reduceIte,Nat.reduceEqDiff,Nat.reduceLT,reduceCtorEq,Nat.reduceMul,Nat.reduceBEq,Int.reduceEq,Int.reduceToNat,G2g,G2p,if_true,G2v,eq_self,ne_eq,Q6k,Q4o,Q4q,TYS,WDS];exact⟨rfl,rfl⟩):P:=h
theorem dw1{Q P:Prop}(q:Q)(h:Q->P:=by intro q;simp -implicitDefEqProofs only[RUNS,Q1j,Nat.reduceAdd,Nat.reduceLeDiff,Nat.reduceSub,reduceIte,Nat.reduceEqDiff,Nat.reduceLT,reduceCtorEq,Nat.reduceMul,Nat.reduceBEq,Int.reduceEq,Int.reduceToNat,G2g,G2p,if_true,G2v,eq_self,ne_eq,Q6k,Q4o,Q4q,TYS,WDS,q];exact⟨rfl,rfl⟩):P:=h q
theorem AW.use{E:Env}{k:Nat}{γ₀:List Gh}{H₀:List AObj}{Φ₀:Nat->Nat->Prop}{w₀ w:World}{c:Code}{Q:Exit->St->Prop}{σ:St}{a:Act}(h:AW E k c Q σ)(f:H₀.length=k)(g:Rel E γ₀ H₀ Φ₀ w₀ σ a w){d:Exit->Act->World->Prop}(i:∀e b w' σ',Rel E γ₀ H₀ Φ₀ w₀ σ' b w'->Q e σ'->d e b w'):c.wp E.P d a w:=
 wp_mono (h γ₀ H₀ Φ₀ w₀ a w f g) (λe b w' ⟨σ',j,hq⟩=>i e b w' σ' j hq)
def EndQ(b:List Cmd)(d e:Int):Exit->St->Prop
 | .ret,σ=>(∃t r,σ=⟨sl [(4,.ref 0 0),(5,.ref 1 0),(6,.ref 2 0)],t,.var [.pv (.slice (List.map Cmd.pv b))]::.var [.pv (.int .i64 d)]::.var [.pv (.int .i64 e)]::r⟩)
 | .panic f,σ=>∃n t x r,f=[{ v:=syn n,recovered:=false }]/\b=[]/\d=n/\e=47/\σ=⟨sl [(4,.ref 0 0),(5,.ref 1 0),(6,.ref 2 0)],t,.var [x]::.var [.pv (.int .i64 0)]::.var [.pv (.int .i64 0)]::r⟩
 | _,_=>False
noncomputable def itC:Code:=match Tryz.f20.body with
 | some (.seq _ (.seq _ c))=>c
 | _=>.skip
set_option maxHeartbeats 4000000 in
theorem X4x(D:List Deferred)(c:AllG (env.wd D) [S46,S47 (K200 BIG),S48])(d:Str)(b:List Token)(g:List Cmd)(i j:Int)(h:F20 d b=some (g,i,j)):
 AW (env.wd D) 3 itC (EndQ g i j) ⟨sl [(0,.pv (.str d)),(1,.pv (.slice (List.map Token.pv b))),(4,.ref 0 0),(5,.ref 1 0),(6,.ref 2 0)],28,[.var [.nils],.var [.pv (.int .i64 0)],.var [.pv (.int .i64 0)]]⟩:=by
 obtain⟨O,X,hS,hX,hpf,hk⟩:=orcs (pf:=pfn) c
 have x:O.pf 46=false:=pft hpf 46 rfl
 have A:O.pf 47=false:=pft hpf 47 rfl
 have S:O.pf 48=false:=pft hpf 48 rfl
 rw[F20]at h
 show AW (env.wd D) 3 (.seq _ _) _ _
 refine AW.seq ?_
 replace h:=obs h;obtain⟨e,C,h⟩:=h
 have u:=(hk 0 46 rfl).ret (d,b) C rfl rfl
 try dsimp only at u
 have E:Q4u O [.var [.nils],.var [.pv (.int .i64 0)],.var [.pv (.int .i64 0)]] 46 [.pv (.str d),.pv (.slice (List.map Token.pv b))]=some (Q6w [.pv (.slice (List.map PV.str e))],[.var [.nils],.var [.pv (.int .i64 0)],.var [.pv (.int .i64 0)]]):=Z2y rfl rfl rfl u rfl rfl rfl
 apply AW.rg hS [1,4,5,6,7]
 ·exact dw1 (an x E)
 refine AW.seq ?_
 have l:=hk 1 47 rfl
 generalize m:F47 (K200 BIG) false d b e 0=y at h
 match y,m,h with
 | none,_,h=>cases h
 | some (.inl q),m,h=>
   have h:some (([]:List Cmd),q,(47:Int))=some (g,i,j):=h
   simp only[G0c,G1k]at h
   have F:=l.boom (false,d,b,e,0) m rfl rfl
   have H:Z9y X [.var [.nils],.var [.pv (.int .i64 0)],.var [.pv (.int .i64 0)],.var [.pv (.str d),.pv (.slice (List.map Token.pv b)),.pv (.slice (List.map PV.str e)),.pv (.int .i64 0)]] 47 [.ref 3 0,.pv (.bool false)]=some (syn q,[.var [.nils],.var [.pv (.int .i64 0)],.var [.pv (.int .i64 0)],.gone]):=X0l rfl rfl rfl F rfl
   refine AW.regSk hS hX 1 [4,5,6] (v:=syn q) (H':=[.var [.nils],.var [.pv (.int .i64 0)],.var [.pv (.int .i64 0)],.gone]) (L:=[(4,.ref 0 0),(5,.ref 1 0),(6,.ref 2 0)]) rfl ?_ ⟨q,_,_,_,rfl,h.1.symm,h.2.1.symm,h.2.2.symm,rfl⟩
   simp -implicitDefEqProofs only[RUNS,Q1j,Nat.reduceAdd,Nat.reduceLeDiff,Nat.reduceSub,reduceIte,Nat.reduceEqDiff,Nat.reduceLT,reduceCtorEq,Nat.reduceMul,Nat.reduceBEq,Int.reduceEq,Int.reduceToNat,G2g,G2p,if_true,G2v,eq_self,ne_eq,Q6k,Q4o,Z2p,TYS,WDS]
   exact Q7k.call rfl rfl (by simp -implicitDefEqProofs only[RUNS,Q1j,Nat.reduceAdd,Nat.reduceLeDiff,Nat.reduceSub,reduceIte,Nat.reduceEqDiff,Nat.reduceLT,reduceCtorEq,Nat.reduceMul,Nat.reduceBEq,Int.reduceEq,Int.reduceToNat,G2g,G2p,if_true,G2v,eq_self,ne_eq,TYS,WDS,H])
 | some (.inr (p,f)),m,h=>
   have h:(bif decide (f<(b.length:Int))then
    match F48 d b e f with
    | some (.inl n)=>some (([]:List Cmd),n,(47:Int))
    | _=>none
   else
    some (p,0,0))=some (g,i,j):=h
   replace l:=l.ret (false,d,b,e,0) m rfl rfl
   try dsimp only at l
   have I:Q4u O [.var [.nils],.var [.pv (.int .i64 0)],.var [.pv (.int .i64 0)],.var [.pv (.str d),.pv (.slice (List.map Token.pv b)),.pv (.slice (List.map PV.str e)),.pv (.int .i64 0)]] 47 [.ref 3 0,.pv (.bool false)]=some (Q6w [.pv (.slice (List.map Cmd.pv p))],[.var [.nils],.var [.pv (.int .i64 0)],.var [.pv (.int .i64 0)],.var [.pv (.str d),.pv (.slice (List.map Token.pv b)),.pv (.slice (List.map PV.str e)),.pv (.int .i64 f)]]):=Z2y rfl rfl rfl l rfl rfl rfl
   apply AW.rg hS [1,4,5,6,7]
   ·exact dw1 (an A I)
   refine AW.seq ?_
   refine AW.seq ?_
   apply AW.rg hS [4,5,6,7,24]
   ·exact dw
   refine AW.iff_ h rfl rfl (λJ h=>?_) (λJ h=>?_)
   ·have K:=hk 2 48 rfl
    generalize t:F48 d b e f=z at h
    match z,t,h with
    | none,_,h=>cases h
    | some (.inr _),_,h=>cases h
    | some (.inl r),t,h=>
      have h:some (([]:List Cmd),r,(47:Int))=some (g,i,j):=h
      simp only[G0c,G1k]at h
      have M:=K.boom (d,b,e,f) t rfl rfl
      have N:Z9y X [.var [.pv (.slice (List.map Cmd.pv p))],.var [.pv (.int .i64 0)],.var [.pv (.int .i64 0)],.var [.pv (.str d),.pv (.slice (List.map Token.pv b)),.pv (.slice (List.map PV.str e)),.pv (.int .i64 f)]] 48 [.ref 3 0]=some (syn r,[.var [.pv (.slice (List.map Cmd.pv p))],.var [.pv (.int .i64 0)],.var [.pv (.int .i64 0)],.gone]):=X0l rfl rfl rfl M rfl
      refine AW.regSk hS hX 1 [4,5,6] (v:=syn r) (H':=[.var [.pv (.slice (List.map Cmd.pv p))],.var [.pv (.int .i64 0)],.var [.pv (.int .i64 0)],.gone]) (L:=[(4,.ref 0 0),(5,.ref 1 0),(6,.ref 2 0)]) rfl ?_ ⟨r,_,_,_,rfl,h.1.symm,h.2.1.symm,h.2.2.symm,rfl⟩
      simp -implicitDefEqProofs only[RUNS,Q1j,Nat.reduceAdd,Nat.reduceLeDiff,Nat.reduceSub,reduceIte,Nat.reduceEqDiff,Nat.reduceLT,reduceCtorEq,Nat.reduceMul,Nat.reduceBEq,Int.reduceEq,Int.reduceToNat,G2g,G2p,if_true,G2v,eq_self,ne_eq,Q6k,Q4o,Z2p,TYS,WDS]
      exact Q7k.call rfl rfl (by simp -implicitDefEqProofs only[RUNS,Q1j,Nat.reduceAdd,Nat.reduceLeDiff,Nat.reduceSub,reduceIte,Nat.reduceEqDiff,Nat.reduceLT,reduceCtorEq,Nat.reduceMul,Nat.reduceBEq,Int.reduceEq,Int.reduceToNat,G2g,G2p,if_true,G2v,eq_self,ne_eq,TYS,WDS,N])
   refine AW.skip ?_
   refine AW.seq ?_
   apply AW.rg hS [4,5,6]
   ·exact dw
   refine AW.ret ?_
   cases h
   exact⟨_,_,rfl⟩
theorem J3z{γ:List Gh}{H:List AObj}{Φ:Nat->Nat->Prop}{w:World}{v:Value}{l:Nat}(h:ARel γ H Φ w v (.ref l 0)):∃b,v=.pointer (some ⟨b,0,none⟩)/\gv γ l=some v:=by
 cases h with
 | ref b l off d=>exact⟨b,rfl,d⟩
section
variable {P:Program}{ops:Array Oper}{Q:Exit->Act->World->Prop}{o:Oper}{rest:List Oper}{a:Act}{w w':World}
theorem K2r(b:o.guard=none){v:Value}(d:(execOp a.eval o).run P w=.ok (.value v) w')(h:wpList P ops Q rest (a.put o.dst v) w'):wpList P ops Q (o::rest) a w:=by
 refine G7o λK e=>?_
 rw[if_pos (by simp[Region.wanted,b])]
 unfold Oper.wp
 rw[d]
 exact e _ _ h
theorem K2q(b:o.guard=none){d:Deferred}(e:(execOp a.eval o).run P w=.ok (.defer d) w')(h:wpList P ops Q rest ({ a with defers:=d::a.defers }.put o.dst undef) w'):wpList P ops Q (o::rest) a w:=by
 refine G7o λK f=>?_
 rw[if_pos (by simp[Region.wanted,b])]
 unfold Oper.wp
 rw[e]
 exact f _ _ h
end
theorem J6e{D:List Deferred}{Φ:Nat->Nat->Prop}{w w':World}{γ:List Gh}{Φ':Nat->Nat->Prop}{σ:St}{a:Act}{d:List Cmd}{e f:Int}(j:Ok (env.wd D) [] [] Φ w γ σ.h Φ' w')(hs:Slots γ σ.h Φ' w' a σ.t)
 (q:Q8r (env.wd D) σ Tryz.f20.results.toList=some [.pv (.slice (List.map Cmd.pv d)),.pv (.int .i64 e),.pv (.int .i64 f)]):
 ∃v,(results Tryz.f20 a.tmps).run env.P w'=.ok v w'/\∃vs l n,Ending.returned v=.returned (retV vs)/\Ok env [] [] Φ w l [] n w'/\vs.length=[AV.pv (.slice (List.map Cmd.pv d)),.pv (.int .i64 e),.pv (.int .i64 f)].length/\
  ∀ (i:Nat) (v:Value) (a:AV),vs[i]?=some v->[AV.pv (.slice (List.map Cmd.pv d)),.pv (.int .i64 e),.pv (.int .i64 f)][i]?=some a->ARel l [] n w' v a:=by
 obtain⟨vs,g,r,t⟩:=Q5n j.inv hs Tryz.f20.results.toList _ q
 have u:(results Tryz.f20 a.tmps).run env.P w'=.ok (retV vs) w':=by
  have x:(Tryz.f20.results.mapM (resF a.tmps)).run env.P w'=.ok ⟨vs⟩ w':=by
   rw[G4q,G8f]
   have g:(List.mapM (resF a.tmps) Tryz.f20.results.toList).run env.P w'=.ok vs w':=g
   rw[g]
   rfl
  rw[Q8q]
  simp only[bind,G1n,x,G1b]
  match vs with
  | []=>rfl
  | [v]=>rfl
  | v::v'::vs=>simp[retV]
 have hk:=(Ok.wd.1 j).take (m:=0) (G0r _) rfl rfl
 refine⟨_,u,vs,_,Φ',rfl,hk,r,λi v b y hb=>?_⟩
 have z:∃p,b=.pv p:=by
  match i,hb with
  | 0,hb=>exact⟨_,(G3p hb).symm⟩
  | 1,hb=>exact⟨_,(G3p hb).symm⟩
  | 2,hb=>exact⟨_,(G3p hb).symm⟩
 obtain⟨p,rfl⟩:=z
 exact .pv (Q0p (t i v _ y hb))
theorem Y7l(c:AllG env [S46,S47 (K200 BIG),S48]):Q0c env S20:=by
 refine⟨?_,Tryz.f20,(fnq func20),rfl,by kernel_rfl⟩
 rintro⟨q,u⟩ ⟨H,p,I⟩ h
 replace h:F20 q u=some (H,p,I):=h
 show Good env 20 [.pv (.str q),.pv (.slice (List.map Token.pv u))] [] [.pv (.slice (List.map Cmd.pv H)),.pv (.int .i64 p),.pv (.int .i64 I)] []
 intro w Φ γ a2 S hl hr
 obtain rfl:=G0u S.len
 obtain⟨O,X,hS,hX,hpf,hk⟩:=orcs (pf:=pfn) c
 refine calls_of_wp_defers (fnq func20) rfl ?_
 have T:=X7g S hl hr (N:=28) (by simp) rfl
 rw[Z8o]at T
 refine wp_seq ?_
 refine AW.use (Q:=λe σ=>e=.normal/\σ=⟨sl [(0,.pv (.str q)),(1,.pv (.slice (List.map Token.pv u))),(4,.ref 0 0),(5,.ref 1 0),(6,.ref 2 0)],28,[.var [.nils],.var [.pv (.int .i64 0)],.var [.pv (.int .i64 0)]]⟩) (k:=0) (by
  show AW env 0 _ _ ⟨sl [(0,.pv (.str q)),(1,.pv (.slice (List.map Token.pv u)))],28,[]⟩
  apply AW.rg hS [0,1,4,5,6]
  ·exact di
  exact⟨rfl,rfl⟩) rfl T ?_
 rintro e f w1 a3 ar ⟨rfl,rfl⟩
 simp only[Exit.then]
 refine wp_seq ?_
 refine G8b ?_
 obtain⟨⟨J,U,C,hs1⟩,D,K,a5⟩:=ar
 obtain⟨g,V,W⟩:=J3z (l:=0) (hs1 4)
 obtain⟨j,Y,g1⟩:=J3z (l:=1) (hs1 5)
 obtain⟨m,e6,g2⟩:=J3z (l:=2) (hs1 6)
 rw[V]at W
 rw[Y]at g1
 rw[e6]at g2
 have v4:f.eval (.tmp 4)=.pointer (some ⟨g,0,none⟩):=V
 have v5:f.eval (.tmp 5)=.pointer (some ⟨j,0,none⟩):=Y
 have v6:f.eval (.tmp 6)=.pointer (some ⟨m,0,none⟩):=e6
 have K:f.defers=[]:=K
 have D:f.tmps.size=28:=D
 show wpList env.P _ _ [_,_] f w1
 refine K2r (v:=.func (.func 45) #[] #[.pointer (some ⟨g,0,none⟩),.pointer (some ⟨j,0,none⟩),.pointer (some ⟨m,0,none⟩)]) (w':=w1) rfl (by simp[execOp,v4,v5,v6];rfl) ?_
 refine K2q (d:=⟨.fn (.func 45) #[.pointer (some ⟨g,0,none⟩),.pointer (some ⟨j,0,none⟩),.pointer (some ⟨m,0,none⟩)],#[]⟩) (w':=w1) rfl (by simp[execOp,resolve,Act.eval,Act.put,D,Deferred.ofValue]) ?_
 generalize hd:(⟨.fn (.func 45) #[.pointer (some ⟨g,0,none⟩),.pointer (some ⟨j,0,none⟩),.pointer (some ⟨m,0,none⟩)],#[]⟩:Deferred)=d
 show Code.wp env.P itC _ _ w1
 have ay:Rel (env.wd [d]) J [.var [.nils],.var [.pv (.int .i64 0)],.var [.pv (.int .i64 0)]] U w1 ⟨sl [(0,.pv (.str q)),(1,.pv (.slice (List.map Token.pv u))),(4,.ref 0 0),(5,.ref 1 0),(6,.ref 2 0)],28,[.var [.nils],.var [.pv (.int .i64 0)],.var [.pv (.int .i64 0)]]⟩
  (Act.put { Act.put f (some 8) (.func (.func 45) #[] #[.pointer (some ⟨g,0,none⟩),.pointer (some ⟨j,0,none⟩),.pointer (some ⟨m,0,none⟩)])with defers:=d::(Act.put f (some 8) (.func (.func 45) #[] #[.pointer (some ⟨g,0,none⟩),.pointer (some ⟨j,0,none⟩),.pointer (some ⟨m,0,none⟩)])).defers } none undef) w1:=by
  refine⟨⟨J,U,.refl (OInv.wd.2 C.inv),λi=>?_⟩,?_,?_,C.inv.len⟩
  ·by_cases hi:i=8
   ·subst hi
    exact .any _
   have:=hs1 i
   show ARel _ _ _ _ ((f.tmps.setIfInBounds 8 _).getD i undef) _
   rw[G2w,G4y,if_neg (λe=>hi e.symm),<-G2w]
   exact this
  ·simp[Act.put,D]
  simp[Act.put,K,Env.wd]
 refine AW.use (X4x [d] c.wd q u H p I h) rfl ay ?_
 intro e z w4 a6 az hq
 obtain⟨⟨aA,a7,E,af⟩,a8,F,a9⟩:=az
 have F:z.defers=[d]:=F
 have L:∀l b,gv J l=some (.pointer (some ⟨b,0,none⟩))->gv aA l=some (.pointer (some ⟨b,0,none⟩)):=λl b hg=>by
  rcases E.evo.gh l _ hg with x|⟨A,n,cc,x⟩
  ·exact x
  cases x
 have ag:(invoke (.fn (.func 45) #[.pointer (some ⟨g,0,none⟩),.pointer (some ⟨j,0,none⟩),.pointer (some ⟨m,0,none⟩)]) #[]).run env.P w4=.ok (.enter 45 #[.pointer (some ⟨g,0,none⟩),.pointer (some ⟨j,0,none⟩),.pointer (some ⟨m,0,none⟩)]) w4:=by
  have hf:env.P.funcs[45]?=some Tryz.f45:=by
   rw[Y8b]
   exact func45
  have hb:Tryz.f45.body≠none:=λe=>by have h2:Tryz.f45.body.isNone=false:=rfl;rw[e]at h2;cases h2
  have hn:(Tryz.f45.name=="runtime.NumGoroutine")=false:=by kernel_rfl
  have aF:Tryz.f45.name≠"runtime.NumGoroutine":=by simpa using hn
  simp[invoke,callFunc,hf,hb,aF]
 match e,hq with
 | .ret,⟨t,r,M⟩=>
   subst M
   show Go.Leaves env.P Tryz.f20 z.tmps _ z.defers .returning w4
   rw[F,<-hd]
   refine leaves_cons (by simp) ag ?_
   refine(X5h _ _ _ w4).mono ?_
   rintro e u' w5 ⟨rfl,rfl,rfl⟩
   exact J6e ((Ok.wd.2 C).trans E) af (by rw[show Tryz.f20.results.toList=[.cell 4 23,.cell 5 3,.cell 6 24] from rfl];simp -implicitDefEqProofs only[RUNS,Q1j,Nat.reduceAdd,Nat.reduceLeDiff,Nat.reduceSub,reduceIte,Nat.reduceEqDiff,Nat.reduceLT,reduceCtorEq,Nat.reduceMul,Nat.reduceBEq,Int.reduceEq,Int.reduceToNat,G2g,G2p,if_true,G2v,eq_self,ne_eq,Q8r.eq_1,Q8r.eq_2,Q8r.eq_3,TYS,WDS,T_23,T_3,T_24])
 | .panic ch,⟨n,t,x,r,aI,h3,h4,h5,M⟩=>
   subst M aI h3 h4 h5
   show Go.Leaves env.P Tryz.f20 z.tmps _ z.defers (.panicking [{ v:=syn p,recovered:=false }]) w4
   have k1:=E.inv.setVar (l:=0) (x:=x) (y:=.pv (.slice [])) rfl (L 0 g W) (v:=.slice none 0 0) rfl rfl (λ_ _ _ _ _=>.pv .sliceNil)
   have k2:=k1.1.inv.setVar (l:=1) (x:=.pv (.int .i64 0)) (y:=.pv (.int .i64 p)) rfl (L 1 j g1) (v:=.int .i64 p) rfl rfl (λ_ _ _ _ _=>.pv (.int _ _))
   have k3:=k2.1.inv.setVar (l:=2) (x:=.pv (.int .i64 0)) (y:=.pv (.int .i64 47)) rfl (L 2 m g2) (v:=.int .i64 47) rfl rfl (λ_ _ _ _ _=>.pv (.int _ _))
   obtain⟨m1,f1,u1,c1⟩:=k1
   obtain⟨m2,f2,u2,c2⟩:=k2
   obtain⟨m3,f3,u3,c3⟩:=k3
   rw[F,<-hd]
   refine leaves_cons (by simp) ag ?_
   refine(K0g _ _ _ p w4 u1 u2 u3 c1 f1 c2 f2 c3 f3).mono ?_
   rintro e u' w5 ⟨rfl,rfl,rfl⟩
   have a0:=((((Ok.wd.2 C).trans E).trans m1).trans m2).trans m3
   exact J6e (σ:=⟨sl [(4,.ref 0 0),(5,.ref 1 0),(6,.ref 2 0)],t,.var [.pv (.slice [])]::.var [.pv (.int .i64 p)]::.var [.pv (.int .i64 47)]::r⟩) a0 (λi=>(((af i).mono m1.evo).mono m2.evo).mono m3.evo) (by rw[show Tryz.f20.results.toList=[.cell 4 23,.cell 5 3,.cell 6 24] from rfl];simp -implicitDefEqProofs only[RUNS,Q1j,Nat.reduceAdd,Nat.reduceLeDiff,Nat.reduceSub,reduceIte,Nat.reduceEqDiff,Nat.reduceLT,reduceCtorEq,Nat.reduceMul,Nat.reduceBEq,Int.reduceEq,Int.reduceToNat,G2g,G2p,if_true,G2v,eq_self,ne_eq,Q8r.eq_1,Q8r.eq_2,Q8r.eq_3,TYS,WDS,T_23,T_3,T_24])
end Go.Abs.U48
