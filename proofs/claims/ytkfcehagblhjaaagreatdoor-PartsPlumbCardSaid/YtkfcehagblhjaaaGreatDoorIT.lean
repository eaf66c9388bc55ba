import Derived.Test.YtkfcehagblhjaaaGreatDoorD1
import Derived.Test.YtkfcehagblhjaaaGreatDoorA64
import Derived.Tactics
import Derived.Tactics2
import Derived.Defers
import Derived.Recover
import Derived.Laws.Pointers
set_option linter.unusedVariables false
set_option linter.unusedSimpArgs false
set_option linter.defProp false
namespace Go.Abs.U54
open Go Go.RowKit Go.Proofs
theorem catch_idle(p0 p1 p2:Addr)(w:World):
 CallsD Tryz.prog 94 #[.pointer (some p0),.pointer (some p1),.pointer (some p2)] .returning w fun e u' w'=>e=.returned (.tuple #[])∧u'=.returning∧w'=w:=by
 refine callsD_of_wpS Tryz.func94 rfl fun c₀ cs hu=>?_
 apply wpS_seq
 apply wpS_region
 simp[wpOpsS,go_sem,recoverD,hu,Tryz.ntmps94,Exit.thenS]
 apply wpS_seq
 apply wpS_region
 simp[wpOpsS,go_sem,Exit.thenS]
 refine wpS_cond (t:=false) (by simp[Act.eval,Array.replicate]) ?_
 simp only[Bool.false_eq_true,if_false]
 refine wpS_of_wp (wp_skip ?_)
 cases c₀
 simp_all [bodyPostS,results,Tryz.results94]
theorem wd_T{E:Env}{D:List Deferred}:(E.wd D).T=E.T:=rfl
theorem wd_bT{E:Env}{D:List Deferred}:(E.wd D).bT=E.bT:=rfl
theorem wd_pT{E:Env}{D:List Deferred}:(E.wd D).pT=E.pT:=rfl
theorem wd_eqT{E:Env}{D:List Deferred}:(E.wd D).eqT=E.eqT:=rfl
theorem wd_ownT{E:Env}{D:List Deferred}:(E.wd D).ownT=E.ownT:=rfl
def WDS:=And.intro @wd_T (And.intro @wd_bT (And.intro @wd_pT (And.intro @wd_eqT @wd_ownT)))
theorem dw{P:Prop}(h:P:=by simp -implicitDefEqProofs only[RUNS,qindex,Nat.reduceAdd,Nat.reduceLeDiff,Nat.reduceSub,reduceIte,Nat.reduceEqDiff,Nat.reduceLT,reduceCtorEq,Nat.reduceMul,Nat.reduceBEq,Int.reduceEq,Int.reduceToNat,Int.toNat_zero,Nat.sub_zero,if_true,if_false,eq_self,ne_eq,pick_nil,pick_cons,leavesK_some,TYS,WDS];exact⟨rfl,rfl⟩):P:=h
theorem dw1{Q P:Prop}(q:Q)(h:Q→P:=by intro q;simp -implicitDefEqProofs only[RUNS,qindex,Nat.reduceAdd,Nat.reduceLeDiff,Nat.reduceSub,reduceIte,Nat.reduceEqDiff,Nat.reduceLT,reduceCtorEq,Nat.reduceMul,Nat.reduceBEq,Int.reduceEq,Int.reduceToNat,Int.toNat_zero,Nat.sub_zero,if_true,if_false,eq_self,ne_eq,pick_nil,pick_cons,leavesK_some,TYS,WDS,q];exact⟨rfl,rfl⟩):P:=h q
theorem AW.use{E:Env}{k:Nat}{γ₀:List Gh}{H₀:List AObj}{Φ₀:Nat→Nat→Prop}{w₀ w:World}{c:Code}{Q:Exit→St→Prop}{σ:St}{a:Act}(h:AW E k c Q σ)(hl:H₀.length=k)(hR:Rel E γ₀ H₀ Φ₀ w₀ σ a w){Q':Exit→Act→World→Prop}(hQ:∀e a' w' σ',Rel E γ₀ H₀ Φ₀ w₀ σ' a' w'→Q e σ'→Q' e a' w'):c.wp E.P Q' a w:=
 wp_mono (h γ₀ H₀ Φ₀ w₀ a w hl hR) (fun e a' w' ⟨σ',hR',hq⟩=>hQ e a' w' σ' hR' hq)
def EndQ(r3:List Cmd)(r4 r5:Int):Exit→St→Prop
 | .ret,σ=>(∃t r,σ=⟨sl [(4,.ref 0 0),(5,.ref 1 0),(6,.ref 2 0)],t,.var [.pv (.slice (List.map Cmd.pv r3))]::.var [.pv (.int .i64 r4)]::.var [.pv (.int .i64 r5)]::r⟩)
 | _,_=>False
noncomputable def itC:Code:=match Tryz.f41.body with
 | some (.seq _ (.seq _ c))=>c
 | _=>.skip
set_option maxHeartbeats 4000000 in
theorem items_walk(D:List Deferred)(c:AllG (env.wd D) [(S95 F95),(S96 F96)])(s1:Str)(tokens2:List Token)(r3:List Cmd)(r4 r5:Int)(h:F41 s1 tokens2=some (r3,r4,r5)):
 AW (env.wd D) 3 itC (EndQ r3 r4 r5) ⟨sl [(0,.pv (.str s1)),(1,.pv (.slice (List.map Token.pv tokens2))),(4,.ref 0 0),(5,.ref 1 0),(6,.ref 2 0)],28,[.var [.nils],.var [.pv (.int .i64 0)],.var [.pv (.int .i64 0)]]⟩:=by
 obtain⟨O,X,hS,hX,hpf,hk⟩:=orcs (pf:=pfn) c
 have pf_95:O.pf 95=false:=pft hpf 95 rfl
 have pf_96:O.pf 96=false:=pft hpf 96 rfl
 rw[F41]at h
 show AW (env.wd D) 3 (.seq _ _) _ _
 refine AW.seq ?_
 replace h:=obs h;obtain⟨r1,q2,h⟩:=h
 have f3:=(hk 0 95 rfl).ret (s1,tokens2) q2 rfl rfl
 try dsimp only at f3
 have e3:ecall O [.var [.nils],.var [.pv (.int .i64 0)],.var [.pv (.int .i64 0)]] 95 [.pv (.str s1),.pv (.slice (List.map Token.pv tokens2))]=some (retAV [.pv (.slice (List.map PV.str r1))],[.var [.nils],.var [.pv (.int .i64 0)],.var [.pv (.int .i64 0)]]):=ecall_eq rfl rfl rfl f3 rfl rfl rfl
 apply AW.rg hS [1,4,5,6,7]
 ·exact dw1 (an pf_95 e3)
 refine AW.seq ?_
 replace h:=obs h;obtain⟨⟨r4',x5⟩,q6,h⟩:=h
 dsimp only at h
 have f7:=(hk 1 96 rfl).ret (false,s1,tokens2,r1,0) q6 rfl rfl
 try dsimp only at f7
 have e11:ecall O [.var [.nils],.var [.pv (.int .i64 0)],.var [.pv (.int .i64 0)],.var [.pv (.str s1),.pv (.slice (List.map Token.pv tokens2)),.pv (.slice (List.map PV.str r1)),.pv (.int .i64 0)]] 96 [.ref 3 0,.pv (.bool false)]=some (retAV [.pv (.slice (List.map Cmd.pv r4'))],[.var [.nils],.var [.pv (.int .i64 0)],.var [.pv (.int .i64 0)],.var [.pv (.str s1),.pv (.slice (List.map Token.pv tokens2)),.pv (.slice (List.map PV.str r1)),.pv (.int .i64 x5)]]):=ecall_eq rfl rfl rfl f7 rfl rfl rfl
 apply AW.rg hS [1,4,5,6,7]
 ·exact dw1 (an pf_96 e11)
 refine AW.seq ?_
 refine AW.seq ?_
 apply AW.rg hS [4,5,6,7,24]
 ·exact dw
 refine AW.iff_ h rfl rfl (fun hb12 h=>?_) (fun hb12 h=>?_)
 ·cases h
 refine AW.skip ?_
 refine AW.seq ?_
 apply AW.rg hS [4,5,6]
 ·exact dw
 refine AW.ret ?_
 cases h
 exact⟨_,_,rfl⟩
theorem arel_ref{γ:List Gh}{H:List AObj}{Φ:Nat→Nat→Prop}{w:World}{v:Value}{l:Nat}(h:ARel γ H Φ w v (.ref l 0)):∃b,v=.pointer (some ⟨b,0,none⟩)∧gv γ l=some v:=by
 cases h with
 | ref b l off hg=>exact⟨b,rfl,hg⟩
section
variable {P:Program}{ops:Array Oper}{Q:Exit→Act→World→Prop}{o:Oper}{rest:List Oper}{a:Act}{w w':World}
theorem wp_step1(hg:o.guard=none){v:Value}(hx:(execOp a.eval o).run P w=.ok (.value v) w')(h:wpList P ops Q rest (a.put o.dst v) w'):wpList P ops Q (o::rest) a w:=by
 refine wpList_step fun K hK=>?_
 rw[if_pos (by simp[Region.wanted,hg])]
 unfold Oper.wp
 rw[hx]
 exact hK _ _ h
theorem wp_stepD(hg:o.guard=none){d:Deferred}(hx:(execOp a.eval o).run P w=.ok (.defer d) w')(h:wpList P ops Q rest ({ a with defers:=d::a.defers }.put o.dst undef) w'):wpList P ops Q (o::rest) a w:=by
 refine wpList_step fun K hK=>?_
 rw[if_pos (by simp[Region.wanted,hg])]
 unfold Oper.wp
 rw[hx]
 exact hK _ _ h
end
theorem items_fin{D:List Deferred}{Φ:Nat→Nat→Prop}{w w':World}{γ:List Gh}{Φ':Nat→Nat→Prop}{σ:St}{a:Act}{r3:List Cmd}{r4 r5:Int}(hok:Ok (env.wd D) [] [] Φ w γ σ.h Φ' w')(hs:Slots γ σ.h Φ' w' a σ.t)
 (hr:resOf (env.wd D) σ Tryz.f41.results.toList=some [.pv (.slice (List.map Cmd.pv r3)),.pv (.int .i64 r4),.pv (.int .i64 r5)]):
 ∃v,(results Tryz.f41 a.tmps).run env.P w'=.ok v w'∧∃vs γ' Φ'',Ending.returned v=.returned (retV vs)∧Ok env [] [] Φ w γ' [] Φ'' w'∧vs.length=[AV.pv (.slice (List.map Cmd.pv r3)),.pv (.int .i64 r4),.pv (.int .i64 r5)].length∧
  ∀ (i:Nat) (v:Value) (a:AV),vs[i]?=some v→[AV.pv (.slice (List.map Cmd.pv r3)),.pv (.int .i64 r4),.pv (.int .i64 r5)][i]?=some a→ARel γ' [] Φ'' w' v a:=by
 obtain⟨vs,h1,h2,h3⟩:=resOf_sound hok.inv hs Tryz.f41.results.toList _ hr
 have hrun:(results Tryz.f41 a.tmps).run env.P w'=.ok (retV vs) w':=by
  have h1':(Tryz.f41.results.mapM (resF a.tmps)).run env.P w'=.ok ⟨vs⟩ w':=by
   rw[Array.mapM_eq_mapM_toList,Sem.run_map]
   have h1:(List.mapM (resF a.tmps) Tryz.f41.results.toList).run env.P w'=.ok vs w':=h1
   rw[h1]
   rfl
  rw[results_resF]
  simp only[bind,Sem.run_bind',h1',Result.andThen_ok]
  match vs with
  | []=>rfl
  | [v]=>rfl
  | v::v'::vs=>simp[retV]
 have hk:=(Ok.wd.1 hok).take (m:=0) (Nat.le_refl _) rfl rfl
 refine⟨_,hrun,vs,_,Φ',rfl,hk,h2,fun i v b hv hb=>?_⟩
 have hb':∃p,b=.pv p:=by
  match i,hb with
  | 0,hb=>exact⟨_,(Option.some.inj hb).symm⟩
  | 1,hb=>exact⟨_,(Option.some.inj hb).symm⟩
  | 2,hb=>exact⟨_,(Option.some.inj hb).symm⟩
 obtain⟨p,rfl⟩:=hb'
 exact .pv (arel_pv (h3 i v _ hv hb))
theorem g_F41(c:AllG env [(S95 F95),(S96 F96)]):GoodH env (S41 F41):=by
 refine⟨?_,Tryz.f41,fn_41,rfl,by kernel_rfl⟩
 rintro⟨s1,tokens2⟩ ⟨r3,r4,r5⟩ h
 replace h:F41 s1 tokens2=some (r3,r4,r5):=h
 show Good env 41 [.pv (.str s1),.pv (.slice (List.map Token.pv tokens2))] [] [.pv (.slice (List.map Cmd.pv r3)),.pv (.int .i64 r4),.pv (.int .i64 r5)] []
 intro w Φ γ cargs hI hl hr
 obtain rfl:=List.eq_nil_of_length_eq_zero hI.len
 obtain⟨O,X,hS,hX,hpf,hk⟩:=orcs (pf:=pfn) c
 refine calls_of_wp_defers fn_41 rfl ?_
 have hR:=rel_entry hI hl hr (N:=28) (by simp) rfl
 rw[entryT_sl]at hR
 refine wp_seq ?_
 refine AW.use (Q:=fun e σ=>e=.normal∧σ=⟨sl [(0,.pv (.str s1)),(1,.pv (.slice (List.map Token.pv tokens2))),(4,.ref 0 0),(5,.ref 1 0),(6,.ref 2 0)],28,[.var [.nils],.var [.pv (.int .i64 0)],.var [.pv (.int .i64 0)]]⟩) (k:=0) (by
  show AW env 0 _ _ ⟨sl [(0,.pv (.str s1)),(1,.pv (.slice (List.map Token.pv tokens2)))],28,[]⟩
  apply AW.rg hS [0,1,4,5,6]
  ·exact di
  exact⟨rfl,rfl⟩) rfl hR ?_
 rintro e a1 w1 σ1 hR1 ⟨rfl,rfl⟩
 simp only[Exit.then]
 refine wp_seq ?_
 refine wp_region_list ?_
 obtain⟨⟨γ1,Φ1,hok1,hs1⟩,hsz1,hd1,hl1⟩:=hR1
 obtain⟨b0,e4,g0⟩:=arel_ref (l:=0) (hs1 4)
 obtain⟨b1,e5,g1⟩:=arel_ref (l:=1) (hs1 5)
 obtain⟨b2,e6,g2⟩:=arel_ref (l:=2) (hs1 6)
 rw[e4]at g0
 rw[e5]at g1
 rw[e6]at g2
 have v4:a1.eval (.tmp 4)=.pointer (some ⟨b0,0,none⟩):=e4
 have v5:a1.eval (.tmp 5)=.pointer (some ⟨b1,0,none⟩):=e5
 have v6:a1.eval (.tmp 6)=.pointer (some ⟨b2,0,none⟩):=e6
 have hd1:a1.defers=[]:=hd1
 have hsz1:a1.tmps.size=28:=hsz1
 show wpList env.P _ _ [_,_] a1 w1
 refine wp_step1 (v:=.func (.func 94) #[] #[.pointer (some ⟨b0,0,none⟩),.pointer (some ⟨b1,0,none⟩),.pointer (some ⟨b2,0,none⟩)]) (w':=w1) rfl (by simp[execOp,v4,v5,v6];rfl) ?_
 refine wp_stepD (d:=⟨.fn (.func 94) #[.pointer (some ⟨b0,0,none⟩),.pointer (some ⟨b1,0,none⟩),.pointer (some ⟨b2,0,none⟩)],#[]⟩) (w':=w1) rfl (by simp[execOp,resolve,Act.eval,Act.put,hsz1,Deferred.ofValue]) ?_
 generalize hd:(⟨.fn (.func 94) #[.pointer (some ⟨b0,0,none⟩),.pointer (some ⟨b1,0,none⟩),.pointer (some ⟨b2,0,none⟩)],#[]⟩:Deferred)=d
 show Code.wp env.P itC _ _ w1
 have hR3:Rel (env.wd [d]) γ1 [.var [.nils],.var [.pv (.int .i64 0)],.var [.pv (.int .i64 0)]] Φ1 w1 ⟨sl [(0,.pv (.str s1)),(1,.pv (.slice (List.map Token.pv tokens2))),(4,.ref 0 0),(5,.ref 1 0),(6,.ref 2 0)],28,[.var [.nils],.var [.pv (.int .i64 0)],.var [.pv (.int .i64 0)]]⟩
  (Act.put { Act.put a1 (some 8) (.func (.func 94) #[] #[.pointer (some ⟨b0,0,none⟩),.pointer (some ⟨b1,0,none⟩),.pointer (some ⟨b2,0,none⟩)])with defers:=d::(Act.put a1 (some 8) (.func (.func 94) #[] #[.pointer (some ⟨b0,0,none⟩),.pointer (some ⟨b1,0,none⟩),.pointer (some ⟨b2,0,none⟩)])).defers } none undef) w1:=by
  refine⟨⟨γ1,Φ1,.refl (OInv.wd.2 hok1.inv),fun i=>?_⟩,?_,?_,hok1.inv.len⟩
  ·by_cases hi:i=8
   ·subst hi
    exact .any _
   have:=hs1 i
   show ARel _ _ _ _ ((a1.tmps.setIfInBounds 8 _).getD i undef) _
   rw[Array.getD_eq_getD_getElem?,Array.getElem?_setIfInBounds,if_neg (fun e=>hi e.symm),←Array.getD_eq_getD_getElem?]
   exact this
  ·simp[Act.put,hsz1]
  simp[Act.put,hd1,Env.wd]
 refine AW.use (items_walk [d] c.wd s1 tokens2 r3 r4 r5 h) rfl hR3 ?_
 intro e a4 w4 σ4 hR4 hq
 obtain⟨⟨γ4,Φ4,hok4,hs4⟩,hsz4,hd4,hl4⟩:=hR4
 have hd4:a4.defers=[d]:=hd4
 have gv4:∀l b,gv γ1 l=some (.pointer (some ⟨b,0,none⟩))→gv γ4 l=some (.pointer (some ⟨b,0,none⟩)):=fun l b hg=>by
  rcases hok4.evo.gh l _ hg with x|⟨A,n,cc,x⟩
  ·exact x
  cases x
 have inv:(invoke (.fn (.func 94) #[.pointer (some ⟨b0,0,none⟩),.pointer (some ⟨b1,0,none⟩),.pointer (some ⟨b2,0,none⟩)]) #[]).run env.P w4=.ok (.enter 94 #[.pointer (some ⟨b0,0,none⟩),.pointer (some ⟨b1,0,none⟩),.pointer (some ⟨b2,0,none⟩)]) w4:=by
  have hf:env.P.funcs[94]?=some Tryz.f94:=by
   rw[env_P]
   exact Tryz.func94
  have hb:Tryz.f94.body≠none:=fun e=>by have h2:Tryz.f94.body.isNone=false:=rfl;rw[e]at h2;cases h2
  have hn:(Tryz.f94.name=="runtime.NumGoroutine")=false:=by kernel_rfl
  have hn':Tryz.f94.name≠"runtime.NumGoroutine":=by simpa using hn
  simp[invoke,callFunc,hf,hb,hn']
 match e,hq with
 | .ret,⟨t,r,hσ⟩=>
   subst hσ
   show Go.Leaves env.P Tryz.f41 a4.tmps _ a4.defers .returning w4
   rw[hd4,←hd]
   refine leaves_cons (by simp) inv ?_
   refine(catch_idle _ _ _ w4).mono ?_
   rintro e u' w5 ⟨rfl,rfl,rfl⟩
   exact items_fin ((Ok.wd.2 hok1).trans hok4) hs4 (by rw[show Tryz.f41.results.toList=[.cell 4 46,.cell 5 3,.cell 6 26] from rfl];simp -implicitDefEqProofs only[RUNS,qindex,Nat.reduceAdd,Nat.reduceLeDiff,Nat.reduceSub,reduceIte,Nat.reduceEqDiff,Nat.reduceLT,reduceCtorEq,Nat.reduceMul,Nat.reduceBEq,Int.reduceEq,Int.reduceToNat,Int.toNat_zero,Nat.sub_zero,if_true,if_false,eq_self,ne_eq,resOf.eq_1,resOf.eq_2,resOf.eq_3,TYS,WDS,T_46,T_3,T_26])
end Go.Abs.U54
