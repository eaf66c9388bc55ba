import Derived.Test.YtljahlbklgnfhaaGreatDoorD1
set_option linter.unusedVariables false
set_option linter.unusedSimpArgs false
set_option linter.defProp false
set_option maxRecDepth 8000
set_option maxHeartbeats 4000000
namespace Go.Abs.U48
open Go.RowKit Go.Proofs AW
theorem V6t(c:AllG env [S52,S53]):Q0a env S22:=by
 refine hd c V9j 46 ?_
 rintro O X hS hX hpf hk (s1:Str) (r:(List Token)×Int×Int) (h:F22 s1=some r)
 refine gs ?_
 rw[F22]at h
 refine R [0] ?_
 refine seq (R [0,8] ?_)
 refine ik h (fun h=>?_) fun h=>?_
 ·exact Rt h [2,3,4]
 refine seq (AW.after ?_)
 refine rg hS [0,5] di ?_
 refine o2 (oC Token.pv 0 1 87 4 ?_)
 refine oC PV.str 0 4 9 1 ?_
 refine seq (block ?_)
 refine Lp h (fun(x6,x7,x8,x9,x10,l11,l12)=>⟨sl [(0,as_ s1),(5,.ref 0 0)],46,[V26 x6 l11.length x7 x8 l12.length x9 x10,rTo l11,rSt l12]⟩) ?_
 clear h
 rintro⟨x6,x7,x8,x9,x10,l11,l12⟩ m15 h
 rw[X7n]at h
 try dsimp only at h
 refine AW.st (seq ?_)
 refine seq (reg hS [(0,as_ s1),(5,.ref 0 0),(19,ab (decide (x9=0)&&decide (x6<(s1.length:Int))))] [V26 x6 l11.length x7 x8 l12.length x9 x10,rTo l11,rSt l12] ?_ ?_)
 ·clear h hk hS hX c
  exact dh
 refine iz h (fun h=>?_) fun h=>?_
 ·obtain⟨⟨tag17,at18,end19,name20,e21,off22,o23,o24⟩,q25,h⟩:=obs h
  dsimp only at h
  refine skip (block ?_)
  refine AW.cases (tag17) (fun hsp27=>?_) (fun hsp27=>?_)
  ·subst hsp27
   replace h:=K0b rfl h
   have f26:=(hk 0 52 rfl).ret (s1,x6,x7,x8,x9,x10,l11,l12) q25 rfl rfl
   simp only[cond_true,cond_false]at f26
   have e27:Q0v O [V26 x6 l11.length x7 x8 l12.length x9 x10,rTo l11,rSt l12] 52 [as_ s1,.agg [ai x6,.vec 1 (List.length l11),ai x7,ab x8,.vec 2 (List.length l12),ai x9,ai x10]]=some (Q1a [.agg [ai at18,.vec 1 (List.length o23),ai end19,ab name20,.vec 2 (List.length o24),ai e21,ai off22]],[V26 x6 l11.length x7 x8 l12.length x9 x10,rTo o23,rSt o24]):=Q0i rfl rfl rfl f26 rfl rfl rfl
   refine rg hS [0,5] (di1 (ap0 52 hpf e27)) ?_
   exact nx h
  subst hsp27
  replace h:=K0c rfl h
  have f26:=(hk 0 52 rfl).ret (s1,x6,x7,x8,x9,x10,l11,l12) q25 rfl rfl
  simp only[cond_true,cond_false]at f26
  have e27:Q0v O [V26 x6 l11.length x7 x8 l12.length x9 x10,rTo l11,rSt l12] 52 [as_ s1,.agg [ai x6,.vec 1 (List.length l11),ai x7,ab x8,.vec 2 (List.length l12),ai x9,ai x10]]=some (Q1a [.agg [ai at18,.vec 1 (List.length o23),ai end19,ab name20,.nils,ai e21,ai off22]],[V26 x6 l11.length x7 x8 l12.length x9 x10,rTo o23,rSt o24]):=Q0i rfl rfl rfl f26 rfl rfl rfl
  refine AW.after ?_
  refine rg hS [0,5] (di1 (ap0 52 hpf e27)) ?_
  refine oC PV.str 0 4 9 1 ?_
  exact nx h (Weak.sel [0,1,3] (L:=[(0,as_ s1),(5,.ref 0 0)]) ⟨rfl,rfl,trivial⟩ (by decide) rfl rfl)
 refine exit (seqJ (α:=Int×Int×Bool×Int×Int) (fun(x28,x29,x30,x31,x32)=>⟨sl [(0,as_ s1),(5,.ref 0 0)],46,[V26 x28 l11.length x29 x30 l12.length x31 x32,rTo l11,rSt l12]⟩) (fun x=>J5m l12 s1 l11 x=some r) ?_ ?_)
 ·intro⟨x28,x29,x30,x31,x32⟩ h
  rw[J5m]at h
  try dsimp only at h
  refine AW.st (seqJ (α:=Int×Int×Bool×Int×Int) (fun(x33,x34,x35,x36,x37)=>⟨sl [(5,.ref 0 0)],46,[V26 x33 l11.length x34 x35 l12.length x36 x37,rTo l11,rSt l12]⟩) (fun x=>J5l l11 x=some r) ?_ ?_)
  ·intro⟨x33,x34,x35,x36,x37⟩ h
   rw[J5l]at h
   try dsimp only at h
   refine AW.st (seq ?_)
   refine R [5,39] ?_
   refine ik h (fun h=>?_) fun h=>?_
   ·refine seq ?_
    apply dgk mixed hS [2,3,4] (ordp hpf (by kernel_rfl))
    ·exact di
    exact Rf h
   exact Rt h [2,3,4]
  refine R [0,5,32] ?_
  refine ik h (fun h=>?_) fun h=>?_
  ·obtain⟨⟨at40,end41,name42,e43,off44⟩,q45,h⟩:=obs h
   dsimp only at h
   have f46:=(hk 1 53 rfl).ret (x28,x29,x30,x31,x32,3,(s1.length:Int),l11,l12) q45 rfl rfl
   have e47:Q0v O [V26 x28 l11.length x29 x30 l12.length x31 x32,rTo l11,rSt l12] 53 [.agg [ai x28,.vec 1 (List.length l11),ai x29,ab x30,.vec 2 (List.length l12),ai x31,ai x32],ai 3,ai (s1.length:Int)]=some (Q1a [.agg [ai at40,.vec 1 (List.length l11),ai end41,ab name42,.vec 2 (List.length l12),ai e43,ai off44]],[V26 x28 l11.length x29 x30 l12.length x31 x32,rTo l11,rSt l12]):=Q0i rfl rfl rfl f46 rfl rfl rfl
   refine rg hS [5] (di1 (ap0 53 hpf e47)) ?_
   exact jn h
  exact jn h
 refine R [0,5,24] ?_
 refine ik h (fun h=>?_) fun h=>?_
 ·obtain⟨⟨at49,end50,name51,e52,off53⟩,q54,h⟩:=obs h
  dsimp only at h
  have f55:=(hk 1 53 rfl).ret (x6,x7,x8,x9,x10,47,x6,l11,l12) q54 rfl rfl
  have e56:Q0v O [V26 x6 l11.length x7 x8 l12.length x9 x10,rTo l11,rSt l12] 53 [.agg [ai x6,.vec 1 (List.length l11),ai x7,ab x8,.vec 2 (List.length l12),ai x9,ai x10],ai 47,ai x6]=some (Q1a [.agg [ai at49,.vec 1 (List.length l11),ai end50,ab name51,.vec 2 (List.length l12),ai e52,ai off53]],[V26 x6 l11.length x7 x8 l12.length x9 x10,rTo l11,rSt l12]):=Q0i rfl rfl rfl f55 rfl rfl rfl
  refine rg hS [0,5] (di1 (ap0 53 hpf e56)) ?_
  exact jn h
 exact jn h
theorem V6s(c:AllG env [S54]):Q0a env S23:=by
 refine hd c V9i 65 ?_
 rintro O X hS hX hpf hk ⟨s1,t2⟩ (r:(List Str)) (h:F23 s1 t2=some r)
 refine gs ?_
 rw[F23]at h
 refine R [0,1] ?_
 obtain⟨u4,f6,h⟩:=oc h fun _=>K2b
 have f6m:=Q8u (H:=[]) (k1:=.i64) (k2:=.i64) T_42 T_9 (of_eq_true f6.1) (of_eq_true f6.2) (by decide)
 refine seq (reg hS [(0,as_ s1),(1,vTo t2),(5,.vec 0 (List.length (List.replicate (Int.toNat (t2.length:Int)) ([]:Str))))] [.row 9 1 (List.map PV.str (List.replicate (Int.toNat (t2.length:Int)) ([]:Str))) false] ?_ ?_)
 ·simp -implicitDefEqProofs only[RUNS,Q1b,Nat.reduceAdd,Nat.reduceLeDiff,Nat.reduceSub,reduceIte,Nat.reduceEqDiff,Nat.reduceLT,reduceCtorEq,Nat.reduceMul,Nat.reduceBEq,Int.reduceEq,Int.reduceToNat,Int.toNat_zero,Nat.sub_zero,if_true,if_false,eq_self,ne_eq,TYS,f6m,List.length_replicate,List.map_replicate]<;>(try simp only[List.length_take,List.length_drop,List.length_map])
 refine R [0,1,5,6] ?_
 refine seq (R [0,1,5,6,7] ?_)
 refine block (Lp h (fun(first7,i8,l9)=>⟨sl [(0,as_ s1),(1,vTo t2),(5,.vec 0 (List.length l9)),(6,ai first7),(7,ai i8)],65,[.row 9 1 (List.map PV.str l9) false]⟩) ?_)
 clear h
 rintro⟨first7,i8,l9⟩ m12 h
 rw[Q9a]at h
 try dsimp only at h
 refine AW.st (seq ?_)
 refine R [0,1,5,6,7,19] ?_
 refine iz h (fun h=>?_) fun h=>?_
 ·obtain⟨u14,f16,h⟩:=oc h fun _=>Q0j
  refine skip (seq ?_)
  refine block (seq ?_)
  refine seq (rg hS [0,1,5,6,7,27] (di1 (an f16.1 f16.2.1)) ?_)
  refine ik h (fun h=>?_) fun h=>?_
  ·refine exit (G [0,1,5,6,7] ?_)
   exact nx h
  refine srg hS [0,1,5,6,7,8] (di1 (an f16.1 f16.2.1)) ?_
  refine seq (R [0,1,5,7,8,9] ?_)
  refine block (Lp h (fun(at18,k19,l20)=>⟨sl [(0,as_ s1),(1,vTo t2),(5,.vec 0 (List.length l20)),(7,ai i8),(8,ai at18),(9,ai k19)],65,[.row 9 1 (List.map PV.str l20) false]⟩) ?_)
  clear h
  rintro⟨at18,k19,l20⟩ m23 h
  rw[Z5g]at h
  try dsimp only at h
  refine AW.st (seq ?_)
  refine R [0,1,5,7,8,9,37] ?_
  refine iz h (fun h=>?_) fun h=>?_
  ·obtain⟨u25,f27,h⟩:=oc h fun _=>Q0j
   refine skip (seq ?_)
   refine block (seq ?_)
   refine rg hS [0,1,5,7,8,9,45] (di1 (an f27.1 f27.2.1)) ?_
   refine ik h (fun h=>?_) fun h=>?_
   ·obtain⟨⟨r29,r30,r31⟩,f33,h⟩:=oc h (Zt3 hk 0 rfl)
    refine seq (rg hS [0,1,5,7,9,10,11] (di1 (an f27.1 (an f27.2.1 (ca f33)))) ?_)
    obtain⟨w34,f36,h⟩:=oc h fun _=>Q0j
    refine seq (rg hS [0,1,5,7,9,11] (di1 (an f36.1 (an f36.2.1 f36.2.2))) ?_)
    refine G [0,1,5,7,8,9] ?_
    refine G [0,1,5,7,8,9] ?_
    exact nx h
   refine G [0,1,5,7,8,9] ?_
   exact nx h
  refine exit (G [0,1,5,6,7] ?_)
  refine G [0,1,5,6,7] ?_
  exact nx h
 refine exit (R [4] ?_)
 refine weak (Weak.freeze 0 rfl) ?_
 refine weak (σ':=⟨sl [(4,.vec 0 (List.length l9))],65,[rSt l9]⟩) (Weak.slots ⟨rfl,trivial⟩) ?_
 exact Rf h
end Go.Abs.U48
