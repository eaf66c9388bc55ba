import Derived.Test.YtljahlbklgnfhaaGreatDoorD1
set_option linter.unusedVariables false
set_option linter.unusedSimpArgs false
set_option linter.defProp false
set_option maxRecDepth 8000
set_option maxHeartbeats 4000000
namespace Go.Abs.U48
open Go.RowKit Go.Proofs AW
theorem K5g{w200:Y0}(c:AllG env [(S84 F84),(S255 F255),(S47 (F47 w200)),(S168 F168),(S200 w200)]):Q0a env (S226 (F226 w200)):=by
 refine hd c K9x 38 ?_
 rintro O X hS hX hpf hk ⟨Q0h,inCase2,x3,x4,x5,x6⟩ (r:Int ⊕ (Cmd×Int)) (h:F226 w200 Q0h inCase2 x3 x4 x5 x6=some r)
 refine gs ?_
 rw[F226]at h
 refine R [0,1,2,6] ?_
 refine seq (Ua1 h [0,2,6,7] (Z hk 0 84 (0,x3,x4,x5,x6)) fun r9 h=>?_)
 refine R [0,2,6,7] ?_
 refine seq (Xa2 h [0,2,6,7,8] (Z hk 1 255 (([40]:Str),x3,x4,x5,IntKind.wrap .i64 (x6+1))) 1 fun r13 x14 h=>?_)
 refine seq (Xa2 h [0,2,6,7,8] (Z hk 2 47 (false,x3,x4,x5,x14)) 1 fun r21 x22 h=>?_)
 refine seq (Xa2 h [0,2,6,7,8] (Z hk 1 255 (([41]:Str),x3,x4,x5,x22)) 1 fun r29 x30 h=>?_)
 refine seq (Ua1 h [0,2,6,7,8] (Z hk 3 168 (x3,x4,x5,x30)) fun x37 h=>?_)
 refine seq ?_
 rcases Q1m h with⟨n45,q43,rfl⟩|⟨⟨r41,r42⟩,q43,h⟩
 ·have f46:=(hk 4 200 rfl).boom (inCase2,x3,x4,x5,x37) q43 rfl rfl
  have e47:=Q4y f46 rfl rfl
  refine dregS mixed hS hX 3 [0,1,2] [.agg [ai 12,ai r13,as_ [],.nils,.nils,vC r21],.ref 0 0,ab inCase2,.any,.any,.any,.any] [(31,.agg [ai 12,ai r13,as_ [],.nils,.nils,vC r21]),(32,.ref 0 0),(33,ab inCase2),(34,.any),(35,.any),(36,.any),(0,.ref 0 0),(2,ab inCase2),(6,.ref 1 0),(7,.ref 2 0),(8,.ref 3 0)] rfl (by kernel_rfl) rfl (H':=[.gone,V4 0 0 [],V4 Q0h r9.at_ [],V7 12 r13 [] r21]) ?_ ?_ (Q7y rfl rfl rfl)
  ·repeat'(first|exact Q1b.nil|refine Q1b.cons rfl rfl rfl ?_ ?_)
   all_goals exact dv
  exact Q3k.call rfl rfl (by simp -implicitDefEqProofs only[RUNS,Q0s,Nat.reduceAdd,Nat.reduceLeDiff,Nat.reduceSub,reduceIte,Nat.reduceEqDiff,Nat.reduceLT,reduceCtorEq,Nat.reduceMul,Nat.reduceBEq,Int.reduceEq,Int.reduceToNat,Int.toNat_zero,Nat.sub_zero,if_true,if_false,eq_self,ne_eq,TYS,e47]<;>rfl)
 dsimp only at h
 have f44:=(hk 4 200 rfl).ret (inCase2,x3,x4,x5,x37) q43 rfl rfl
 have e48:=Q6p f44 rfl rfl rfl rfl
 refine dregV mixed hS [3,6] [(0,0),(0,1),(1,0),(2,0),(3,0),(4,1),(5,1),(6,1)] [.agg [ai 12,ai r13,as_ [],.nils,.nils,vC r21],.ref 0 0,ab inCase2,.pv (V9 r41),.full (List.map Cmd.pv [Cmd.mk 12 r13 [] [] [] r21,r41]),.ref 2 5,.any] [[V2 x3 x4 x5 x37,V4 0 0 [],V4 Q0h r9.at_ [],V7 12 r13 [] r21],[V2 x3 x4 x5 r42,V4 0 0 [],V4 Q0h r9.at_ [],V7 12 r13 [] r21],[V2 x3 x4 x5 r42,V4 0 0 [],.var [ai Q0h,ai r9.at_,as_ [],.nils,.nils,.full (List.map Cmd.pv [Cmd.mk 12 r13 [] [] [] r21,r41])],V7 12 r13 [] r21]] [(31,.agg [ai 12,ai r13,as_ [],.nils,.nils,vC r21]),(32,.ref 0 0),(33,ab inCase2),(34,.pv (V9 r41)),(35,.full (List.map Cmd.pv [Cmd.mk 12 r13 [] [] [] r21,r41])),(36,.ref 2 5),(0,.ref 0 0),(2,ab inCase2),(6,.ref 1 0),(7,.ref 2 0),(8,.ref 3 0)] (by kernel_rfl) (by kernel_rfl) (by kernel_rfl) ?_ [(6,.ref 1 0),(7,.ref 2 0)] [V2 x3 x4 x5 r42,V4 0 0 [],.var [ai Q0h,ai r9.at_,as_ [],.nils,.nils,.full (List.map Cmd.pv [Cmd.mk 12 r13 [] [] [] r21,r41])],V7 12 r13 [] r21] ⟨rfl,rfl,trivial⟩ rfl ?_
 ·repeat'(first|exact Q1b.nil|refine Q1b.cons rfl rfl rfl ?_ ?_)
  all_goals exact dv1 (ap0 200 hpf e48)
 exact Rt h [6]
theorem K4p(c:AllG env [(S84 F84),(S133 F133),(S144 F144),(S48 F48)]):Q0a env (S256 F256):=by
 refine hd c K9h 26 ?_
 rintro O X hS hX hpf hk ⟨x1,x2,x3,x4⟩ (r:Int ⊕ (Str×Int)) (h:F256 x1 x2 x3 x4=some r)
 have pf_133:O.pf 133=true:=pft hpf 133 rfl
 refine gs ?_
 rw[F256]at h
 refine R [0] ?_
 refine seq (Ua1 h [0,3] (Z hk 0 84 (0,x1,x2,x3,x4)) fun r7 h=>?_)
 obtain⟨r11,f13,h⟩:=oc h (Zt hk 1 133 r7)
 obtain⟨r14,q15,h⟩:=obs h
 replace q15:=Q0b q15
 have f16:=fun hg=>(hk 2 144 rfl).ret r7.text_ (q15 hg) rfl rfl
 refine seq (seq ?_)
 refine reg hS [(0,.ref 0 0),(3,.ref 1 0),(14,ab (!r11||!r14))] [V2 x1 x2 x3 x4,V1 r7] ?_ ?_
 ·clear h hk hS hX c
  exact dh1 (an pf_133 (an (ca f13) (ap1 144 hpf f16)))
 refine ik h (fun h=>?_) fun h=>?_
 ·refine Xa1 h [0,3] (Z hk 3 48 (x1,x2,x3,x4)) 1 fun _ h=>?_
  refine R [3] ?_
  exact Rt h [2]
 refine R [3] ?_
 exact Rt h [2]
theorem K4o{w252:Y1}(c:AllG env [(S168 F168),(S84 F84),(S129 F129),(S252 w252)]):Q0a env (S257 (F257 w252)):=by
 refine hd c K9g 16 ?_
 rintro O X hS hX hpf hk ⟨x1,x2,x3,x4⟩ (r:Int ⊕ ((List Word)×Int)) (h:F257 w252 x1 x2 x3 x4=some r)
 have pf_84:O.pf 84=false:=pft hpf 84 rfl
 have pf_252:O.pf 252=false:=pft hpf 252 rfl
 refine gs ?_
 rw[F257]at h
 refine R [0] ?_
 refine seq (reg hS [(0,.ref 0 0),(3,.nils)] [V2 x1 x2 x3 x4] dk ?_)
 refine weak (Weak.own 3 49 5 (by decide) rfl) ?_
 refine weak (Weak.slots (L:=[(0,.ref 0 0),(3,.vec 1 (List.length ([]:List Word)))]) ⟨rfl,rfl,trivial⟩) ?_
 refine block (Lp h (fun(x7,l8)=>⟨sl [(0,.ref 0 0),(3,.vec 1 (List.length l8))],16,[V2 x1 x2 x3 x7,rWo l8]⟩) ?_)
 clear h
 rintro⟨x7,l8⟩ m11 h
 rw[X2x]at h
 try dsimp only at h
 refine AW.st (block ?_)
 refine seq (Ua1 h [0,3] (Z hk 0 168 (x1,x2,x3,x7)) fun x12 h=>?_)
 obtain⟨r16,f18,h⟩:=oc h (Z hk 1 84 (0,x1,x2,x3,x12))
 obtain⟨r20,f22,h⟩:=oc h (Zt hk 2 129 r16)
 refine seq (seq ?_)
 refine rg hS [0,3,9] (di1 (an pf_84 (an (cb f18) (ca f22)))) ?_
 refine ik h (fun h=>?_) fun h=>?_
 ·exact Rt h [2]
 refine xb h (Z hk 3 252 (x1,x2,x3,x12)) 2 ?_
 rintro⟨r24,r25⟩ f27 h
 obtain⟨out32,q33,h⟩:=obs h
 have f34:=Q2o q33
 try simp only[LNS,List.length_replicate,Nat.reduceAdd,Nat.reduceLeDiff,Nat.add_zero,Nat.reduceMul]at f34
 have f34m:=Q2y Word.pv q33
 try simp only[PVE,List.nil_append]at f34m
 have f34n:=Q2x q33
 try simp only[LNS]at f34n
 refine reg hS [(0,.ref 0 0),(3,.vec 1 (List.length out32))] [V2 x1 x2 x3 r25,rWo out32] (dk1 (an pf_252 (an (cb f27) (an f34.1 (an f34m f34n))))) ?_
 clear f34
 clear f34m
 clear f34n
 exact nx h
theorem K5f{w200:Y0}{w252:Y1}(c:AllG env [(S84 F84),(S255 F255),(S256 F256),(S83 F83),(S257 (F257 w252)),(S168 F168),(S200 w200)]):Q0a env (S227 (F227 w200 w252)):=by
 refine hd c K9w 49 ?_
 rintro O X hS hX hpf hk ⟨inCase1,x2,x3,x4,x5⟩ (r:Int ⊕ (Cmd×Int)) (h:F227 w200 w252 inCase1 x2 x3 x4 x5=some r)
 have pf_84:O.pf 84=false:=pft hpf 84 rfl
 refine gs ?_
 rw[F227]at h
 refine R [0,1,4] ?_
 refine seq (Ua1 h [0,1,4,5] (Z hk 0 84 (0,x2,x3,x4,x5)) fun r8 h=>?_)
 refine R [0,1,4,5] ?_
 refine seq (Xa2 h [0,1,4,5] (Z hk 1 255 (([40]:Str),x2,x3,x4,IntKind.wrap .i64 (x5+1))) 1 fun r12 x13 h=>?_)
 refine seq (Xa2 h [0,1,4,5] (Z hk 2 256 (x2,x3,x4,x13)) 1 fun r20 x21 h=>?_)
 obtain⟨r28,f30,h⟩:=oc h (Z hk 0 84 (0,x2,x3,x4,x21))
 obtain⟨r32,f34,h⟩:=oc h (Zt hk 3 83 r28)
 refine seq (seq ?_)
 refine rg hS [0,1,4,5,25] (di1 (an pf_84 (an (cb f30) (ca f34)))) ?_
 refine iz h (fun h=>?_) fun h=>?_
 ·refine R [0,1,4,5] ?_
  refine Xa2 h [0,1,4,5] (Z hk 4 257 (x2,x3,x4,IntKind.wrap .i64 (x21+1))) 1 fun r36 x37 h=>?_
  refine seq (Xa2 h [0,1,4,5] (Z hk 1 255 (([41]:Str),x2,x3,x4,x37)) 1 fun r44 x45 h=>?_)
  refine seq (Ua1 h [0,1,4,5] (Z hk 5 168 (x2,x3,x4,x45)) fun x52 h=>?_)
  refine seq (xb h (Z hk 6 200 (inCase1,x2,x3,x4,x52)) 2 ?_)
  rintro⟨r56,r57⟩ f59 h
  refine reg hS [(4,.ref 1 0),(5,.ref 2 0)] [V2 x2 x3 x4 r57,V4 0 0 [],.var [ai 10,ai r8.at_,as_ r20,vWo r36,.nils,.full [V9 r56]]] (dk1 (cb f59)) ?_
  exact Rt h [4]
 refine reg hS [(0,.ref 0 0),(1,ab inCase1),(4,.ref 1 0),(5,.ref 2 0)] [V2 x2 x3 x4 x21,V4 0 0 [],.var [ai 10,ai r8.at_,as_ r20,.full (List.map Word.pv [Word.mk 2 [42] [] [] []]),.nils,.nils]] dk ?_
 refine seq (Xa2 h [0,1,4,5] (Z hk 1 255 (([41]:Str),x2,x3,x4,x21)) 1 fun r64 x65 h=>?_)
 refine seq (Ua1 h [0,1,4,5] (Z hk 5 168 (x2,x3,x4,x65)) fun x72 h=>?_)
 refine seq (xb h (Z hk 6 200 (inCase1,x2,x3,x4,x72)) 2 ?_)
 rintro⟨r76,r77⟩ f79 h
 refine reg hS [(4,.ref 1 0),(5,.ref 2 0)] [V2 x2 x3 x4 r77,V4 0 0 [],.var [ai 10,ai r8.at_,as_ r20,.full (List.map Word.pv [Word.mk 2 [42] [] [] []]),.nils,.full [V9 r76]]] (dk1 (cb f79)) ?_
 exact Rt h [4]
theorem K4n{w200:Y0}{w252:Y1}(c:AllG env [(S84 F84),(S252 w252),(S129 F129),(S80 F80),(S47 (F47 w200))]):Q0a env (S258 (F258 w200 w252)):=by
 refine hd c K9f 35 ?_
 rintro O X hS hX hpf hk ⟨x1,x2,x3,x4⟩ (r:Int ⊕ (Cmd×Int)) (h:F258 w200 w252 x1 x2 x3 x4=some r)
 have pf_84:O.pf 84=false:=pft hpf 84 rfl
 have pf_252:O.pf 252=false:=pft hpf 252 rfl
 refine gs ?_
 rw[F258]at h
 refine R [0,2] ?_
 refine seq (Ua1 h [0,2,3] (Z hk 0 84 (0,x1,x2,x3,x4)) fun r7 h=>?_)
 refine R [0,2,3] ?_
 refine seq (xb h (Z hk 1 252 (x1,x2,x3,IntKind.wrap .i64 (x4+1))) 1 ?_)
 rintro⟨r11,r12⟩ f14 h
 refine reg hS [(0,.ref 0 0),(2,.ref 1 0),(3,.ref 2 0)] [V2 x1 x2 x3 r12,V4 0 0 [],.var [ai 18,ai r7.at_,as_ [],.full [V10 r11],.nils,.nils]] (dk1 (cb f14)) ?_
 refine seq (block ?_)
 refine Lq r (J3z x1 x2 x3 w252 w200 r7) (fun(x19,l20)=>⟨sl [(0,.ref 0 0),(2,.ref 1 0),(3,.ref 2 0)],35,[V2 x1 x2 x3 x19,V4 0 0 [],V12 18 r7.at_ [] l20.length,rWo l20]⟩) ?_ ?_
 ·obtain⟨r58,f60,h⟩:=oc h (Z hk 0 84 (0,x1,x2,x3,r12))
  obtain⟨r62,f64,h⟩:=oc h (Zt hk 2 129 r58)
  refine seq (seq ?_)
  refine rg hS [0,2,3,21] (di1 (an pf_84 (an (cb f60) (ca f64)))) ?_
  refine iz h (fun h=>?_) fun h=>?_
  ·refine skip (block ?_)
   rcases Q1m h with⟨n70,q68,rfl⟩|⟨⟨r66,r67⟩,q68,h⟩
   ·have f71:=(hk 1 252 rfl).boom (x1,x2,x3,r12) q68 rfl rfl
    have e72:=Q4y f71 rfl rfl
    refine dregS mixed hS hX 3 [0,1,2] [.ref 2 3,.full [V10 r11],.ref 0 0,.any,.any,.any,.any,.any] [(22,.ref 2 3),(23,.full [V10 r11]),(24,.ref 0 0),(25,.any),(26,.any),(27,.any),(28,.any),(0,.ref 0 0),(2,.ref 1 0),(3,.ref 2 0),(21,ab r62)] rfl (by kernel_rfl) rfl (H':=[.gone,V4 0 0 [],.var [ai 18,ai r7.at_,as_ [],.full [V10 r11],.nils,.nils]]) ?_ ?_ (Q7y rfl rfl rfl)
    ·repeat'(first|exact Q1b.nil|refine Q1b.cons rfl rfl rfl ?_ ?_)
     all_goals exact dv
    exact Q3k.call rfl rfl (by simp -implicitDefEqProofs only[RUNS,Q0s,Nat.reduceAdd,Nat.reduceLeDiff,Nat.reduceSub,reduceIte,Nat.reduceEqDiff,Nat.reduceLT,reduceCtorEq,Nat.reduceMul,Nat.reduceBEq,Int.reduceEq,Int.reduceToNat,Int.toNat_zero,Nat.sub_zero,if_true,if_false,eq_self,ne_eq,TYS,e72]<;>rfl)
   dsimp only at h
   have f69:=(hk 1 252 rfl).ret (x1,x2,x3,r12) q68 rfl rfl
   have e73:=Q6p f69 rfl rfl rfl rfl
   obtain⟨out74,q75,h⟩:=obs h
   have f76:=Q2o q75
   try simp only[LNS,List.length_replicate,Nat.reduceAdd,Nat.reduceLeDiff,Nat.add_zero,Nat.reduceMul]at f76
   have f76m:=Q2y Word.pv q75
   try simp only[PVE,List.nil_append]at f76m
   have f76n:=Q2x q75
   try simp only[LNS]at f76n
   refine dregV mixed hS [3,5,7] [(0,0),(0,1),(1,0),(1,1),(2,0),(3,0),(4,1),(5,1),(6,2),(7,2)] [.ref 2 3,.full [V10 r11],.ref 0 0,.pv (V10 r66),.full [V10 r66],.vec 3 (List.length out74),.ref 2 3,.any] [[V2 x1 x2 x3 r12,V4 0 0 [],.var [ai 18,ai r7.at_,as_ [],.full [V10 r11],.nils,.nils]],[V2 x1 x2 x3 r67,V4 0 0 [],.var [ai 18,ai r7.at_,as_ [],.full [V10 r11],.nils,.nils]],[V2 x1 x2 x3 r67,V4 0 0 [],.var [ai 18,ai r7.at_,as_ [],.full [V10 r11],.nils,.nils],rWo out74],[V2 x1 x2 x3 r67,V4 0 0 [],V12 18 r7.at_ [] out74.length,rWo out74]] [(22,.ref 2 3),(23,.full [V10 r11]),(24,.ref 0 0),(25,.pv (V10 r66)),(26,.full [V10 r66]),(27,.vec 3 (List.length out74)),(28,.ref 2 3),(0,.ref 0 0),(2,.ref 1 0),(3,.ref 2 0),(21,ab r62)] (by kernel_rfl) (by kernel_rfl) (by kernel_rfl) ?_ [(0,.ref 0 0),(2,.ref 1 0),(3,.ref 2 0)] [V2 x1 x2 x3 r67,V4 0 0 [],V12 18 r7.at_ [] out74.length,rWo out74] ⟨rfl,rfl,rfl,trivial⟩ rfl ?_
   ·repeat'(first|exact Q1b.nil|refine Q1b.cons rfl rfl rfl ?_ ?_)
    all_goals exact dv1 (an pf_252 (an e73 (an f76.1 (an f76m f76n))))
   clear f76
   clear f76m
   clear f76n
   exact ny h
  refine exit (seq ?_)
  refine seq (Ua2 h [0,2,3,30] (Z hk 3 80 (x1,x2,x3,r12)) fun r77 x78 h=>?_)
  refine ik h (fun h=>?_) fun h=>?_
  ·refine Xa2 h [2,3] (Z hk 4 47 (true,x1,x2,x3,x78)) 1 fun r83 x84 h=>?_
   exact Rt h [2]
  exact Rt h [2]
 clear h
 rintro⟨x19,l20⟩ m23 h
 unfold J3z at h
 try dsimp only at h
 obtain⟨r24,f26,h⟩:=oc h (Z hk 0 84 (0,x1,x2,x3,x19))
 obtain⟨r28,f30,h⟩:=oc h (Zt hk 2 129 r24)
 refine AW.st (seq ?_)
 refine seq (rg hS [0,2,3,21] (di1 (an pf_84 (an (cb f26) (ca f30)))) ?_)
 refine iz h (fun h=>?_) fun h=>?_
 ·refine skip (block ?_)
  rcases Q1m h with⟨n36,q34,rfl⟩|⟨⟨r32,r33⟩,q34,h⟩
  ·have f37:=(hk 1 252 rfl).boom (x1,x2,x3,x19) q34 rfl rfl
   have e38:=Q4y f37 rfl rfl
   refine dregS mixed hS hX 3 [0,1,2] [.ref 2 3,.vec 3 (List.length l20),.ref 0 0,.any,.any,.any,.any,.any] [(22,.ref 2 3),(23,.vec 3 (List.length l20)),(24,.ref 0 0),(25,.any),(26,.any),(27,.any),(28,.any),(0,.ref 0 0),(2,.ref 1 0),(3,.ref 2 0),(21,ab r28)] rfl (by kernel_rfl) rfl (H':=[.gone,V4 0 0 [],V12 18 r7.at_ [] l20.length,rWo l20]) ?_ ?_ (Q7y rfl rfl rfl)
   ·repeat'(first|exact Q1b.nil|refine Q1b.cons rfl rfl rfl ?_ ?_)
    all_goals exact dv
   exact Q3k.call rfl rfl (by simp -implicitDefEqProofs only[RUNS,Q0s,Nat.reduceAdd,Nat.reduceLeDiff,Nat.reduceSub,reduceIte,Nat.reduceEqDiff,Nat.reduceLT,reduceCtorEq,Nat.reduceMul,Nat.reduceBEq,Int.reduceEq,Int.reduceToNat,Int.toNat_zero,Nat.sub_zero,if_true,if_false,eq_self,ne_eq,TYS,e38]<;>rfl)
  dsimp only at h
  have f35:=(hk 1 252 rfl).ret (x1,x2,x3,x19) q34 rfl rfl
  have e39:=Q6p f35 rfl rfl rfl rfl
  obtain⟨out40,q41,h⟩:=obs h
  have f42:=Q2o q41
  try simp only[LNS,List.length_replicate,Nat.reduceAdd,Nat.reduceLeDiff,Nat.add_zero,Nat.reduceMul]at f42
  have f42m:=Q2y Word.pv q41
  try simp only[PVE,List.nil_append]at f42m
  have f42n:=Q2x q41
  try simp only[LNS]at f42n
  refine dregV mixed hS [3,5,7] [(0,0),(0,1),(1,0),(1,1),(2,0),(3,0),(4,1),(5,1),(6,2),(7,2)] [.ref 2 3,.vec 3 (List.length l20),.ref 0 0,.pv (V10 r32),.full [V10 r32],.vec 3 (List.length out40),.ref 2 3,.any] [[V2 x1 x2 x3 x19,V4 0 0 [],V12 18 r7.at_ [] l20.length,rWo l20],[V2 x1 x2 x3 r33,V4 0 0 [],V12 18 r7.at_ [] l20.length,rWo l20],[V2 x1 x2 x3 r33,V4 0 0 [],V12 18 r7.at_ [] l20.length,rWo out40],[V2 x1 x2 x3 r33,V4 0 0 [],V12 18 r7.at_ [] out40.length,rWo out40]] [(22,.ref 2 3),(23,.vec 3 (List.length l20)),(24,.ref 0 0),(25,.pv (V10 r32)),(26,.full [V10 r32]),(27,.vec 3 (List.length out40)),(28,.ref 2 3),(0,.ref 0 0),(2,.ref 1 0),(3,.ref 2 0),(21,ab r28)] (by kernel_rfl) (by kernel_rfl) (by kernel_rfl) ?_ [(0,.ref 0 0),(2,.ref 1 0),(3,.ref 2 0)] [V2 x1 x2 x3 r33,V4 0 0 [],V12 18 r7.at_ [] out40.length,rWo out40] ⟨rfl,rfl,rfl,trivial⟩ rfl ?_
  ·repeat'(first|exact Q1b.nil|refine Q1b.cons rfl rfl rfl ?_ ?_)
   all_goals exact dv1 (an pf_252 (an e39 (an f42.1 (an f42m f42n))))
  clear f42
  clear f42m
  clear f42n
  exact nx h
 refine exit (seq ?_)
 refine seq (Ua2 h [0,2,3,30] (Z hk 3 80 (x1,x2,x3,x19)) fun r43 x44 h=>?_)
 refine ik h (fun h=>?_) fun h=>?_
 ·refine Xa2 h [2,3] (Z hk 4 47 (true,x1,x2,x3,x44)) 1 fun r49 x50 h=>?_
  exact Rt h [2]
 exact Rt h [2]
theorem K5e{w200:Y0}{w252:Y1}(c:AllG env [(S84 F84),(S252 w252),(S255 F255),(S80 F80),(S83 F83),(S258 (F258 w200 w252))]):Q0a env (S228 (F228 w200 w252)):=by
 refine hd c K9v 37 ?_
 rintro O X hS hX hpf hk ⟨x1,x2,x3,x4⟩ (r:Int ⊕ (Cmd×Int)) (h:F228 w200 w252 x1 x2 x3 x4=some r)
 have pf_84:O.pf 84=false:=pft hpf 84 rfl
 have pf_258:O.pf 258=false:=pft hpf 258 rfl
 refine gs ?_
 rw[F228]at h
 refine R [0,2] ?_
 obtain⟨r7,f9,h⟩:=oc h (Z hk 0 84 (0,x1,x2,x3,x4))
 refine seq (AW.after ?_)
 refine reg hS [(0,.ref 0 0),(2,.ref 1 0),(3,.ref 2 0)] [V2 x1 x2 x3 x4,V4 0 0 [],V4 17 r7.at_ []] (dk1 (cb f9)) ?_
 refine⟨⟨sl [(0,.ref 0 0),(2,.ref 1 0),(3,.ref 2 0)],37,[V2 x1 x2 x3 x4,V4 0 0 [],.var [ai 17,ai r7.at_,as_ [],.nils,.nils,.vec 3 (List.length ([]:List Cmd))],.row 36 6 (List.map Cmd.pv ([]:List Cmd)) true]⟩,(Weak.trans (Weak.ownC (σ:=⟨sl [(0,.ref 0 0),(2,.ref 1 0),(3,.ref 2 0)],37,[V2 x1 x2 x3 x4,V4 0 0 [],V4 17 r7.at_ []]⟩) 2 5 36 6 (by decide) (cs:=[ai 17,ai r7.at_,as_ [],.nils,.nils,.nils]) rfl rfl) (Weak.slots (L:=[(0,.ref 0 0),(2,.ref 1 0),(3,.ref 2 0)]) ⟨rfl,rfl,rfl,trivial⟩)),?_⟩
 refine R [0,2,3] ?_
 refine seq (xb h (Z hk 1 252 (x1,x2,x3,IntKind.wrap .i64 (x4+1))) 1 ?_)
 rintro⟨r11,r12⟩ f14 h
 refine reg hS [(0,.ref 0 0),(2,.ref 1 0),(3,.ref 2 0)] [V2 x1 x2 x3 r12,V4 0 0 [],.var [ai 17,ai r7.at_,as_ [],.full [V10 r11],.nils,.vec 3 (List.length ([]:List Cmd))],.row 36 6 (List.map Cmd.pv ([]:List Cmd)) true] (dk1 (cb f14)) ?_
 refine seq (Xa2 h [0,2,3] (Z hk 2 255 (([123]:Str),x1,x2,x3,r12)) 1 fun r19 x20 h=>?_)
 refine seq (Ua2 h [0,2,3] (Z hk 3 80 (x1,x2,x3,x20)) fun r27 x28 h=>?_)
 refine seq (block ?_)
 refine Lp h (fun(x32,l33)=>⟨sl [(0,.ref 0 0),(2,.ref 1 0),(3,.ref 2 0)],37,[V2 x1 x2 x3 x32,V4 0 0 [],.var [ai 17,ai r7.at_,as_ [],.full [V10 r11],.nils,.vec 3 (List.length l33)],rCm l33]⟩) ?_
 clear h
 rintro⟨x32,l33⟩ m36 h
 rw[X3a]at h
 try dsimp only at h
 obtain⟨r37,f39,h⟩:=oc h (Z hk 0 84 (0,x1,x2,x3,x32))
 obtain⟨r41,f43,h⟩:=oc h (Zt hk 4 83 r37)
 refine AW.st (seq ?_)
 refine seq (rg hS [0,2,3,26] (di1 (an pf_84 (an (cb f39) (ca f43)))) ?_)
 refine iz h (fun h=>?_) fun h=>?_
 ·refine skip (block ?_)
  rcases Q1m h with⟨n49,q47,rfl⟩|⟨⟨r45,x46⟩,q47,h⟩
  ·have f50:=(hk 5 258 rfl).boom (x1,x2,x3,x32) q47 rfl rfl
   have e51:=Q4y f50 rfl rfl
   refine dregS mixed hS hX 3 [0,1,2] [.ref 2 5,.vec 3 (List.length l33),.ref 0 0,.any,.any,.any,.any,.any] [(27,.ref 2 5),(28,.vec 3 (List.length l33)),(29,.ref 0 0),(30,.any),(31,.any),(32,.any),(33,.any),(0,.ref 0 0),(2,.ref 1 0),(3,.ref 2 0),(26,ab (decide (r41=[99,97,115,101])))] rfl (by kernel_rfl) rfl (H':=[.gone,V4 0 0 [],.var [ai 17,ai r7.at_,as_ [],.full [V10 r11],.nils,.vec 3 (List.length l33)],rCm l33]) ?_ ?_ (Q7y rfl rfl rfl)
   ·repeat'(first|exact Q1b.nil|refine Q1b.cons rfl rfl rfl ?_ ?_)
    all_goals exact dv
   exact Q3k.call rfl rfl (by simp -implicitDefEqProofs only[RUNS,Q0s,Nat.reduceAdd,Nat.reduceLeDiff,Nat.reduceSub,reduceIte,Nat.reduceEqDiff,Nat.reduceLT,reduceCtorEq,Nat.reduceMul,Nat.reduceBEq,Int.reduceEq,Int.reduceToNat,Int.toNat_zero,Nat.sub_zero,if_true,if_false,eq_self,ne_eq,TYS,e51]<;>rfl)
  dsimp only at h
  have f48:=(hk 5 258 rfl).ret (x1,x2,x3,x32) q47 rfl rfl
  have e52:=Q6p f48 rfl rfl rfl rfl
  obtain⟨out53,q54,h⟩:=obs h
  have f55:=Q2o q54
  try simp only[LNS,List.length_replicate,Nat.reduceAdd,Nat.reduceLeDiff,Nat.add_zero,Nat.reduceMul]at f55
  have f55m:=Q2y Cmd.pv q54
  try simp only[PVE,List.nil_append]at f55m
  have f55n:=Q2x q54
  try simp only[LNS]at f55n
  refine dregV mixed hS [3,5,7] [(0,0),(0,1),(1,0),(1,1),(2,0),(3,0),(4,1),(5,1),(6,2),(7,2)] [.ref 2 5,.vec 3 (List.length l33),.ref 0 0,.pv (V9 r45),.full [V9 r45],.vec 3 (List.length out53),.ref 2 5,.any] [[V2 x1 x2 x3 x32,V4 0 0 [],.var [ai 17,ai r7.at_,as_ [],.full [V10 r11],.nils,.vec 3 (List.length l33)],rCm l33],[V2 x1 x2 x3 x46,V4 0 0 [],.var [ai 17,ai r7.at_,as_ [],.full [V10 r11],.nils,.vec 3 (List.length l33)],rCm l33],[V2 x1 x2 x3 x46,V4 0 0 [],.var [ai 17,ai r7.at_,as_ [],.full [V10 r11],.nils,.vec 3 (List.length l33)],rCm out53],[V2 x1 x2 x3 x46,V4 0 0 [],.var [ai 17,ai r7.at_,as_ [],.full [V10 r11],.nils,.vec 3 (List.length out53)],rCm out53]] [(27,.ref 2 5),(28,.vec 3 (List.length l33)),(29,.ref 0 0),(30,.pv (V9 r45)),(31,.full [V9 r45]),(32,.vec 3 (List.length out53)),(33,.ref 2 5),(0,.ref 0 0),(2,.ref 1 0),(3,.ref 2 0),(26,ab (decide (r41=[99,97,115,101])))] (by kernel_rfl) (by kernel_rfl) (by kernel_rfl) ?_ [(0,.ref 0 0),(2,.ref 1 0),(3,.ref 2 0)] [V2 x1 x2 x3 x46,V4 0 0 [],.var [ai 17,ai r7.at_,as_ [],.full [V10 r11],.nils,.vec 3 (List.length out53)],rCm out53] ⟨rfl,rfl,rfl,trivial⟩ rfl ?_
  ·repeat'(first|exact Q1b.nil|refine Q1b.cons rfl rfl rfl ?_ ?_)
   all_goals exact dv1 (an pf_258 (an e52 (an f55.1 (an f55m f55n))))
  clear f55
  clear f55m
  clear f55n
  exact nx h
 refine exit (seq ?_)
 refine Xa2 h [2,3] (Z hk 2 255 (([125]:Str),x1,x2,x3,x32)) 1 fun r56 x57 h=>?_
 exact Rt h [2]
theorem K5d{w200:Y0}(c:AllG env [(S84 F84),(S256 F256),(S127 F127),(S253 (F253 w200))]):Q0a env (S229 (F229 w200)):=by
 refine hd c K9u 33 ?_
 rintro O X hS hX hpf hk ⟨x1,x2,x3,x4⟩ (r:Int ⊕ (Cmd×Int)) (h:F229 w200 x1 x2 x3 x4=some r)
 refine gs ?_
 rw[F229]at h
 refine R [0,2] ?_
 refine seq (Ua1 h [0,2,3] (Z hk 0 84 (0,x1,x2,x3,x4)) fun r7 h=>?_)
 refine R [0,2,3] ?_
 refine seq (Xa2 h [0,2,3] (Z hk 1 256 (x1,x2,x3,IntKind.wrap .i64 (x4+1))) 1 fun r11 x12 h=>?_)
 refine seq (seq ?_)
 refine Ua1 h [0,2,3,20] (Z hk 2 127 (([123]:Str),x1,x2,x3,x12)) fun r19 h=>?_
 refine ik h (fun h=>?_) fun h=>?_
 ·exact Rt h [2]
 refine seq (Xa2 h [2,3] (Z hk 3 253 (x1,x2,x3,x12)) 1 fun r24 x25 h=>?_)
 refine seq (R [2,3,28] ?_)
 refine ik h (fun h=>?_) fun h=>?_
 ·refine reg hS [(2,.ref 1 0),(3,.ref 2 0)] [V2 x1 x2 x3 x25,V4 0 0 [],.var [ai 15,ai r7.at_,as_ r11,.nils,.nils,.full (List.map Cmd.pv [Cmd.mk 12 0 [] [] [] []])]] dk ?_
  exact Rt h [2]
 exact Rt h [2]
theorem K5c{w252:Y1}(c:AllG env [(S84 F84),(S252 w252),(S129 F129)]):Q0a env (S230 (F230 w252)):=by
 refine hd c K9t 30 ?_
 rintro O X hS hX hpf hk ⟨x1,x2,x3,x4⟩ (r:Int ⊕ (Cmd×Int)) (h:F230 w252 x1 x2 x3 x4=some r)
 have pf_84:O.pf 84=false:=pft hpf 84 rfl
 have pf_252:O.pf 252=false:=pft hpf 252 rfl
 refine gs ?_
 rw[F230]at h
 refine R [0,2] ?_
 refine seq (Ua1 h [0,2,3] (Z hk 0 84 (0,x1,x2,x3,x4)) fun r7 h=>?_)
 refine R [0,2,3] ?_
 refine seq (xb h (Z hk 1 252 (x1,x2,x3,IntKind.wrap .i64 (x4+1))) 1 ?_)
 rintro⟨r11,r12⟩ f14 h
 refine reg hS [(0,.ref 0 0),(2,.ref 1 0),(3,.ref 2 0)] [V2 x1 x2 x3 r12,V4 0 0 [],.var [ai 16,ai r7.at_,as_ [],.full [V10 r11],.nils,.nils]] (dk1 (cb f14)) ?_
 refine seq (block ?_)
 refine Lq r (J4b x1 x2 x3 w252 r7) (fun(x19,l20)=>⟨sl [(0,.ref 0 0),(2,.ref 1 0),(3,.ref 2 0)],30,[V2 x1 x2 x3 x19,V4 0 0 [],V12 16 r7.at_ [] l20.length,rWo l20]⟩) ?_ ?_
 ·obtain⟨r44,f46,h⟩:=oc h (Z hk 0 84 (0,x1,x2,x3,r12))
  obtain⟨r48,f50,h⟩:=oc h (Zt hk 2 129 r44)
  refine seq (seq ?_)
  refine rg hS [0,2,3,21] (di1 (an pf_84 (an (cb f46) (ca f50)))) ?_
  refine iz h (fun h=>?_) fun h=>?_
  ·refine skip (block ?_)
   rcases Q1m h with⟨n56,q54,rfl⟩|⟨⟨r52,r53⟩,q54,h⟩
   ·have f57:=(hk 1 252 rfl).boom (x1,x2,x3,r12) q54 rfl rfl
    have e58:=Q4y f57 rfl rfl
    refine dregS mixed hS hX 3 [0,1,2] [.ref 2 3,.full [V10 r11],.ref 0 0,.any,.any,.any,.any,.any] [(22,.ref 2 3),(23,.full [V10 r11]),(24,.ref 0 0),(25,.any),(26,.any),(27,.any),(28,.any),(0,.ref 0 0),(2,.ref 1 0),(3,.ref 2 0),(21,ab r48)] rfl (by kernel_rfl) rfl (H':=[.gone,V4 0 0 [],.var [ai 16,ai r7.at_,as_ [],.full [V10 r11],.nils,.nils]]) ?_ ?_ (Q7y rfl rfl rfl)
    ·repeat'(first|exact Q1b.nil|refine Q1b.cons rfl rfl rfl ?_ ?_)
     all_goals exact dv
    exact Q3k.call rfl rfl (by simp -implicitDefEqProofs only[RUNS,Q0s,Nat.reduceAdd,Nat.reduceLeDiff,Nat.reduceSub,reduceIte,Nat.reduceEqDiff,Nat.reduceLT,reduceCtorEq,Nat.reduceMul,Nat.reduceBEq,Int.reduceEq,Int.reduceToNat,Int.toNat_zero,Nat.sub_zero,if_true,if_false,eq_self,ne_eq,TYS,e58]<;>rfl)
   dsimp only at h
   have f55:=(hk 1 252 rfl).ret (x1,x2,x3,r12) q54 rfl rfl
   have e59:=Q6p f55 rfl rfl rfl rfl
   obtain⟨out60,q61,h⟩:=obs h
   have f62:=Q2o q61
   try simp only[LNS,List.length_replicate,Nat.reduceAdd,Nat.reduceLeDiff,Nat.add_zero,Nat.reduceMul]at f62
   have f62m:=Q2y Word.pv q61
   try simp only[PVE,List.nil_append]at f62m
   have f62n:=Q2x q61
   try simp only[LNS]at f62n
   refine dregV mixed hS [3,5,7] [(0,0),(0,1),(1,0),(1,1),(2,0),(3,0),(4,1),(5,1),(6,2),(7,2)] [.ref 2 3,.full [V10 r11],.ref 0 0,.pv (V10 r52),.full [V10 r52],.vec 3 (List.length out60),.ref 2 3,.any] [[V2 x1 x2 x3 r12,V4 0 0 [],.var [ai 16,ai r7.at_,as_ [],.full [V10 r11],.nils,.nils]],[V2 x1 x2 x3 r53,V4 0 0 [],.var [ai 16,ai r7.at_,as_ [],.full [V10 r11],.nils,.nils]],[V2 x1 x2 x3 r53,V4 0 0 [],.var [ai 16,ai r7.at_,as_ [],.full [V10 r11],.nils,.nils],rWo out60],[V2 x1 x2 x3 r53,V4 0 0 [],V12 16 r7.at_ [] out60.length,rWo out60]] [(22,.ref 2 3),(23,.full [V10 r11]),(24,.ref 0 0),(25,.pv (V10 r52)),(26,.full [V10 r52]),(27,.vec 3 (List.length out60)),(28,.ref 2 3),(0,.ref 0 0),(2,.ref 1 0),(3,.ref 2 0),(21,ab r48)] (by kernel_rfl) (by kernel_rfl) (by kernel_rfl) ?_ [(0,.ref 0 0),(2,.ref 1 0),(3,.ref 2 0)] [V2 x1 x2 x3 r53,V4 0 0 [],V12 16 r7.at_ [] out60.length,rWo out60] ⟨rfl,rfl,rfl,trivial⟩ rfl ?_
   ·repeat'(first|exact Q1b.nil|refine Q1b.cons rfl rfl rfl ?_ ?_)
    all_goals exact dv1 (an pf_252 (an e59 (an f62.1 (an f62m f62n))))
   clear f62
   clear f62m
   clear f62n
   exact ny h
  exact exit (Rt h [2])
 clear h
 rintro⟨x19,l20⟩ m23 h
 unfold J4b at h
 try dsimp only at h
 obtain⟨r24,f26,h⟩:=oc h (Z hk 0 84 (0,x1,x2,x3,x19))
 obtain⟨r28,f30,h⟩:=oc h (Zt hk 2 129 r24)
 refine AW.st (seq ?_)
 refine seq (rg hS [0,2,3,21] (di1 (an pf_84 (an (cb f26) (ca f30)))) ?_)
 refine iz h (fun h=>?_) fun h=>?_
 ·refine skip (block ?_)
  rcases Q1m h with⟨n36,q34,rfl⟩|⟨⟨r32,r33⟩,q34,h⟩
  ·have f37:=(hk 1 252 rfl).boom (x1,x2,x3,x19) q34 rfl rfl
   have e38:=Q4y f37 rfl rfl
   refine dregS mixed hS hX 3 [0,1,2] [.ref 2 3,.vec 3 (List.length l20),.ref 0 0,.any,.any,.any,.any,.any] [(22,.ref 2 3),(23,.vec 3 (List.length l20)),(24,.ref 0 0),(25,.any),(26,.any),(27,.any),(28,.any),(0,.ref 0 0),(2,.ref 1 0),(3,.ref 2 0),(21,ab r28)] rfl (by kernel_rfl) rfl (H':=[.gone,V4 0 0 [],V12 16 r7.at_ [] l20.length,rWo l20]) ?_ ?_ (Q7y rfl rfl rfl)
   ·repeat'(first|exact Q1b.nil|refine Q1b.cons rfl rfl rfl ?_ ?_)
    all_goals exact dv
   exact Q3k.call rfl rfl (by simp -implicitDefEqProofs only[RUNS,Q0s,Nat.reduceAdd,Nat.reduceLeDiff,Nat.reduceSub,reduceIte,Nat.reduceEqDiff,Nat.reduceLT,reduceCtorEq,Nat.reduceMul,Nat.reduceBEq,Int.reduceEq,Int.reduceToNat,Int.toNat_zero,Nat.sub_zero,if_true,if_false,eq_self,ne_eq,TYS,e38]<;>rfl)
  dsimp only at h
  have f35:=(hk 1 252 rfl).ret (x1,x2,x3,x19) q34 rfl rfl
  have e39:=Q6p f35 rfl rfl rfl rfl
  obtain⟨out40,q41,h⟩:=obs h
  have f42:=Q2o q41
  try simp only[LNS,List.length_replicate,Nat.reduceAdd,Nat.reduceLeDiff,Nat.add_zero,Nat.reduceMul]at f42
  have f42m:=Q2y Word.pv q41
  try simp only[PVE,List.nil_append]at f42m
  have f42n:=Q2x q41
  try simp only[LNS]at f42n
  refine dregV mixed hS [3,5,7] [(0,0),(0,1),(1,0),(1,1),(2,0),(3,0),(4,1),(5,1),(6,2),(7,2)] [.ref 2 3,.vec 3 (List.length l20),.ref 0 0,.pv (V10 r32),.full [V10 r32],.vec 3 (List.length out40),.ref 2 3,.any] [[V2 x1 x2 x3 x19,V4 0 0 [],V12 16 r7.at_ [] l20.length,rWo l20],[V2 x1 x2 x3 r33,V4 0 0 [],V12 16 r7.at_ [] l20.length,rWo l20],[V2 x1 x2 x3 r33,V4 0 0 [],V12 16 r7.at_ [] l20.length,rWo out40],[V2 x1 x2 x3 r33,V4 0 0 [],V12 16 r7.at_ [] out40.length,rWo out40]] [(22,.ref 2 3),(23,.vec 3 (List.length l20)),(24,.ref 0 0),(25,.pv (V10 r32)),(26,.full [V10 r32]),(27,.vec 3 (List.length out40)),(28,.ref 2 3),(0,.ref 0 0),(2,.ref 1 0),(3,.ref 2 0),(21,ab r28)] (by kernel_rfl) (by kernel_rfl) (by kernel_rfl) ?_ [(0,.ref 0 0),(2,.ref 1 0),(3,.ref 2 0)] [V2 x1 x2 x3 r33,V4 0 0 [],V12 16 r7.at_ [] out40.length,rWo out40] ⟨rfl,rfl,rfl,trivial⟩ rfl ?_
  ·repeat'(first|exact Q1b.nil|refine Q1b.cons rfl rfl rfl ?_ ?_)
   all_goals exact dv1 (an pf_252 (an e39 (an f42.1 (an f42m f42n))))
  clear f42
  clear f42m
  clear f42n
  exact nx h
 exact exit (Rt h [2])
theorem K5b{w252:Y1}(c:AllG env [(S84 F84),(S83 F83),(S48 F48),(S129 F129),(S252 w252),(S130 F130),(S254 (F254 w252))]):Q0a env (S231 (F231 w252)):=by
 refine hd c K9s 60 ?_
 rintro O X hS hX hpf hk ⟨x1,x2,x3,x4⟩ (r:Int ⊕ (Cmd×Int)) (h:F231 w252 x1 x2 x3 x4=some r)
 have pf_252:O.pf 252=false:=pft hpf 252 rfl
 have pf_254:O.pf 254=false:=pft hpf 254 rfl
 refine gs ?_
 rw[F231]at h
 refine R [0,2] ?_
 obtain⟨r7,f9,h⟩:=oc h (Z hk 0 84 (0,x1,x2,x3,x4))
 refine seq (AW.after ?_)
 refine reg hS [(0,.ref 0 0),(2,.ref 1 0),(3,.ref 2 0)] [V2 x1 x2 x3 x4,V4 0 0 [],V4 1 r7.at_ []] (dk1 (cb f9)) ?_
 refine⟨⟨sl [(0,.ref 0 0),(2,.ref 1 0),(3,.ref 2 0)],60,[V2 x1 x2 x3 x4,V4 0 0 [],V13 1 r7.at_ [] (List.length ([]:List Word)) (List.length ([]:List Redir)),.row 49 5 (List.map Word.pv ([]:List Word)) true,.row 51 9 (List.map Redir.pv ([]:List Redir)) true]⟩,(Weak.trans (Weak.ownC (σ:=⟨sl [(0,.ref 0 0),(2,.ref 1 0),(3,.ref 2 0)],60,[V2 x1 x2 x3 x4,V4 0 0 [],V4 1 r7.at_ []]⟩) 2 3 49 5 (by decide) (cs:=[ai 1,ai r7.at_,as_ [],.nils,.nils,.nils]) rfl rfl) (Weak.trans (Weak.slots (L:=[(0,.ref 0 0),(2,.ref 1 0),(3,.ref 2 0)]) ⟨rfl,rfl,rfl,trivial⟩) (Weak.trans (Weak.ownC (σ:=⟨sl [(0,.ref 0 0),(2,.ref 1 0),(3,.ref 2 0)],60,[V2 x1 x2 x3 x4,V4 0 0 [],V12 1 r7.at_ [] (List.length ([]:List Word)),.row 49 5 (List.map Word.pv ([]:List Word)) true]⟩) 2 4 51 9 (by decide) (cs:=[ai 1,ai r7.at_,as_ [],.vec 3 (List.length ([]:List Word)),.nils,.nils]) rfl rfl) (Weak.slots (L:=[(0,.ref 0 0),(2,.ref 1 0),(3,.ref 2 0)]) ⟨rfl,rfl,rfl,trivial⟩)))),?_⟩
 refine block (Lp h (fun(x11,l12,l13)=>⟨sl [(0,.ref 0 0),(2,.ref 1 0),(3,.ref 2 0)],60,[V2 x1 x2 x3 x11,V4 0 0 [],V13 1 r7.at_ [] l12.length l13.length,rWo l12,rRe l13]⟩) ?_)
 clear h
 rintro⟨x11,l12,l13⟩ m16 h
 rw[X2z]at h
 try dsimp only at h
 refine AW.st (block ?_)
 refine seq (Ua1 h [0,2,3,4] (Z hk 0 84 (0,x1,x2,x3,x11)) fun r17 h=>?_)
 obtain⟨r21,q22,h⟩:=obs h
 replace q22:=Q0b q22
 have f23:=fun hg=>(hk 1 83 rfl).ret r17 (q22 hg) rfl rfl
 refine block (seq ?_)
 refine reg hS [(0,.ref 0 0),(2,.ref 1 0),(3,.ref 2 0),(4,.ref 5 0),(12,ab ((((decide ((l12.length:Int)=0)&&decide (0<(l13.length:Int)))&&!decide (r21=[]))&&!decide (r21=[110,111,116]))&&!decide (r21=[105,110])))] [V2 x1 x2 x3 x11,V4 0 0 [],V13 1 r7.at_ [] l12.length l13.length,rWo l12,rRe l13,V1 r17] ?_ ?_
 ·clear h hk hS hX c
  exact dh1 (ap1 83 hpf f23)
 refine iz h (fun h=>?_) fun h=>?_
 ·refine Xa1 h [0,2,3] (Z hk 2 48 (x1,x2,x3,x11)) 1 fun _ h=>?_
  exact nx h
 refine seq (Ua1 h [0,2,3,4,40] (Zt hk 3 129 r17) fun r31 h=>?_)
 refine iz h (fun h=>?_) fun h=>?_
 ·rcases Q1m h with⟨n39,q37,rfl⟩|⟨⟨r35,r36⟩,q37,h⟩
  ·have f40:=(hk 4 252 rfl).boom (x1,x2,x3,x11) q37 rfl rfl
   have e41:=Q4y f40 rfl rfl
   refine dregS mixed hS hX 3 [0,1,2] [.ref 2 3,.vec 3 (List.length l12),.ref 0 0,.any,.any,.any,.any,.any] [(43,.ref 2 3),(44,.vec 3 (List.length l12)),(45,.ref 0 0),(46,.any),(47,.any),(48,.any),(49,.any),(0,.ref 0 0),(2,.ref 1 0),(3,.ref 2 0),(4,.ref 5 0),(40,ab r31)] rfl (by kernel_rfl) rfl (H':=[.gone,V4 0 0 [],V13 1 r7.at_ [] l12.length l13.length,rWo l12,rRe l13,V1 r17]) ?_ ?_ (Q7y rfl rfl rfl)
   ·repeat'(first|exact Q1b.nil|refine Q1b.cons rfl rfl rfl ?_ ?_)
    all_goals exact dv
   exact Q3k.call rfl rfl (by simp -implicitDefEqProofs only[RUNS,Q0s,Nat.reduceAdd,Nat.reduceLeDiff,Nat.reduceSub,reduceIte,Nat.reduceEqDiff,Nat.reduceLT,reduceCtorEq,Nat.reduceMul,Nat.reduceBEq,Int.reduceEq,Int.reduceToNat,Int.toNat_zero,Nat.sub_zero,if_true,if_false,eq_self,ne_eq,TYS,e41]<;>rfl)
  dsimp only at h
  have f38:=(hk 4 252 rfl).ret (x1,x2,x3,x11) q37 rfl rfl
  have e42:=Q6p f38 rfl rfl rfl rfl
  obtain⟨out43,q44,h⟩:=obs h
  have f45:=Q2o q44
  try simp only[LNS,List.length_replicate,Nat.reduceAdd,Nat.reduceLeDiff,Nat.add_zero,Nat.reduceMul]at f45
  have f45m:=Q2y Word.pv q44
  try simp only[PVE,List.nil_append]at f45m
  have f45n:=Q2x q44
  try simp only[LNS]at f45n
  refine dregV mixed hS [3,5,7] [(0,0),(0,1),(1,0),(1,1),(2,0),(3,0),(4,1),(5,1),(6,2),(7,2)] [.ref 2 3,.vec 3 (List.length l12),.ref 0 0,.pv (V10 r35),.full [V10 r35],.vec 3 (List.length out43),.ref 2 3,.any] [[V2 x1 x2 x3 x11,V4 0 0 [],V13 1 r7.at_ [] l12.length l13.length,rWo l12,rRe l13,V1 r17],[V2 x1 x2 x3 r36,V4 0 0 [],V13 1 r7.at_ [] l12.length l13.length,rWo l12,rRe l13,V1 r17],[V2 x1 x2 x3 r36,V4 0 0 [],V13 1 r7.at_ [] l12.length l13.length,rWo out43,rRe l13,V1 r17],[V2 x1 x2 x3 r36,V4 0 0 [],V13 1 r7.at_ [] out43.length l13.length,rWo out43,rRe l13,V1 r17]] [(43,.ref 2 3),(44,.vec 3 (List.length l12)),(45,.ref 0 0),(46,.pv (V10 r35)),(47,.full [V10 r35]),(48,.vec 3 (List.length out43)),(49,.ref 2 3),(0,.ref 0 0),(2,.ref 1 0),(3,.ref 2 0),(4,.ref 5 0),(40,ab r31)] (by kernel_rfl) (by kernel_rfl) (by kernel_rfl) ?_ [(0,.ref 0 0),(2,.ref 1 0),(3,.ref 2 0)] [V2 x1 x2 x3 r36,V4 0 0 [],V13 1 r7.at_ [] out43.length l13.length,rWo out43,rRe l13,V1 r17] ⟨rfl,rfl,rfl,trivial⟩ rfl ?_
  ·repeat'(first|exact Q1b.nil|refine Q1b.cons rfl rfl rfl ?_ ?_)
   all_goals exact dv1 (an pf_252 (an e42 (an f45.1 (an f45m f45n))))
  clear f45
  clear f45m
  clear f45n
  exact nx h
 refine seq (Ua1 h [0,2,3,50] (Zt hk 5 130 r17) fun r46 h=>?_)
 refine iz h (fun h=>?_) fun h=>?_
 ·rcases Q1m h with⟨n54,q52,rfl⟩|⟨⟨r50,x51⟩,q52,h⟩
  ·have f55:=(hk 6 254 rfl).boom (x1,x2,x3,x11) q52 rfl rfl
   have e56:=Q4y f55 rfl rfl
   refine dregS mixed hS hX 3 [0,1,2] [.ref 2 4,.vec 4 (List.length l13),.ref 0 0,.any,.any,.any,.any,.any] [(53,.ref 2 4),(54,.vec 4 (List.length l13)),(55,.ref 0 0),(56,.any),(57,.any),(58,.any),(59,.any),(0,.ref 0 0),(2,.ref 1 0),(3,.ref 2 0),(50,ab r46)] rfl (by kernel_rfl) rfl (H':=[.gone,V4 0 0 [],V13 1 r7.at_ [] l12.length l13.length,rWo l12,rRe l13,V1 r17]) ?_ ?_ (Q7y rfl rfl rfl)
   ·repeat'(first|exact Q1b.nil|refine Q1b.cons rfl rfl rfl ?_ ?_)
    all_goals exact dv
   exact Q3k.call rfl rfl (by simp -implicitDefEqProofs only[RUNS,Q0s,Nat.reduceAdd,Nat.reduceLeDiff,Nat.reduceSub,reduceIte,Nat.reduceEqDiff,Nat.reduceLT,reduceCtorEq,Nat.reduceMul,Nat.reduceBEq,Int.reduceEq,Int.reduceToNat,Int.toNat_zero,Nat.sub_zero,if_true,if_false,eq_self,ne_eq,TYS,e56]<;>rfl)
  dsimp only at h
  have f53:=(hk 6 254 rfl).ret (x1,x2,x3,x11) q52 rfl rfl
  have e57:=Q6p f53 rfl rfl rfl rfl
  obtain⟨out58,q59,h⟩:=obs h
  have f60:=Q2o q59
  try simp only[LNS,List.length_replicate,Nat.reduceAdd,Nat.reduceLeDiff,Nat.add_zero,Nat.reduceMul]at f60
  have f60m:=Q2y Redir.pv q59
  try simp only[PVE,List.nil_append]at f60m
  have f60n:=Q2x q59
  try simp only[LNS]at f60n
  refine dregV mixed hS [3,5,7] [(0,0),(0,1),(1,0),(1,1),(2,0),(3,0),(4,1),(5,1),(6,2),(7,2)] [.ref 2 4,.vec 4 (List.length l13),.ref 0 0,.pv (V11 r50),.full [V11 r50],.vec 4 (List.length out58),.ref 2 4,.any] [[V2 x1 x2 x3 x11,V4 0 0 [],V13 1 r7.at_ [] l12.length l13.length,rWo l12,rRe l13,V1 r17],[V2 x1 x2 x3 x51,V4 0 0 [],V13 1 r7.at_ [] l12.length l13.length,rWo l12,rRe l13,V1 r17],[V2 x1 x2 x3 x51,V4 0 0 [],V13 1 r7.at_ [] l12.length l13.length,rWo l12,rRe out58,V1 r17],[V2 x1 x2 x3 x51,V4 0 0 [],V13 1 r7.at_ [] l12.length out58.length,rWo l12,rRe out58,V1 r17]] [(53,.ref 2 4),(54,.vec 4 (List.length l13)),(55,.ref 0 0),(56,.pv (V11 r50)),(57,.full [V11 r50]),(58,.vec 4 (List.length out58)),(59,.ref 2 4),(0,.ref 0 0),(2,.ref 1 0),(3,.ref 2 0),(50,ab r46)] (by kernel_rfl) (by kernel_rfl) (by kernel_rfl) ?_ [(0,.ref 0 0),(2,.ref 1 0),(3,.ref 2 0)] [V2 x1 x2 x3 x51,V4 0 0 [],V13 1 r7.at_ [] l12.length out58.length,rWo l12,rRe out58,V1 r17] ⟨rfl,rfl,rfl,trivial⟩ rfl ?_
  ·repeat'(first|exact Q1b.nil|refine Q1b.cons rfl rfl rfl ?_ ?_)
   all_goals exact dv1 (an pf_254 (an e57 (an f60.1 (an f60m f60n))))
  clear f60
  clear f60m
  clear f60n
  exact nx h
 exact Rt h [2]
end Go.Abs.U48
