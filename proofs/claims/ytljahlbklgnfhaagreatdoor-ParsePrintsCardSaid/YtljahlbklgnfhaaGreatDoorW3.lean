import Derived.Test.YtljahlbklgnfhaaGreatDoorD1
set_option linter.unusedVariables false
set_option linter.unusedSimpArgs false
set_option linter.defProp false
set_option maxRecDepth 8000
set_option maxHeartbeats 4000000
namespace Go.Abs.U48
open Go.RowKit Go.Proofs AW
theorem K7a(c:AllG env [(S127 F127)]):Q0a env (S132 F132):=by
 refine hd c V1x 18 ?_
 rintro O X hS hX hpf hk ⟨symbol1,x2,x3,x4,x5⟩ (r:Bool×Int) (h:F132 symbol1 x2 x3 x4 x5=some r)
 refine gs ?_
 rw[F132]at h
 refine R [0,1] ?_
 refine seq (Ua1 h [0,5] (Z hk 0 127 (symbol1,x2,x3,x4,x5)) fun r8 h=>?_)
 refine seqM ⟨sl [(5,ab r8)],18,[V2 x2 x3 x4 (bif r8 then IntKind.wrap .i64 (x5+1)else x5)]⟩ ?_ ?_
 ·refine R [0,5,9] ?_
  refine cond (b:=r8) rfl (fun hb12=>?_) (fun hb12=>?_)
  ·refine G [5] ?_
   exact Weak.of_eq (Weak.slots (L:=[(5,ab r8)]) kp) (wq hb12)
  exact skip (Weak.of_eq (Weak.slots (L:=[(5,ab r8)]) kp) (wq hb12))
 exact Rt h [4]
theorem K6f(c:AllG env [(S84 F84)]):Q0a env (S168 F168):=by
 refine hd c V0y 13 ?_
 rintro O X hS hX hpf hk ⟨x1,x2,x3,x4⟩ (r:Int) (h:F168 x1 x2 x3 x4=some r)
 refine gs ?_
 rw[F168]at h
 refine block (Lp h (fun x6=>⟨sl [(0,.ref 0 0)],13,[V2 x1 x2 x3 x6]⟩) ?_)
 clear h
 rintro x6 m9 h
 rw[X3d]at h
 try dsimp only at h
 refine AW.st (seq ?_)
 refine seq (Ua1 h [0,5] (Z hk 0 84 (0,x1,x2,x3,x6)) fun r10 h=>?_)
 refine iz h (fun h=>?_) fun h=>?_
 ·refine skip (block ?_)
  refine G [0] ?_
  exact nx h
 exact ex h
theorem X6t{w200:Y0}(c:AllG env [(S200 w200),(S132 F132),(S168 F168)]):Q0a env (S167 (F167 w200)):=by
 refine hd c V0z 32 ?_
 rintro O X hS hX hpf hk ⟨inCase1,x2,x3,x4,x5⟩ (r:Int ⊕ (Cmd×Int)) (h:F167 w200 inCase1 x2 x3 x4 x5=some r)
 have pf_200:O.pf 200=false:=pft hpf 200 rfl
 refine gs ?_
 rw[F167]at h
 refine R [0,1,4] ?_
 refine seq (xb h (Z hk 0 200 (inCase1,x2,x3,x4,x5)) 2 ?_)
 rintro⟨r8,r9⟩ f11 h
 refine reg hS [(0,.ref 0 0),(1,ab inCase1),(4,.ref 1 0),(5,.full [V9 r8])] [V2 x2 x3 x4 r9,V4 0 0 []] (dk1 (cb f11)) ?_
 refine seq (block ?_)
 refine Lq r (J4g x2 x3 x4 w200 inCase1) (fun(x16,l17)=>⟨sl [(0,.ref 0 0),(1,ab inCase1),(4,.ref 1 0),(5,.vec 2 (List.length l17))],32,[V2 x2 x3 x4 x16,V4 0 0 [],rCm l17]⟩) ?_ ?_
 ·refine seq (seq ?_)
  refine Ua2 h [0,1,4,5,11] (Z hk 1 132 (([124]:Str),x2,x3,x4,r9)) fun r50 x51 h=>?_
  refine iz h (fun h=>?_) fun h=>?_
  ·refine skip (block ?_)
   refine seq (Ua1 h [0,1,4,5] (Z hk 2 168 (x2,x3,x4,x51)) fun x56 h=>?_)
   refine xb h (Z hk 0 200 (inCase1,x2,x3,x4,x56)) 3 ?_
   rintro⟨r60,r61⟩ f63 h
   obtain⟨out68,q69,h⟩:=obs h
   have f70:=Q2o q69
   try simp only[LNS,List.length_replicate,Nat.reduceAdd,Nat.reduceLeDiff,Nat.add_zero,Nat.reduceMul]at f70
   have f70m:=Q2y Cmd.pv q69
   try simp only[PVE,List.nil_append]at f70m
   have f70n:=Q2x q69
   try simp only[LNS]at f70n
   refine reg hS [(0,.ref 0 0),(1,ab inCase1),(4,.ref 1 0),(5,.vec 2 (List.length out68))] [V2 x2 x3 x4 r61,V4 0 0 [],rCm out68] (dk1 (an pf_200 (an (cb f63) (an f70.1 (an f70m f70n))))) ?_
   clear f70
   clear f70m
   clear f70n
   exact ny h
  refine exit (seq ?_)
  refine R [4,5,22] ?_
  refine ik h (fun h=>?_) fun h=>?_
  ·exact Rt h [4]
  exact Rt h [4]
 clear h
 rintro⟨x16,l17⟩ m20 h
 unfold J4g at h
 try dsimp only at h
 refine AW.st (seq ?_)
 refine seq (Ua2 h [0,1,4,5,11] (Z hk 1 132 (([124]:Str),x2,x3,x4,x16)) fun r21 x22 h=>?_)
 refine iz h (fun h=>?_) fun h=>?_
 ·refine skip (block ?_)
  refine seq (Ua1 h [0,1,4,5] (Z hk 2 168 (x2,x3,x4,x22)) fun x27 h=>?_)
  refine xb h (Z hk 0 200 (inCase1,x2,x3,x4,x27)) 3 ?_
  rintro⟨r31,r32⟩ f34 h
  obtain⟨out39,q40,h⟩:=obs h
  have f41:=Q2o q40
  try simp only[LNS,List.length_replicate,Nat.reduceAdd,Nat.reduceLeDiff,Nat.add_zero,Nat.reduceMul]at f41
  have f41m:=Q2y Cmd.pv q40
  try simp only[PVE,List.nil_append]at f41m
  have f41n:=Q2x q40
  try simp only[LNS]at f41n
  refine reg hS [(0,.ref 0 0),(1,ab inCase1),(4,.ref 1 0),(5,.vec 2 (List.length out39))] [V2 x2 x3 x4 r32,V4 0 0 [],rCm out39] (dk1 (an pf_200 (an (cb f34) (an f41.1 (an f41m f41n))))) ?_
  clear f41
  clear f41m
  clear f41n
  exact nx h
 refine exit (seq ?_)
 refine R [4,5,22] ?_
 refine ik h (fun h=>?_) fun h=>?_
 ·obtain⟨u43,f45,h⟩:=oc h fun _=>Q0f
  try simp only[NRM,Int.reduceToNat]at f45
  refine seq (rg hS [4] (di1 (an f45.1 (an f45.2.1 f45.2.2))) ?_)
  exact Rf h
 obtain⟨u46,f48,h⟩:=oc h fun _=>Q0f
 try simp only[NRM,Int.reduceToNat]at f48
 refine seq (rg hS [4] (di1 (an f48.1 (an f48.2.1 f48.2.2))) ?_)
 exact Rf h
theorem X6u{w200:Y0}(c:AllG env [(S167 (F167 w200)),(S132 F132),(S168 F168)]):Q0a env (S131 (F131 w200)):=by
 refine hd c V1y 28 ?_
 rintro O X hS hX hpf hk ⟨inCase1,x2,x3,x4,x5⟩ (r:Int ⊕ (Cmd×Int)) (h:F131 w200 inCase1 x2 x3 x4 x5=some r)
 refine gs ?_
 rw[F131]at h
 refine R [0,1,4] ?_
 refine seq (Xa2 h [0,1,4,5] (Z hk 0 167 (inCase1,x2,x3,x4,x5)) 2 fun r8 x9 h=>?_)
 refine block (Lp h (fun(x16,x17,x18,x19,x20,x21)=>⟨sl [(0,.ref 0 0),(1,ab inCase1),(4,.ref 1 0),(5,.ref 2 0)],28,[V2 x2 x3 x4 x16,V4 0 0 [],V5 x17 r8.at_ x18 x19 x20 x21]⟩) ?_)
 clear h
 rintro⟨x16,x17,x18,x19,x20,x21⟩ m24 h
 rw[J4j]at h
 try dsimp only at h
 refine AW.st (block ?_)
 refine R [0,1,4,5] ?_
 refine seqJ (α:=Int×Int) (fun(kind25,x26)=>⟨sl [(0,.ref 0 0),(1,ab inCase1),(4,.ref 1 0),(5,.ref 2 0),(6,ai kind25)],28,[V2 x2 x3 x4 x26,V4 0 0 [],V5 x17 r8.at_ x18 x19 x20 x21]⟩) (fun x=>Z9i x2 x3 x4 w200 inCase1 (iter (J4j x2 x3 x4 w200 inCase1 r8) m24) x17 r8 x18 x19 x20 x21 x=some r) ?_ ?_
 ·intro⟨kind25,x26⟩ h
  rw[Z9i]at h
  try dsimp only at h
  refine AW.st (seq ?_)
  refine Ua1 h [0,1,4,5,6] (Z hk 2 168 (x2,x3,x4,x26)) fun x27 h=>?_
  rcases Q1m h with⟨n35,q33,rfl⟩|⟨⟨r31,x32⟩,q33,h⟩
  ·have f36:=(hk 0 167 rfl).boom (inCase1,x2,x3,x4,x27) q33 rfl rfl
   have e37:=Q4y f36 rfl rfl
   refine dregS mixed hS hX 6 [0,1,2,3,4,5] [ai kind25,.ref 2 1,ai r8.at_,.pv (PV.agg [.int .i64 x17,.int .i64 r8.at_,.str x18,.slice (List.map Word.pv x19),.slice (List.map Redir.pv x20),.slice (List.map Cmd.pv x21)]),.ref 0 0,ab inCase1,.any,.any,.any,.any] [(19,ai kind25),(20,.ref 2 1),(21,ai r8.at_),(22,.pv (PV.agg [.int .i64 x17,.int .i64 r8.at_,.str x18,.slice (List.map Word.pv x19),.slice (List.map Redir.pv x20),.slice (List.map Cmd.pv x21)])),(23,.ref 0 0),(24,ab inCase1),(25,.any),(26,.any),(27,.any),(0,.ref 0 0),(1,ab inCase1),(4,.ref 1 0),(5,.ref 2 0),(6,ai kind25)] rfl (by kernel_rfl) rfl (H':=[.gone,V4 0 0 [],V5 x17 r8.at_ x18 x19 x20 x21]) ?_ ?_ (Q7y rfl rfl rfl)
   ·repeat'(first|exact Q1b.nil|refine Q1b.cons rfl rfl rfl ?_ ?_)
    all_goals exact dv
   exact Q3k.call rfl rfl (by simp -implicitDefEqProofs only[RUNS,Q0s,Nat.reduceAdd,Nat.reduceLeDiff,Nat.reduceSub,reduceIte,Nat.reduceEqDiff,Nat.reduceLT,reduceCtorEq,Nat.reduceMul,Nat.reduceBEq,Int.reduceEq,Int.reduceToNat,Int.toNat_zero,Nat.sub_zero,if_true,if_false,eq_self,ne_eq,TYS,e37]<;>rfl)
  dsimp only at h
  have f34:=(hk 0 167 rfl).ret (inCase1,x2,x3,x4,x27) q33 rfl rfl
  have e38:=Q6p f34 rfl rfl rfl rfl
  refine dregV mixed hS [6,9] [(0,0),(0,1),(1,0),(1,1),(2,0),(2,1),(3,0),(3,1),(4,0),(5,0),(6,0),(7,1),(8,1),(9,1)] [ai kind25,.ref 2 1,ai r8.at_,.pv (PV.agg [.int .i64 x17,.int .i64 r8.at_,.str x18,.slice (List.map Word.pv x19),.slice (List.map Redir.pv x20),.slice (List.map Cmd.pv x21)]),.ref 0 0,ab inCase1,.pv (V9 r31),.full (List.map Cmd.pv [Cmd.mk x17 r8.at_ x18 x19 x20 x21,r31]),.agg [ai kind25,ai r8.at_,as_ [],.nils,.nils,.full (List.map Cmd.pv [Cmd.mk x17 r8.at_ x18 x19 x20 x21,r31])],.any] [[V2 x2 x3 x4 x27,V4 0 0 [],V5 x17 r8.at_ x18 x19 x20 x21],[V2 x2 x3 x4 x32,V4 0 0 [],V5 x17 r8.at_ x18 x19 x20 x21],[V2 x2 x3 x4 x32,V4 0 0 [],.var [ai kind25,ai r8.at_,as_ [],.nils,.nils,.full (List.map Cmd.pv [Cmd.mk x17 r8.at_ x18 x19 x20 x21,r31])]]] [(19,ai kind25),(20,.ref 2 1),(21,ai r8.at_),(22,.pv (PV.agg [.int .i64 x17,.int .i64 r8.at_,.str x18,.slice (List.map Word.pv x19),.slice (List.map Redir.pv x20),.slice (List.map Cmd.pv x21)])),(23,.ref 0 0),(24,ab inCase1),(25,.pv (V9 r31)),(26,.full (List.map Cmd.pv [Cmd.mk x17 r8.at_ x18 x19 x20 x21,r31])),(27,.agg [ai kind25,ai r8.at_,as_ [],.nils,.nils,.full (List.map Cmd.pv [Cmd.mk x17 r8.at_ x18 x19 x20 x21,r31])]),(0,.ref 0 0),(1,ab inCase1),(4,.ref 1 0),(5,.ref 2 0),(6,ai kind25)] (by kernel_rfl) (by kernel_rfl) (by kernel_rfl) ?_ [(0,.ref 0 0),(1,ab inCase1),(4,.ref 1 0),(5,.ref 2 0)] [V2 x2 x3 x4 x32,V4 0 0 [],.var [ai kind25,ai r8.at_,as_ [],.nils,.nils,.full (List.map Cmd.pv [Cmd.mk x17 r8.at_ x18 x19 x20 x21,r31])]] ⟨rfl,rfl,rfl,rfl,trivial⟩ rfl ?_
  ·repeat'(first|exact Q1b.nil|refine Q1b.cons rfl rfl rfl ?_ ?_)
   all_goals exact dv1 (ap0 167 hpf e38)
  exact nx h (Weak.trans (Weak.cellPV (σ:=⟨sl [(0,.ref 0 0),(1,ab inCase1),(4,.ref 1 0),(5,.ref 2 0)],28,[V2 x2 x3 x4 x32,V4 0 0 [],.var [ai kind25,ai r8.at_,as_ [],.nils,.nils,.full (List.map Cmd.pv [Cmd.mk x17 r8.at_ x18 x19 x20 x21,r31])]]⟩) 2 3 (cs:=[ai kind25,ai r8.at_,as_ [],.nils,.nils,.full (List.map Cmd.pv [Cmd.mk x17 r8.at_ x18 x19 x20 x21,r31])]) (a:=.nils) (p:=.slice (List.map Word.pv ([]:List Word))) rfl rfl (by first|rfl|simp only[toPV,List.getElem?_cons_zero,List.getElem?_cons_succ,List.length_map,if_true,List.map_nil,List.map_cons,J1o,Word.pv_eq,J1n,Redir.pv_eq,J1m,Cmd.pv_eq,Token.pv_eq,Shape.pv_eq])) (Weak.trans (Weak.of_eq (σ':=⟨sl [(0,.ref 0 0),(1,ab inCase1),(4,.ref 1 0),(5,.ref 2 0)],28,[V2 x2 x3 x4 x32,V4 0 0 [],.var [ai kind25,ai r8.at_,as_ [],vWo ([]:List Word),.nils,.full (List.map Cmd.pv [Cmd.mk x17 r8.at_ x18 x19 x20 x21,r31])]]⟩) (Weak.slots (L:=[(0,.ref 0 0),(1,ab inCase1),(4,.ref 1 0),(5,.ref 2 0)]) kp) (by first|rfl|(simp only[List.length_set,List.length_map];rfl))) (Weak.trans (Weak.cellPV (σ:=⟨sl [(0,.ref 0 0),(1,ab inCase1),(4,.ref 1 0),(5,.ref 2 0)],28,[V2 x2 x3 x4 x32,V4 0 0 [],.var [ai kind25,ai r8.at_,as_ [],vWo ([]:List Word),.nils,.full (List.map Cmd.pv [Cmd.mk x17 r8.at_ x18 x19 x20 x21,r31])]]⟩) 2 4 (cs:=[ai kind25,ai r8.at_,as_ [],vWo ([]:List Word),.nils,.full (List.map Cmd.pv [Cmd.mk x17 r8.at_ x18 x19 x20 x21,r31])]) (a:=.nils) (p:=.slice (List.map Redir.pv ([]:List Redir))) rfl rfl (by first|rfl|simp only[toPV,List.getElem?_cons_zero,List.getElem?_cons_succ,List.length_map,if_true,List.map_nil,List.map_cons,J1o,Word.pv_eq,J1n,Redir.pv_eq,J1m,Cmd.pv_eq,Token.pv_eq,Shape.pv_eq])) (Weak.trans (Weak.of_eq (σ':=⟨sl [(0,.ref 0 0),(1,ab inCase1),(4,.ref 1 0),(5,.ref 2 0)],28,[V2 x2 x3 x4 x32,V4 0 0 [],.var [ai kind25,ai r8.at_,as_ [],vWo ([]:List Word),vRe ([]:List Redir),.full (List.map Cmd.pv [Cmd.mk x17 r8.at_ x18 x19 x20 x21,r31])]]⟩) (Weak.slots (L:=[(0,.ref 0 0),(1,ab inCase1),(4,.ref 1 0),(5,.ref 2 0)]) kp) (by first|rfl|(simp only[List.length_set,List.length_map];rfl))) (Weak.trans (Weak.cellPV (σ:=⟨sl [(0,.ref 0 0),(1,ab inCase1),(4,.ref 1 0),(5,.ref 2 0)],28,[V2 x2 x3 x4 x32,V4 0 0 [],.var [ai kind25,ai r8.at_,as_ [],vWo ([]:List Word),vRe ([]:List Redir),.full (List.map Cmd.pv [Cmd.mk x17 r8.at_ x18 x19 x20 x21,r31])]]⟩) 2 5 (cs:=[ai kind25,ai r8.at_,as_ [],vWo ([]:List Word),vRe ([]:List Redir),.full (List.map Cmd.pv [Cmd.mk x17 r8.at_ x18 x19 x20 x21,r31])]) (a:=.full (List.map Cmd.pv [Cmd.mk x17 r8.at_ x18 x19 x20 x21,r31])) (p:=.slice (List.map Cmd.pv [Cmd.mk x17 r8.at_ x18 x19 x20 x21,r31])) rfl rfl (by first|rfl|simp only[toPV,List.getElem?_cons_zero,List.getElem?_cons_succ,List.length_map,if_true,List.map_nil,List.map_cons,J1o,Word.pv_eq,J1n,Redir.pv_eq,J1m,Cmd.pv_eq,Token.pv_eq,Shape.pv_eq])) (Weak.trans (Weak.of_eq (σ':=⟨sl [(0,.ref 0 0),(1,ab inCase1),(4,.ref 1 0),(5,.ref 2 0)],28,[V2 x2 x3 x4 x32,V4 0 0 [],V5 kind25 r8.at_ [] ([]:List Word) ([]:List Redir) [Cmd.mk x17 r8.at_ x18 x19 x20 x21,r31]]⟩) (Weak.slots (L:=[(0,.ref 0 0),(1,ab inCase1),(4,.ref 1 0),(5,.ref 2 0)]) kp) (by first|rfl|(simp only[List.length_set,List.length_map];rfl))) (Weak.norm (m:=3) (Nat.le_of_ble_eq_true rfl) kp hq rfl rfl)))))))
 refine block (seq ?_)
 refine Ua2 h [0,1,4,5,11] (Z hk 1 132 (([38,38]:Str),x2,x3,x4,x16)) fun r39 x40 h=>?_
 refine iz h (fun h=>?_) fun h=>?_
 ·refine G [0,1,4,5,6] ?_
  exact⟨(5,x40),h,(Weak.norm (m:=3) (Nat.le_of_ble_eq_true rfl) kp hq rfl rfl)⟩
 refine seq (Ua2 h [0,1,4,5,14] (Z hk 1 132 (([124,124]:Str),x2,x3,x4,x40)) fun r45 x46 h=>?_)
 refine iz h (fun h=>?_) fun h=>?_
 ·refine G [0,1,4,5,6] ?_
  exact⟨(6,x46),h,(Weak.norm (m:=3) (Nat.le_of_ble_eq_true rfl) kp hq rfl rfl)⟩
 exact Rt h [4]
theorem K3q{w200:Y0}(c:AllG env [(S131 (F131 w200)),(S132 F132)]):Q0a env (S82 (F82 w200)):=by
 refine hd c V8i 17 ?_
 rintro O X hS hX hpf hk ⟨inCase1,x2,x3,x4,x5⟩ (r:Int ⊕ (Cmd×Int)) (h:F82 w200 inCase1 x2 x3 x4 x5=some r)
 refine gs ?_
 rw[F82]at h
 refine R [0,1,4] ?_
 refine seq (Xa2 h [0,4,5] (Z hk 0 131 (inCase1,x2,x3,x4,x5)) 2 fun r8 x9 h=>?_)
 refine seq (seq ?_)
 refine Ua2 h [4,5,10] (Z hk 1 132 (([38]:Str),x2,x3,x4,x9)) fun r16 x17 h=>?_
 refine ik h (fun h=>?_) fun h=>?_
 ·exact seq (reg hS [(4,.ref 1 0)] [V2 x2 x3 x4 x17,.var [ai 14,ai r8.at_,as_ [],.nils,.nils,.full [V9 r8]],V6 r8] dk (Rf h))
 exact Rt h [4]
theorem V7i(c:AllG env []):Q0a env (S48 F48):=by
 refine hd c V9a 30 ?_
 rintro O X hS hX hpf hk ⟨x1,x2,x3,x4⟩ (r:Int ⊕ Unit) (h:F48 x1 x2 x3 x4=some r)
 refine gs ?_
 rw[F48]at h
 refine seq (seq ?_)
 apply dgk mixed hS [0,11] (ordp hpf (by kernel_rfl))
 ·exact di
 refine ik h (fun h=>?_) fun h=>?_
 ·obtain⟨u6,f8,h⟩:=oc h fun _=>Q0f
  cases h
  refine dregS mixed hS hX 12 [0,1,2,3,4,5,6,7,8,9,10,11] [.ref 0 0,.ref 0 0,.ref 0 1,vTo x2,.ref 0 0,.ref 0 0,.ref 0 3,ai x4,.pptr [.int .i64 u6.kind_,.int .i64 u6.at_,.str u6.text_,.str u6.quoted_],.pptr [.int .i64 u6.at_,.str u6.text_,.str u6.quoted_],ai u6.at_,.ifc 73 (.int .i64 u6.at_),.any] [(12,.ref 0 0),(13,.ref 0 0),(14,.ref 0 1),(15,vTo x2),(16,.ref 0 0),(17,.ref 0 0),(18,.ref 0 3),(19,ai x4),(20,.pptr [.int .i64 u6.kind_,.int .i64 u6.at_,.str u6.text_,.str u6.quoted_]),(21,.pptr [.int .i64 u6.at_,.str u6.text_,.str u6.quoted_]),(22,ai u6.at_),(23,.ifc 73 (.int .i64 u6.at_)),(0,.ref 0 0),(11,ab (decide (x4<(x2.length:Int))))] rfl (by kernel_rfl) rfl (H':=[V2 x1 x2 x3 x4]) ?_ ?_ (Q7y rfl rfl rfl)
  ·repeat'(first|exact Q1b.nil|refine Q1b.cons rfl rfl rfl ?_ ?_)
   all_goals exact dv1 (an f8.1 f8.2.1)
  exact Q3k.panic rfl rfl rfl
 cases h
 apply regS hS hX 6 rfl
 ·exact dp
 exact Q7y rfl rfl rfl
theorem K3u{w200:Y0}(c:AllG env [(S80 F80),(S81 F81),(S82 (F82 w200)),(S84 F84),(S83 F83),(S48 F48)]):Q0a env (S47 (F47 w200)):=by
 refine hd c V9b 36 ?_
 rintro O X hS hX hpf hk ⟨inCase1,x2,x3,x4,x5⟩ (r:Int ⊕ ((List Cmd)×Int)) (h:F47 w200 inCase1 x2 x3 x4 x5=some r)
 have pf_84:O.pf 84=false:=pft hpf 84 rfl
 refine gs ?_
 rw[F47]at h
 refine R [0,1] ?_
 refine seq (reg hS [(0,.ref 0 0),(1,ab inCase1),(5,.nils)] [V2 x2 x3 x4 x5] dk ?_)
 refine weak (Weak.own 5 36 6 (by decide) rfl) ?_
 refine weak (Weak.slots (L:=[(0,.ref 0 0),(1,ab inCase1),(5,.vec 1 (List.length ([]:List Cmd)))]) ⟨rfl,rfl,rfl,trivial⟩) ?_
 refine seq (Ua2 h [0,1,5] (Z hk 0 80 (x2,x3,x4,x5)) fun r8 x9 h=>?_)
 refine seq (block ?_)
 refine Lp h (fun(x13,l14)=>⟨sl [(0,.ref 0 0),(1,ab inCase1),(5,.vec 1 (List.length l14))],36,[V2 x2 x3 x4 x13,rCm l14]⟩) ?_
 clear h
 rintro⟨x13,l14⟩ m17 h
 rw[X7y]at h
 try dsimp only at h
 refine AW.st (seq ?_)
 refine seq (Ua1 h [0,1,5,11] (Z hk 1 81 (inCase1,x2,x3,x4,x13)) fun r18 h=>?_)
 refine iz h (fun h=>?_) fun h=>?_
 ·refine skip (block ?_)
  refine seq (Xa2 h [0,1,5,6] (Z hk 2 82 (inCase1,x2,x3,x4,x13)) 2 fun r23 x24 h=>?_)
  obtain⟨out31,q32,h⟩:=obs h
  have f33:=Q2o q32
  try simp only[LNS,List.length_replicate,Nat.reduceAdd,Nat.reduceLeDiff,Nat.add_zero,Nat.reduceMul]at f33
  have f33m:=Q2y Cmd.pv q32
  try simp only[PVE,List.nil_append]at f33m
  have f33n:=Q2x q32
  try simp only[LNS]at f33n
  refine seq (reg hS [(0,.ref 0 0),(1,ab inCase1),(5,.vec 1 (List.length out31)),(6,.ref 2 0)] [V2 x2 x3 x4 x24,rCm out31,V6 r23] (dk1 (an f33.1 (an f33m f33n))) ?_)
  clear f33
  clear f33m
  clear f33n
  obtain⟨⟨r34,x35⟩,f37,h⟩:=oc h (Z hk 0 80 (x2,x3,x4,x24))
  refine seq (seq ?_)
  refine reg hS [(0,.ref 0 0),(1,ab inCase1),(5,.vec 1 (List.length out31)),(25,ab (r34||decide (r23.kind_=14)))] [V2 x2 x3 x4 x35,rCm out31,V6 r23] ?_ ?_
  ·clear h hk hS hX c
   exact dh1 (cb f37)
  refine ik h (fun h=>?_) fun h=>?_
  ·exact exit (nx h)
  refine seq (seq ?_)
  refine AW.cases (inCase1) (fun hsp19=>?_) (fun hsp19=>?_)
  ·replace h:=Z2l hsp19 h
   obtain⟨r40,f42,h⟩:=oc h (Z hk 3 84 (0,x2,x3,x4,x35))
   obtain⟨r44,f46,h⟩:=oc h (Zt hk 4 83 r40)
   refine reg hS [(0,.ref 0 0),(5,.vec 1 (List.length out31)),(32,ab (decide (r44=[99,97,115,101])))] [V2 x2 x3 x4 x35,rCm out31,V6 r23] (dk1 (an hsp19 (an pf_84 (an (cb f42) (ca f46))))) ?_
   refine ik h (fun h=>?_) fun h=>?_
   ·refine Xa1 h [5] (Z hk 5 48 (x2,x3,x4,x35)) 1 fun _ h=>?_
    exact exit (Rt h [4])
   exact exit (Rt h [4])
  replace h:=Z2m hsp19 h
  refine reg hS [(0,.ref 0 0),(5,.vec 1 (List.length out31)),(32,ab false)] [V2 x2 x3 x4 x35,rCm out31,V6 r23] (dk1 hsp19) ?_
  refine cond (b:=false) rfl (fun hb=>absurd hb (by decide)) (fun _=>?_)
  refine skip (exit ?_)
  exact Rt h [4]
 exact exit (Rt h [4])
theorem K6w(c:AllG env []):Q0a env (S144 F144):=by
 refine hd c V1t 46 ?_
 rintro O X hS hX hpf hk (s1:Str) (r:Bool) (h:F144 s1=some r)
 refine gs ?_
 rw[F144]at h
 refine R [0] ?_
 refine seq (R [0,6,7] ?_)
 refine block (Lp h (fun i3=>⟨sl [(0,as_ s1),(6,ai (s1.length:Int)),(7,ai i3)],46,[]⟩) ?_)
 clear h
 rintro i3 m6 h
 rw[Z9h]at h
 try dsimp only at h
 refine AW.st (R [0,6,7,8] ?_)
 refine seq (iz h (fun h=>?_) fun h=>?_)
 ·refine skip (seq ?_)
  refine block (R [0,3,6,7] ?_)
  obtain⟨c8,f10,h⟩:=oc h fun _=>Q3m
  refine seq (rg hS [0,4,6,7] (di1 (an f10.1 (an f10.2.1 f10.2.2))) ?_)
  refine seq (reg hS [(0,as_ s1),(6,ai (s1.length:Int)),(7,ai i3),(42,ab (((((decide (c8<97)||decide (122<c8))&&(decide (c8<65)||decide (90<c8)))&&(decide (c8<48)||decide (57<c8)))&&!decide (c8=95))&&!decide (c8=42)))] [] ?_ ?_)
  ·clear h hk hS hX c
   exact dh
  refine ik h (fun h=>?_) fun h=>?_
  ·exact Rt h [2]
  refine G [0,6,7] ?_
  exact nx h
 exact exit (Rt h [2])
theorem K5j{w200:Y0}{w252:Y1}(c:AllG env [(S84 F84),(S252 w252),(S81 F81),(S200 w200)]):Q0a env (S223 (F223 w200 w252)):=by
 refine hd c V0a 32 ?_
 rintro O X hS hX hpf hk ⟨inCase1,x2,x3,x4,x5⟩ (r:Int ⊕ (Cmd×Int)) (h:F223 w200 w252 inCase1 x2 x3 x4 x5=some r)
 have pf_84:O.pf 84=false:=pft hpf 84 rfl
 refine gs ?_
 rw[F223]at h
 refine R [0,1,4] ?_
 obtain⟨r8,f10,h⟩:=oc h (Z hk 0 84 (0,x2,x3,x4,x5))
 refine seq (rg hS [0,1,4,5] (di1 (an pf_84 (an (cb f10) (cb f10)))) ?_)
 refine R [0,1,4,5] ?_
 refine seq (xb h (Z hk 1 252 (x2,x3,x4,IntKind.wrap .i64 (x5+2))) 1 ?_)
 rintro⟨r13,r14⟩ f16 h
 refine reg hS [(0,.ref 0 0),(1,ab inCase1),(4,.ref 1 0),(5,.ref 2 0)] [V2 x2 x3 x4 r14,V4 0 0 [],.var [ai 2,ai r8.at_,as_ r8.text_,.full [V10 r13],.nils,.nils]] (dk1 (cb f16)) ?_
 refine seq (seq ?_)
 refine Ua1 h [0,1,4,5,25] (Z hk 2 81 (false,x2,x3,x4,r14)) fun r21 h=>?_
 refine ik h (fun h=>?_) fun h=>?_
 ·refine xb h (Z hk 3 200 (inCase1,x2,x3,x4,r14)) 2 ?_
  rintro⟨r26,r27⟩ f29 h
  refine reg hS [(4,.ref 1 0),(5,.ref 2 0)] [V2 x2 x3 x4 r27,V4 0 0 [],.var [ai 2,ai r8.at_,as_ r8.text_,.full [V10 r13],.nils,.full [V9 r26]]] (dk1 (cb f29)) ?_
  exact Rt h [4]
 exact Rt h [4]
theorem K5i{w200:Y0}(c:AllG env [(S84 F84),(S168 F168),(S200 w200)]):Q0a env (S224 (F224 w200)):=by
 refine hd c K9z 33 ?_
 rintro O X hS hX hpf hk ⟨Q0h,tokens2,inCase3,x4,x5,x6,x7⟩ (r:Int ⊕ (Cmd×Int)) (h:F224 w200 Q0h tokens2 inCase3 x4 x5 x6 x7=some r)
 refine gs ?_
 rw[F224]at h
 refine R [0,1,2,3,8] ?_
 refine seq (Ua1 h [0,1,2,3,8,9] (Z hk 0 84 (0,x4,x5,x6,x7)) fun r10 h=>?_)
 refine R [0,1,3,8,9] ?_
 refine seqJ (α:=Int) (fun x14=>⟨sl [(0,.ref 0 0),(3,ab inCase3),(8,.ref 1 0),(9,.ref 2 0)],33,[V2 x4 x5 x6 x14,V4 0 0 [],V4 Q0h r10.at_ []]⟩) (fun x=>Z8z w200 inCase3 x4 x5 x6 Q0h r10 x=some r) ?_ ?_
 ·intro x14 h
  rw[Z8z]at h
  try dsimp only at h
  refine AW.st (seq ?_)
  refine xb h (Z hk 2 200 (inCase3,x4,x5,x6,x14)) 2 ?_
  rintro⟨r15,r16⟩ f18 h
  refine reg hS [(8,.ref 1 0),(9,.ref 2 0)] [V2 x4 x5 x6 r16,V4 0 0 [],.var [ai Q0h,ai r10.at_,as_ [],.nils,.nils,.full [V9 r15]]] (dk1 (cb f18)) ?_
  exact Rt h [8]
 refine R [0,3,8,9,24] ?_
 refine ik h (fun h=>?_) fun h=>?_
 ·refine Ua1 h [0,3,8,9] (Z hk 1 168 (x4,x5,x6,IntKind.wrap .i64 (x7+tokens2))) fun x24 h=>?_
  exact⟨x24,h,(Weak.norm (m:=3) (Nat.le_of_ble_eq_true rfl) kp hq rfl rfl)⟩
 exact⟨IntKind.wrap .i64 (x7+tokens2),h,(Weak.norm (m:=3) (Nat.le_of_ble_eq_true rfl) kp hq rfl rfl)⟩
theorem K4q(c:AllG env [(S84 F84),(S132 F132),(S48 F48)]):Q0a env (S255 F255):=by
 refine hd c K9i 16 ?_
 rintro O X hS hX hpf hk ⟨symbol1,x2,x3,x4,x5⟩ (r:Int ⊕ (Int×Int)) (h:F255 symbol1 x2 x3 x4 x5=some r)
 refine gs ?_
 rw[F255]at h
 refine R [0,1] ?_
 refine seq (Ua1 h [0,1,5] (Z hk 0 84 (0,x2,x3,x4,x5)) fun r8 h=>?_)
 refine seq (seq ?_)
 refine Ua2 h [0,5,12] (Z hk 1 132 (symbol1,x2,x3,x4,x5)) fun r12 x13 h=>?_
 refine ik h (fun h=>?_) fun h=>?_
 ·refine Xa1 h [5] (Z hk 2 48 (x2,x3,x4,x13)) 1 fun _ h=>?_
  exact Rt h [4]
 exact Rt h [4]
theorem K4s{w200:Y0}(c:AllG env [(S255 F255),(S47 (F47 w200))]):Q0a env (S253 (F253 w200)):=by
 refine hd c K9k 11 ?_
 rintro O X hS hX hpf hk ⟨x1,x2,x3,x4⟩ (r:Int ⊕ ((List Cmd)×Int)) (h:F253 w200 x1 x2 x3 x4=some r)
 refine gs ?_
 rw[F253]at h
 refine R [0] ?_
 refine seq (Xa2 h [0] (Z hk 0 255 (([123]:Str),x1,x2,x3,x4)) 1 fun r7 x8 h=>?_)
 refine seq (Xa2 h [0,3] (Z hk 1 47 (false,x1,x2,x3,x8)) 1 fun r15 x16 h=>?_)
 refine seq (Xa2 h [3] (Z hk 0 255 (([125]:Str),x1,x2,x3,x16)) 1 fun r23 x24 h=>?_)
 exact Rt h [2]
theorem K3z(c:AllG env [(S74 F74)]):Q0a env (S288 F288):=by
 refine hd c K8s 13 ?_
 rintro O X hS hX hpf hk ⟨s1,prefix2⟩ (r:Str) (h:F288 s1 prefix2=some r)
 refine gs ?_
 rw[F288]at h
 refine R [0,1] ?_
 refine seq (seq ?_)
 refine Ua1 h [0,1,7] (Zt hk 0 74 (s1,prefix2)) fun r4 h=>?_
 refine ik h (fun h=>?_) fun h=>?_
 ·obtain⟨t8,f10,h⟩:=oc h fun _=>Q1j
  try simp only[NRM,Int.reduceToNat]at f10
  have f10e:=f10.2.2.2.2
  try simp only[NRM,Int.reduceToNat]at f10e
  have f10l:=f10.2.2.1
  try simp only[NRM,Int.reduceToNat]at f10l
  refine seq (rg hS [4] (di1 (an f10.1 (an f10.2.1 (an f10l (an f10.2.2.2.1 f10e))))) ?_)
  exact Rf h
 exact Rt h [4]
theorem K4e(c:AllG env [(S288 F288)]):Q0a env (S276 F276):=by
 refine hd c K8y 8 ?_
 rintro O X hS hX hpf hk ⟨s1,prefix2⟩ (r:Str) (h:F276 s1 prefix2=some r)
 refine gs ?_
 rw[F276]at h
 refine R [0,1] ?_
 refine seq (Ua1 h [4] (Zt hk 0 288 (s1,prefix2)) fun r4 h=>?_)
 exact Rf h
theorem K6l(c:AllG env []):Q0a env (S155 F155):=by
 refine hd c V1i 21 ?_
 rintro O X hS hX hpf hk ⟨s1,suffix2⟩ (r:Bool) (h:F155 s1 suffix2=some r)
 refine gs ?_
 rw[F155]at h
 refine R [0,1] ?_
 obtain⟨t4,f6,h⟩:=oc h fun _ q=>Z7m (Q0b q)
 try simp only[NRM,Int.reduceToNat]at f6
 have f6e:=f6.2.2.2.2
 try simp only[NRM,Int.reduceToNat]at f6e
 have f6l:=f6.2.2.1
 try simp only[NRM,Int.reduceToNat]at f6l
 refine seq (reg hS [(4,ab (decide ((suffix2.length:Int)≤(s1.length:Int))&&decide (t4=suffix2)))] [] ?_ ?_)
 ·clear h hk hS hX c
  exact dh1 (an f6.1 (an f6.2.1 (an f6l (an f6.2.2.2.1 f6e))))
 exact Rf h
theorem K4a(c:AllG env [(S155 F155)]):Q0a env (S287 F287):=by
 refine hd c K8t 16 ?_
 rintro O X hS hX hpf hk ⟨s1,suffix2⟩ (r:Str) (h:F287 s1 suffix2=some r)
 refine gs ?_
 rw[F287]at h
 refine R [0,1] ?_
 refine seq (seq ?_)
 refine Ua1 h [0,1,7] (Zt hk 0 155 (s1,suffix2)) fun r4 h=>?_
 refine ik h (fun h=>?_) fun h=>?_
 ·obtain⟨t8,f10,h⟩:=oc h fun _=>Q1j
  try simp only[NRM,Int.reduceToNat]at f10
  have f10e:=f10.2.2.2.2
  try simp only[NRM,Int.reduceToNat]at f10e
  have f10l:=f10.2.2.1
  try simp only[NRM,Int.reduceToNat]at f10l
  refine seq (rg hS [4] (di1 (an f10.1 (an f10.2.1 (an f10l (an f10.2.2.2.1 f10e))))) ?_)
  exact Rf h
 exact Rt h [4]
theorem K4f(c:AllG env [(S287 F287)]):Q0a env (S275 F275):=by
 refine hd c K8z 8 ?_
 rintro O X hS hX hpf hk ⟨s1,suffix2⟩ (r:Str) (h:F275 s1 suffix2=some r)
 refine gs ?_
 rw[F275]at h
 refine R [0,1] ?_
 refine seq (Ua1 h [4] (Zt hk 0 287 (s1,suffix2)) fun r4 h=>?_)
 exact Rf h
theorem K4d(c:AllG env [J3n]):Q0a env (S277 F277):=by
 refine hd c K8x 11 ?_
 rintro O X hS hX hpf hk (s1:Str) (r:Int) (h:F277 s1=some r)
 refine gs ?_
 rw[F277]at h
 refine R [0] ?_
 refine seq (Ua2 h [3] (Zt hk 0 199 s1) fun n3 bad4 h=>?_)
 exact Rt h [2]
theorem K4r{w252:Y1}(c:AllG env [(S84 F84),Q9w,Q0w,(S42 F42),(S276 F276),(S275 F275),J6f,(S277 F277),(S252 w252)]):Q0a env (S254 (F254 w252)):=by
 refine hd c K9j 102 ?_
 rintro O X hS hX hpf hk ⟨x1,x2,x3,x4⟩ (r:Int ⊕ (Redir×Int)) (h:F254 w252 x1 x2 x3 x4=some r)
 have pf_276:O.pf 276=true:=pft hpf 276 rfl
 refine gs ?_
 rw[F254]at h
 refine R [0,2] ?_
 refine seq (Ua1 h [0,2,3] (Z hk 0 84 (0,x1,x2,x3,x4)) fun r7 h=>?_)
 refine seq (R [0,2,3,16] ?_)
 refine ik h (fun h=>?_) fun h=>?_
 ·refine seq ?_
  obtain⟨w12,f14,h⟩:=oc h fun _=>Q0f
  apply dgk mixed hS [0,2,3,4] (ordp hpf (by kernel_rfl))
  ·exact di1 (an f14.1 f14.2.1)
  refine R [2,3,4] ?_
  refine seq (Ua1 h [2,3,5] (Zt hk 1 124 (([48]:Str),(w12.length:Int))) fun t15 h=>?_)
  refine seq ?_
  obtain⟨n18,f20,h⟩:=oc h (Zt hk 2 40 (r7.quoted_,49))
  apply dgB mixed hS [(2,some 1),(3,some 2),(5,some 3),(40,some 2)] [2] rfl (ordB hpf (B:=[(2,some 1),(3,some 2),(5,some 3),(40,some 2)]) (by kernel_rfl))
  ·exact di1 (ca f20)
  exact Rf h
 refine R [0,2,3] ?_
 refine R [0,2,3,6] ?_
 obtain⟨t21,f23,h⟩:=oc h fun _=>Q1j
 try simp only[NRM,Int.reduceToNat]at f23
 have f23e:=f23.2.2.2.2
 try simp only[NRM,Int.reduceToNat]at f23e
 have f23l:=f23.2.2.1
 try simp only[NRM,Int.reduceToNat]at f23l
 refine seq (rg hS [0,2,3,6,7] (di1 (an f23.1 (an f23.2.1 (an f23l (an f23.2.2.2.1 f23e))))) ?_)
 refine seqJ (α:=Str×Int×Int) (fun(rest24,x25,x26)=>⟨sl [(0,.ref 0 0),(2,.ref 1 0),(6,.ref 3 0),(7,as_ rest24)],102,[V2 x1 x2 x3 (IntKind.wrap .i64 (x4+1)),.var [ai 0,ai 0,ai 0,ai 0,as_ [],as_ [],.nils,.nils,ab false],V1 r7,.var [ai x25,ai x26,ai 0,ai 0,as_ [],as_ [],vWo [],vC [],ab false]]⟩) (fun x=>Z5e x4 w252 x1 x2 x3 x=some r) ?_ ?_
 ·intro⟨rest24,x25,x26⟩ h
  rw[Z5e]at h
  try dsimp only at h
  refine AW.st (seqJ (α:=Int) (fun x27=>⟨sl [(0,.ref 0 0),(2,.ref 1 0),(6,.ref 3 0)],102,[V2 x1 x2 x3 (IntKind.wrap .i64 (x4+1)),.var [ai 0,ai 0,ai 0,ai 0,as_ [],as_ [],.nils,.nils,ab false],V1 r7,.var [ai x25,ai x27,ai 0,ai 0,as_ [],as_ [],vWo [],vC [],ab false]]⟩) (fun x=>Z8y w252 x1 x2 x3 x4 x25 x=some r) ?_ ?_)
  ·intro x27 h
   rw[Z8y]at h
   try dsimp only at h
   refine AW.st (seq ?_)
   refine Xa2 h [2,6] (Z hk 8 252 (x1,x2,x3,IntKind.wrap .i64 (x4+1))) 1 fun r28 r29 h=>?_
   exact Rt h [2]
  refine R [0,2,6,7,69] ?_
  refine ik h (fun h=>?_) fun h=>?_
  ·obtain⟨r37,f39,h⟩:=oc h (Zt hk 4 276 (rest24,([91]:Str)))
   replace f39:=ca f39
   try simp only[PVE]at f39
   obtain⟨r40,f42,h⟩:=oc h (Zt hk 5 275 (r37,([93]:Str)))
   replace f42:=ca f42
   try simp only[PVE]at f42
   refine seq (rg hS [0,2,6,8] (di1 (an pf_276 (an f39 f42))) ?_)
   refine seq (Ua3 h [0,2,6,9,10,11] (Zt hk 6 161 (r40,([61]:Str))) fun a43 b44 ok45 h=>?_)
   refine seq (Ua1 h [0,2,6,10,11] (Zt hk 7 277 a43) fun r48 h=>?_)
   refine block (seq ?_)
   refine reg hS [(0,.ref 0 0),(2,.ref 1 0),(6,.ref 3 0),(10,as_ b44),(11,ab ok45),(82,ab (ok45&&decide (b44=[])))] [V2 x1 x2 x3 (IntKind.wrap .i64 (x4+1)),.var [ai 0,ai 0,ai 0,ai 0,as_ [],as_ [],.nils,.nils,ab false],V1 r7,.var [ai x25,ai r48,ai 0,ai 0,as_ [],as_ [],vWo [],vC [],ab false]] ?_ ?_
   ·clear h hk hS hX c
    exact dh
   refine iz h (fun h=>?_) fun h=>?_
   ·exact Rt h [2]
   refine R [0,2,6,10,91] ?_
   refine ik h (fun h=>?_) fun h=>?_
   ·refine seq ?_
    obtain⟨r53,f55,h⟩:=oc h (Zt hk 7 277 b44)
    apply dgB mixed hS [(2,some 1),(6,some 3),(93,some 3)] [2] rfl (ordB hpf (B:=[(2,some 1),(6,some 3),(93,some 3)]) (by kernel_rfl))
    ·exact di1 (ca f55)
    exact Rf h
   exact⟨r48,h,(Weak.norm (m:=4) (Nat.le_of_ble_eq_true rfl) kp hq rfl rfl)⟩
  exact⟨x26,h,(Weak.norm (m:=4) (Nat.le_of_ble_eq_true rfl) kp hq rfl rfl)⟩
 obtain⟨c56,f58,h⟩:=oc h fun _=>Q3m
 try simp only[NRM,Int.reduceToNat]at f58
 refine block (seq ?_)
 refine rg hS [0,2,6,7,56] (di1 (an f58.1 (an f58.2.1 f58.2.2))) ?_
 refine iz h (fun h=>?_) fun h=>?_
 ·refine G [0,2,6,7] ?_
  exact⟨(t21,1,0),h,(Weak.norm (m:=4) (Nat.le_of_ble_eq_true rfl) kp hq rfl rfl)⟩
 refine seq (Ua1 h [0,2,6,7,62] (Zt hk 3 42 (t21,([62]:Str))) fun r60 h=>?_)
 refine ik h (fun h=>?_) fun h=>?_
 ·refine R [0,2,6,7] ?_
  obtain⟨t64,f66,h⟩:=oc h fun _=>Q1j
  try simp only[NRM,Int.reduceToNat]at f66
  have f66e:=f66.2.2.2.2
  try simp only[NRM,Int.reduceToNat]at f66e
  have f66l:=f66.2.2.1
  try simp only[NRM,Int.reduceToNat]at f66l
  refine rg hS [0,2,6,7] (di1 (an f66.1 (an f66.2.1 (an f66l (an f66.2.2.2.1 f66e))))) ?_
  exact⟨(t64,3,1),h,(Weak.norm (m:=4) (Nat.le_of_ble_eq_true rfl) kp hq rfl rfl)⟩
 exact⟨(t21,2,1),h,(Weak.norm (m:=4) (Nat.le_of_ble_eq_true rfl) kp hq rfl rfl)⟩
theorem K5h{w200:Y0}{w252:Y1}(c:AllG env [(S84 F84),(S253 (F253 w200)),(S130 F130),(S254 (F254 w252))]):Q0a env (S225 (F225 w200 w252)):=by
 refine hd c K9y 21 ?_
 rintro O X hS hX hpf hk ⟨x1,x2,x3,x4⟩ (r:Int ⊕ (Cmd×Int)) (h:F225 w200 w252 x1 x2 x3 x4=some r)
 have pf_84:O.pf 84=false:=pft hpf 84 rfl
 have pf_254:O.pf 254=false:=pft hpf 254 rfl
 refine gs ?_
 rw[F225]at h
 refine R [0,2] ?_
 refine seq ?_
 obtain⟨r7,f9,h⟩:=oc h (Z hk 0 84 (0,x1,x2,x3,x4))
 rcases Q1m h with⟨n15,q13,rfl⟩|⟨⟨r11,x12⟩,q13,h⟩
 ·have f16:=(hk 1 253 rfl).boom (x1,x2,x3,x4) q13 rfl rfl
  have e17:=Q4y f16 rfl rfl
  apply regS hS hX 4 rfl
  ·exact dp1 (an pf_84 (an (cb f9) e17))
  exact Q7y rfl rfl rfl
 dsimp only at h
 have f14:=(hk 1 253 rfl).ret (x1,x2,x3,x4) q13 rfl rfl
 have e18:=Q6p f14 rfl rfl rfl rfl
 refine AW.after ?_
 refine reg hS [(0,.ref 0 0),(2,.ref 1 0),(3,.ref 2 0)] [V2 x1 x2 x3 x12,V4 0 0 [],V7 12 r7.at_ [] r11] (dk1 (an pf_84 (an (cb f9) (ap0 253 hpf e18)))) ?_
 refine⟨⟨sl [(0,.ref 0 0),(2,.ref 1 0),(3,.ref 2 0)],21,[V2 x1 x2 x3 x12,V4 0 0 [],V8 12 r7.at_ [] (List.length ([]:List Redir)) r11,.row 51 9 (List.map Redir.pv ([]:List Redir)) true]⟩,(Weak.trans (Weak.ownC (σ:=⟨sl [(0,.ref 0 0),(2,.ref 1 0),(3,.ref 2 0)],21,[V2 x1 x2 x3 x12,V4 0 0 [],V7 12 r7.at_ [] r11]⟩) 2 4 51 9 (by decide) (cs:=[ai 12,ai r7.at_,as_ [],.nils,.nils,vC r11]) rfl rfl) (Weak.slots (L:=[(0,.ref 0 0),(2,.ref 1 0),(3,.ref 2 0)]) ⟨rfl,rfl,rfl,trivial⟩)),?_⟩
 refine seq (block ?_)
 refine Lp h (fun(x19,l20)=>⟨sl [(0,.ref 0 0),(2,.ref 1 0),(3,.ref 2 0)],21,[V2 x1 x2 x3 x19,V4 0 0 [],V8 12 r7.at_ [] l20.length r11,rRe l20]⟩) ?_
 clear h
 rintro⟨x19,l20⟩ m23 h
 rw[X3b]at h
 try dsimp only at h
 obtain⟨r24,f26,h⟩:=oc h (Z hk 0 84 (0,x1,x2,x3,x19))
 obtain⟨r28,f30,h⟩:=oc h (Zt hk 2 130 r24)
 refine AW.st (seq ?_)
 refine seq (rg hS [0,2,3,12] (di1 (an pf_84 (an (cb f26) (ca f30)))) ?_)
 refine iz h (fun h=>?_) fun h=>?_
 ·refine skip (block ?_)
  rcases Q1m h with⟨n36,q34,rfl⟩|⟨⟨r32,x33⟩,q34,h⟩
  ·have f37:=(hk 3 254 rfl).boom (x1,x2,x3,x19) q34 rfl rfl
   have e38:=Q4y f37 rfl rfl
   refine dregS mixed hS hX 3 [0,1,2] [.ref 2 4,.vec 3 (List.length l20),.ref 0 0,.any,.any,.any,.any,.any] [(13,.ref 2 4),(14,.vec 3 (List.length l20)),(15,.ref 0 0),(16,.any),(17,.any),(18,.any),(19,.any),(0,.ref 0 0),(2,.ref 1 0),(3,.ref 2 0),(12,ab r28)] rfl (by kernel_rfl) rfl (H':=[.gone,V4 0 0 [],V8 12 r7.at_ [] l20.length r11,rRe l20]) ?_ ?_ (Q7y rfl rfl rfl)
   ·repeat'(first|exact Q1b.nil|refine Q1b.cons rfl rfl rfl ?_ ?_)
    all_goals exact dv
   exact Q3k.call rfl rfl (by simp -implicitDefEqProofs only[RUNS,Q0s,Nat.reduceAdd,Nat.reduceLeDiff,Nat.reduceSub,reduceIte,Nat.reduceEqDiff,Nat.reduceLT,reduceCtorEq,Nat.reduceMul,Nat.reduceBEq,Int.reduceEq,Int.reduceToNat,Int.toNat_zero,Nat.sub_zero,if_true,if_false,eq_self,ne_eq,TYS,e38]<;>rfl)
  dsimp only at h
  have f35:=(hk 3 254 rfl).ret (x1,x2,x3,x19) q34 rfl rfl
  have e39:=Q6p f35 rfl rfl rfl rfl
  obtain⟨out40,q41,h⟩:=obs h
  have f42:=Q2o q41
  try simp only[LNS,List.length_replicate,Nat.reduceAdd,Nat.reduceLeDiff,Nat.add_zero,Nat.reduceMul]at f42
  have f42m:=Q2y Redir.pv q41
  try simp only[PVE,List.nil_append]at f42m
  have f42n:=Q2x q41
  try simp only[LNS]at f42n
  refine dregV mixed hS [3,5,7] [(0,0),(0,1),(1,0),(1,1),(2,0),(3,0),(4,1),(5,1),(6,2),(7,2)] [.ref 2 4,.vec 3 (List.length l20),.ref 0 0,.pv (V11 r32),.full [V11 r32],.vec 3 (List.length out40),.ref 2 4,.any] [[V2 x1 x2 x3 x19,V4 0 0 [],V8 12 r7.at_ [] l20.length r11,rRe l20],[V2 x1 x2 x3 x33,V4 0 0 [],V8 12 r7.at_ [] l20.length r11,rRe l20],[V2 x1 x2 x3 x33,V4 0 0 [],V8 12 r7.at_ [] l20.length r11,rRe out40],[V2 x1 x2 x3 x33,V4 0 0 [],V8 12 r7.at_ [] out40.length r11,rRe out40]] [(13,.ref 2 4),(14,.vec 3 (List.length l20)),(15,.ref 0 0),(16,.pv (V11 r32)),(17,.full [V11 r32]),(18,.vec 3 (List.length out40)),(19,.ref 2 4),(0,.ref 0 0),(2,.ref 1 0),(3,.ref 2 0),(12,ab r28)] (by kernel_rfl) (by kernel_rfl) (by kernel_rfl) ?_ [(0,.ref 0 0),(2,.ref 1 0),(3,.ref 2 0)] [V2 x1 x2 x3 x33,V4 0 0 [],V8 12 r7.at_ [] out40.length r11,rRe out40] ⟨rfl,rfl,rfl,trivial⟩ rfl ?_
  ·repeat'(first|exact Q1b.nil|refine Q1b.cons rfl rfl rfl ?_ ?_)
   all_goals exact dv1 (an pf_254 (an e39 (an f42.1 (an f42m f42n))))
  clear f42
  clear f42m
  clear f42n
  exact nx h
 exact exit (Rt h [2])
end Go.Abs.U48
