import Derived.Test.YtljahlbklgnfhaaGreatDoorD1
set_option linter.unusedVariables false
set_option linter.unusedSimpArgs false
set_option linter.defProp false
set_option maxRecDepth 8000
set_option maxHeartbeats 4000000
namespace Go.Abs.U48
open Go.RowKit Go.Proofs AW
theorem K5s{w200:Y0}{w252:Y1}(c:AllG env [(S84 F84),(S133 F133),(S144 F144),(S128 F128),(S223 (F223 w200 w252)),(S224 (F224 w200)),(S225 (F225 w200 w252)),(S83 F83),(S226 (F226 w200)),(S227 (F227 w200 w252)),(S228 (F228 w200 w252)),(S229 (F229 w200)),(S230 (F230 w252)),(S48 F48),(S81 F81),(S231 (F231 w252))]):Q0a env (S200 (F200 w200 w252)):=by
 refine hd c X6z 97 ?_
 rintro O X hS hX hpf hk ⟨inCase1,x2,x3,x4,x5⟩ (r:Int ⊕ (Cmd×Int)) (h:F200 w200 w252 inCase1 x2 x3 x4 x5=some r)
 have pf_84:O.pf 84=false:=pft hpf 84 rfl
 have pf_133:O.pf 133=true:=pft hpf 133 rfl
 have pf_144:O.pf 144=true:=pft hpf 144 rfl
 refine gs ?_
 rw[F200]at h
 refine R [0,1,4] ?_
 obtain⟨r8,f10,h⟩:=oc h (Z hk 0 84 (0,x2,x3,x4,x5))
 obtain⟨r12,f14,h⟩:=oc h (Z hk 0 84 (1,x2,x3,x4,x5))
 refine seq (rg hS [0,1,4,5,6] (di1 (an pf_84 (an (cb f10) (cb f14)))) ?_)
 obtain⟨r16,f18,h⟩:=oc h (Zt hk 1 133 r8)
 obtain⟨r19,q20,h⟩:=obs h
 replace q20:=Q0b q20
 have f21:=fun hg=>(hk 2 144 rfl).ret r8.text_ (q20 hg) rfl rfl
 obtain⟨r22,q23,h⟩:=obs h
 replace q23:=Q0b q23
 have f24:=fun hg=>(hk 3 128 rfl).ret (r12,([61]:Str)) (q23 hg) rfl rfl
 try simp only[PVE]at f24
 refine seq (block ?_)
 refine seq (reg hS [(0,.ref 0 0),(1,ab inCase1),(4,.ref 1 0),(5,.ref 2 0),(6,.ref 3 0),(11,ab ((r16&&r19)&&r22))] [V2 x2 x3 x4 x5,V4 0 0 [],V1 r8,V1 r12] ?_ ?_)
 ·clear h hk hS hX c
  exact dh1 (an pf_133 (an (ca f18) (an pf_144 (an f21 (ap1 128 hpf f24)))))
 refine iz h (fun h=>?_) fun h=>?_
 ·refine seq (Xa2 h [4] (Z hk 4 223 (inCase1,x2,x3,x4,x5)) 2 fun r26 x27 h=>?_)
  exact Rf h
 refine seq (Ua1 h [0,1,4,5,6,26] (Zt hk 3 128 (r8,([33]:Str))) fun r34 h=>?_)
 refine iz h (fun h=>?_) fun h=>?_
 ·refine seq (Xa2 h [4] (Z hk 5 224 (7,1,inCase1,x2,x3,x4,x5)) 2 fun r38 x39 h=>?_)
  exact Rf h
 refine seq (Ua1 h [0,1,4,5,6,32] (Zt hk 3 128 (r8,([64]:Str))) fun r46 h=>?_)
 refine iz h (fun h=>?_) fun h=>?_
 ·refine seq (Xa2 h [4] (Z hk 5 224 (13,1,inCase1,x2,x3,x4,x5)) 2 fun r50 x51 h=>?_)
  exact Rf h
 refine seq (Ua1 h [0,1,4,5,6,38] (Zt hk 3 128 (r8,([123]:Str))) fun r58 h=>?_)
 refine ik h (fun h=>?_) fun h=>?_
 ·refine seq (Xa2 h [4] (Z hk 6 225 (x2,x3,x4,x5)) 1 fun r62 x63 h=>?_)
  exact Rf h
 refine seqJ (α:=Int) (fun x70=>⟨sl [(0,.ref 0 0),(1,ab inCase1),(4,.ref 1 0)],97,[V2 x2 x3 x4 x70,V4 0 0 [],V1 r8,V1 r12]⟩) (fun x=>Z9b inCase1 x2 x3 x4 w252 x=some r) ?_ ?_
 ·intro x70 h
  rw[Z9b]at h
  try dsimp only at h
  refine AW.st (seq ?_)
  refine seq (Ua1 h [0,4,92] (Z hk 14 81 (inCase1,x2,x3,x4,x70)) fun r71 h=>?_)
  refine ik h (fun h=>?_) fun h=>?_
  ·refine Xa1 h [0,4] (Z hk 13 48 (x2,x3,x4,x70)) 1 fun _ h=>?_
   refine seq (Xa2 h [4] (Z hk 15 231 (x2,x3,x4,x70)) 1 fun r82 x83 h=>?_)
   exact Rf h
  refine seq (Xa2 h [4] (Z hk 15 231 (x2,x3,x4,x70)) 1 fun r90 x91 h=>?_)
  exact Rf h
 refine seq (Ua1 h [0,1,4,6,44] (Zt hk 7 83 r8) fun r98 h=>?_)
 refine block (R [0,1,4,6,44,45] ?_)
 refine iz h (fun h=>?_) fun h=>?_
 ·refine seq (seq ?_)
  refine Ua1 h [0,1,4,49] (Zt hk 7 83 r12) fun r102 h=>?_
  refine ik h (fun h=>?_) fun h=>?_
  ·refine seq (Xa2 h [4] (Z hk 5 224 (9,2,inCase1,x2,x3,x4,x5)) 2 fun r106 x107 h=>?_)
   exact Rf h
  refine seq (Xa2 h [4] (Z hk 8 226 (8,inCase1,x2,x3,x4,x5)) 2 fun r114 x115 h=>?_)
  exact Rf h
 refine R [0,1,4,44,56] ?_
 refine iz h (fun h=>?_) fun h=>?_
 ·refine seq (Xa2 h [4] (Z hk 8 226 (11,inCase1,x2,x3,x4,x5)) 2 fun r123 x124 h=>?_)
  exact Rf h
 refine R [0,1,4,44,61] ?_
 refine iz h (fun h=>?_) fun h=>?_
 ·refine seq (Xa2 h [4] (Z hk 9 227 (inCase1,x2,x3,x4,x5)) 2 fun r132 x133 h=>?_)
  exact Rf h
 refine R [0,1,4,44,66] ?_
 refine iz h (fun h=>?_) fun h=>?_
 ·refine seq (Xa2 h [4] (Z hk 10 228 (x2,x3,x4,x5)) 1 fun r141 x142 h=>?_)
  exact Rf h
 refine R [0,1,4,44,70] ?_
 refine iz h (fun h=>?_) fun h=>?_
 ·refine seq (Xa2 h [4] (Z hk 11 229 (x2,x3,x4,x5)) 1 fun r150 x151 h=>?_)
  exact Rf h
 refine R [0,1,4,44,74] ?_
 refine iz h (fun h=>?_) fun h=>?_
 ·refine seq (Xa2 h [4] (Z hk 12 230 (x2,x3,x4,x5)) 1 fun r159 x160 h=>?_)
  exact Rf h
 refine R [0,1,4,78] ?_
 refine ik h (fun h=>?_) fun h=>?_
 ·refine R [0,1,4] ?_
  refine Xa1 h [0,1,4] (Z hk 13 48 (x2,x3,x4,IntKind.wrap .i64 (x5+1))) 1 fun _ h=>?_
  exact⟨(IntKind.wrap .i64 (x5+1)),h,(Weak.norm (m:=4) (Nat.le_of_ble_eq_true rfl) kp hq rfl rfl)⟩
 exact⟨x5,h,(Weak.norm (m:=4) (Nat.le_of_ble_eq_true rfl) kp hq rfl rfl)⟩
theorem K4b{w252:Y1}(c:AllG env [(S84 F84),(S256 F256),(S127 F127),(S257 (F257 w252)),(S48 F48),(S255 F255)]):Q0a env (S286 (F286 w252)):=by
 refine hd c K8u 46 ?_
 rintro O X hS hX hpf hk ⟨x1,x2,x3,x4⟩ (r:Int ⊕ (Word×Int)) (h:F286 w252 x1 x2 x3 x4=some r)
 have pf_127:O.pf 127=false:=pft hpf 127 rfl
 refine gs ?_
 rw[F286]at h
 refine R [0,2] ?_
 refine seq (Ua1 h [0,2,3] (Z hk 0 84 (0,x1,x2,x3,x4)) fun r7 h=>?_)
 refine seq (Xa2 h [0,2,3,4] (Z hk 1 256 (x1,x2,x3,x4)) 1 fun r11 x12 h=>?_)
 obtain⟨r19,f21,h⟩:=oc h (Z hk 2 127 (([40]:Str),x1,x2,x3,x12))
 replace f21:=cb f21
 try simp only[PVE]at f21
 refine seq (seq ?_)
 refine AW.cases (!r19) (fun hsp21=>?_) (fun hsp21=>?_)
 ·replace h:=Z2l hsp21 h
  refine dregV mixed hS [1,5,6] [(0,0),(1,0),(2,1),(3,1),(4,1),(5,1),(6,2),(7,1),(7,2),(7,3),(8,1),(8,2),(8,3),(9,1),(9,2),(9,3),(10,1),(10,2),(10,3),(11,1),(11,2),(11,3),(12,1),(12,2),(12,3),(13,3),(14,3)] [.ref 0 0,ab r19,ab (!r19),ab true,.tup [],.tup [],.tup [],.tup [],.tup [],.tup [],.tup [],.tup [],.tup [],.tup [],ab true] [[V2 x1 x2 x3 x12,V14 0 [] [],V1 r7,V15 2 r11 [] [] []],[V2 x1 x2 x3 x12,V14 0 [] [],V1 r7,V15 2 r11 [] [] []],[V2 x1 x2 x3 x12,V14 0 [] [],V1 r7,V15 2 r11 [] [] []],[V2 x1 x2 x3 x12,V14 0 [] [],V1 r7,V15 2 r11 [] [] []]] [(10,.ref 0 0),(11,ab r19),(12,ab (!r19)),(13,ab true),(14,.tup []),(15,.tup []),(16,.tup []),(17,.tup []),(18,.tup []),(19,.tup []),(20,.tup []),(21,.tup []),(22,.tup []),(23,.tup []),(24,ab true),(0,.ref 0 0),(2,.ref 1 0),(3,.ref 2 0),(4,.ref 3 0)] (by kernel_rfl) (by kernel_rfl) (by kernel_rfl) ?_ [(0,.ref 0 0),(2,.ref 1 0),(4,.ref 3 0),(24,ab true)] [V2 x1 x2 x3 x12,V14 0 [] [],V1 r7,V15 2 r11 [] [] []] ⟨rfl,rfl,rfl,rfl,trivial⟩ rfl ?_
  ·repeat'(first|exact Q1b.nil|refine Q1b.cons rfl rfl rfl ?_ ?_)
   all_goals exact dv1 (an pf_127 (an f21 hsp21))
  refine cond (b:=true) rfl (fun _=>?_) (fun hb=>absurd hb (by decide))
  exact Rt h [2]
 replace h:=Z2m hsp21 h
 obtain⟨r23,f25,h⟩:=oc h (Z hk 0 84 (0,x1,x2,x3,x12))
 refine dregV mixed hS [1,5,6] [(0,0),(1,0),(2,1),(3,1),(4,1),(5,1),(6,2),(7,1),(7,2),(7,3),(8,1),(8,2),(8,3),(9,1),(9,2),(9,3),(10,1),(10,2),(10,3),(11,1),(11,2),(11,3),(12,1),(12,2),(12,3),(13,3),(14,3)] [.ref 0 0,ab r19,ab (!r19),ab false,.ref 0 0,.pv (V3 r23),ai r23.at_,.ref 2 1,ai r7.at_,.ref 2 2,as_ r7.text_,ai (r7.text_.length:Int),ai (IntKind.wrap .i64 (r7.at_+(r7.text_.length:Int))),ab (!decide (r23.at_=IntKind.wrap .i64 (r7.at_+(r7.text_.length:Int)))),ab (!decide (r23.at_=IntKind.wrap .i64 (r7.at_+(r7.text_.length:Int))))] [[V2 x1 x2 x3 x12,V14 0 [] [],V1 r7,V15 2 r11 [] [] []],[V2 x1 x2 x3 x12,V14 0 [] [],V1 r7,V15 2 r11 [] [] []],[V2 x1 x2 x3 x12,V14 0 [] [],V1 r7,V15 2 r11 [] [] []],[V2 x1 x2 x3 x12,V14 0 [] [],V1 r7,V15 2 r11 [] [] []]] [(10,.ref 0 0),(11,ab r19),(12,ab (!r19)),(13,ab false),(14,.ref 0 0),(15,.pv (V3 r23)),(16,ai r23.at_),(17,.ref 2 1),(18,ai r7.at_),(19,.ref 2 2),(20,as_ r7.text_),(21,ai (r7.text_.length:Int)),(22,ai (IntKind.wrap .i64 (r7.at_+(r7.text_.length:Int)))),(23,ab (!decide (r23.at_=IntKind.wrap .i64 (r7.at_+(r7.text_.length:Int))))),(24,ab (!decide (r23.at_=IntKind.wrap .i64 (r7.at_+(r7.text_.length:Int))))),(0,.ref 0 0),(2,.ref 1 0),(3,.ref 2 0),(4,.ref 3 0)] (by kernel_rfl) (by kernel_rfl) (by kernel_rfl) ?_ [(0,.ref 0 0),(2,.ref 1 0),(4,.ref 3 0),(24,ab (!decide (r23.at_=IntKind.wrap .i64 (r7.at_+(r7.text_.length:Int)))))] [V2 x1 x2 x3 x12,V14 0 [] [],V1 r7,V15 2 r11 [] [] []] ⟨rfl,rfl,rfl,rfl,trivial⟩ rfl ?_
 ·repeat'(first|exact Q1b.nil|refine Q1b.cons rfl rfl rfl ?_ ?_)
  all_goals exact dv1 (an pf_127 (an f21 (an hsp21 (cb f25))))
 refine ik h (fun h=>?_) fun h=>?_
 ·exact Rt h [2]
 refine R [0,2,4] ?_
 refine R [0,2,4] ?_
 refine seq (Xa2 h [0,2,4] (Z hk 3 257 (x1,x2,x3,IntKind.wrap .i64 (x12+1))) 1 fun r28 x29 h=>?_)
 refine seqJ (α:=Unit) (fun _=>⟨sl [(0,.ref 0 0),(2,.ref 1 0),(4,.ref 3 0)],46,[V2 x1 x2 x3 x29,V14 0 [] [],V1 r7,V15 7 r11 [] r28 []]⟩) (fun x=>Z8w x1 x2 x3 x29 r11 r28 x=some r) ?_ ?_
 ·intro _ h
  rw[Z8w]at h
  try dsimp only at h
  refine AW.st (seq ?_)
  refine Xa2 h [2,4] (Z hk 5 255 (([41]:Str),x1,x2,x3,x29)) 1 fun r36 x37 h=>?_
  exact Rt h [2]
 refine R [0,2,4,40] ?_
 refine ik h (fun h=>?_) fun h=>?_
 ·refine Xa1 h [0,2,4] (Z hk 4 48 (x1,x2,x3,x29)) 1 fun _ h=>?_
  exact⟨(),h,(Weak.norm (m:=4) (Nat.le_of_ble_eq_true rfl) kp hq rfl rfl)⟩
 exact⟨(),h,(Weak.norm (m:=4) (Nat.le_of_ble_eq_true rfl) kp hq rfl rfl)⟩
theorem K4g{w200:Y0}{w252:Y1}(c:AllG env [(S84 F84),(S129 F129),(S48 F48),(S286 (F286 w252)),(S256 F256),(S257 (F257 w252)),(S255 F255),(S253 (F253 w200))]):Q0a env (S274 (F274 w200 w252)):=by
 refine hd c K9a 54 ?_
 rintro O X hS hX hpf hk ⟨x1,x2,x3,x4⟩ (r:Int ⊕ (Word×Int)) (h:F274 w200 w252 x1 x2 x3 x4=some r)
 refine gs ?_
 rw[F274]at h
 refine R [0,2] ?_
 refine seq (Ua1 h [0,2,3] (Z hk 0 84 (0,x1,x2,x3,x4)) fun r7 h=>?_)
 refine seqJ (α:=Unit) (fun _=>⟨sl [(0,.ref 0 0),(2,.ref 1 0),(3,.ref 2 0)],54,[V2 x1 x2 x3 x4,V14 0 [] [],V1 r7]⟩) (fun x=>Z8x r7 x4 w252 x1 x2 x3 w200 x=some r) ?_ ?_
 ·intro _ h
  rw[Z8x]at h
  try dsimp only at h
  refine AW.st (R [0,2,3] ?_)
  refine seq (block ?_)
  refine R [0,2,3,19] ?_
  refine iz h (fun h=>?_) fun h=>?_
  ·exact Rt h [2]
  refine R [0,2,3,28] ?_
  refine iz h (fun h=>?_) fun h=>?_
  ·refine seq (Xa2 h [2] (Z hk 3 286 (x1,x2,x3,IntKind.wrap .i64 (x4+1))) 1 fun r13 x14 h=>?_)
   exact Rf h
  refine R [0,2,3,34] ?_
  refine iz h (fun h=>?_) fun h=>?_
  ·refine seq (Xa2 h [2] (Z hk 4 256 (x1,x2,x3,IntKind.wrap .i64 (x4+1))) 1 fun r22 x23 h=>?_)
   exact Rf h
  refine R [0,2,41] ?_
  refine ik h (fun h=>?_) fun h=>?_
  ·refine seq (Xa2 h [0,2,4] (Z hk 5 257 (x1,x2,x3,IntKind.wrap .i64 (x4+1))) 1 fun r31 x32 h=>?_)
   refine seq (Xa2 h [2,4] (Z hk 6 255 (([41]:Str),x1,x2,x3,x32)) 1 fun r39 x40 h=>?_)
   exact Rt h [2]
  refine seq (Xa2 h [2] (Z hk 7 253 (x1,x2,x3,IntKind.wrap .i64 (x4+1))) 1 fun r47 x48 h=>?_)
  exact Rf h
 refine seq (Ua1 h [0,2,3,9] (Zt hk 1 129 r7) fun r55 h=>?_)
 refine ik h (fun h=>?_) fun h=>?_
 ·refine Xa1 h [0,2,3] (Z hk 2 48 (x1,x2,x3,x4)) 1 fun _ h=>?_
  exact⟨(),h,(Weak.norm (m:=3) (Nat.le_of_ble_eq_true rfl) kp hq rfl rfl)⟩
 exact⟨(),h,(Weak.norm (m:=3) (Nat.le_of_ble_eq_true rfl) kp hq rfl rfl)⟩
theorem K4t{w200:Y0}{w252:Y1}(c:AllG env [(S274 (F274 w200 w252)),(S132 F132)]):Q0a env (S252 (F252 w200 w252)):=by
 refine hd c X6x 22 ?_
 rintro O X hS hX hpf hk ⟨x1,x2,x3,x4⟩ (r:Int ⊕ (Word×Int)) (h:F252 w200 w252 x1 x2 x3 x4=some r)
 have pf_274:O.pf 274=false:=pft hpf 274 rfl
 refine gs ?_
 rw[F252]at h
 refine R [0,2] ?_
 refine seq (xb h (Z hk 0 274 (x1,x2,x3,x4)) 1 ?_)
 rintro⟨r7,x8⟩ f10 h
 refine reg hS [(0,.ref 0 0),(2,.ref 1 0),(3,.full [V10 r7])] [V2 x1 x2 x3 x8,V14 0 [] []] (dk1 (cb f10)) ?_
 refine seq (block ?_)
 refine Lq r (J4a x1 x2 x3 w200 w252) (fun(x15,l16)=>⟨sl [(0,.ref 0 0),(2,.ref 1 0),(3,.vec 2 (List.length l16))],22,[V2 x1 x2 x3 x15,V14 0 [] [],rWo l16]⟩) ?_ ?_
 ·refine seq (seq ?_)
  refine Ua2 h [0,2,3,8] (Z hk 1 132 (([94]:Str),x1,x2,x3,x8)) fun r42 x43 h=>?_
  refine iz h (fun h=>?_) fun h=>?_
  ·refine skip (block ?_)
   refine xb h (Z hk 0 274 (x1,x2,x3,x43)) 2 ?_
   rintro⟨r48,x49⟩ f51 h
   obtain⟨out56,q57,h⟩:=obs h
   have f58:=Q2o q57
   try simp only[LNS,List.length_replicate,Nat.reduceAdd,Nat.reduceLeDiff,Nat.add_zero,Nat.reduceMul]at f58
   have f58m:=Q2y Word.pv q57
   try simp only[PVE,List.nil_append]at f58m
   have f58n:=Q2x q57
   try simp only[LNS]at f58n
   refine reg hS [(0,.ref 0 0),(2,.ref 1 0),(3,.vec 2 (List.length out56))] [V2 x1 x2 x3 x49,V14 0 [] [],rWo out56] (dk1 (an pf_274 (an (cb f51) (an f58.1 (an f58m f58n))))) ?_
   clear f58
   clear f58m
   clear f58n
   exact ny h
  refine exit (seq ?_)
  refine R [2,3,16] ?_
  refine ik h (fun h=>?_) fun h=>?_
  ·exact Rt h [2]
  exact Rt h [2]
 clear h
 rintro⟨x15,l16⟩ m19 h
 unfold J4a at h
 try dsimp only at h
 refine AW.st (seq ?_)
 refine seq (Ua2 h [0,2,3,8] (Z hk 1 132 (([94]:Str),x1,x2,x3,x15)) fun r20 x21 h=>?_)
 refine iz h (fun h=>?_) fun h=>?_
 ·refine skip (block ?_)
  refine xb h (Z hk 0 274 (x1,x2,x3,x21)) 2 ?_
  rintro⟨r26,x27⟩ f29 h
  obtain⟨out34,q35,h⟩:=obs h
  have f36:=Q2o q35
  try simp only[LNS,List.length_replicate,Nat.reduceAdd,Nat.reduceLeDiff,Nat.add_zero,Nat.reduceMul]at f36
  have f36m:=Q2y Word.pv q35
  try simp only[PVE,List.nil_append]at f36m
  have f36n:=Q2x q35
  try simp only[LNS]at f36n
  refine reg hS [(0,.ref 0 0),(2,.ref 1 0),(3,.vec 2 (List.length out34))] [V2 x1 x2 x3 x27,V14 0 [] [],rWo out34] (dk1 (an pf_274 (an (cb f29) (an f36.1 (an f36m f36n))))) ?_
  clear f36
  clear f36m
  clear f36n
  exact nx h
 refine exit (seq ?_)
 refine R [2,3,16] ?_
 refine ik h (fun h=>?_) fun h=>?_
 ·obtain⟨u38,f40,h⟩:=oc h fun _=>Q0f
  try simp only[NRM,Int.reduceToNat]at f40
  refine seq (rg hS [2] (di1 (an f40.1 (an f40.2.1 f40.2.2))) ?_)
  exact Rf h
 exact Rt h [2]
theorem V7p(c:AllG env []):Q0a env (S32 F32):=by
 refine hd c V9n 11 ?_
 rintro O X hS hX hpf hk (r1:Redir) (r:Bool) (h:F32 r1=some r)
 refine gs ?_
 rw[F32]at h
 refine R [1] ?_
 refine seq (reg hS [(2,ab (!decide (r1.kind_=5)&&!decide (r1.kind_=6)))] [V16 r1] ?_ ?_)
 ·clear h hk hS hX c
  exact dh
 exact Rf h
theorem V7z{w15:Y8}{w31:Y10}(c:AllG env [(S15 w15),(S31 w31),(S32 F32)]):Q0a env (S15 (F15 w15 w31)):=by
 refine hd c V1n 55 ?_
 rintro O X hS hX hpf hk (l1:(List Cmd)) (r:Int) (h:F15 w15 w31 l1=some r)
 refine gs ?_
 rw[F15]at h
 refine R [0] ?_
 refine R [0,3] ?_
 refine seq (R [3,10,11,12] ?_)
 refine block (Lp h (fun(n3,i4)=>⟨sl [(3,ai n3),(10,vC l1),(11,ai (l1.length:Int)),(12,ai i4)],55,[]⟩) ?_)
 clear h
 rintro⟨n3,i4⟩ m7 h
 rw[Z7c]at h
 try dsimp only at h
 refine AW.st (R [3,10,11,12,13] ?_)
 refine seq (iz h (fun h=>?_) fun h=>?_)
 ·obtain⟨u9,f11,h⟩:=oc h fun _=>Q0f
  refine skip (seq ?_)
  refine block (seq ?_)
  refine rg hS [3,5,10,11,12] (di1 (an f11.1 f11.2.1)) ?_
  refine seq ?_
  obtain⟨r12,f14,h⟩:=oc h (Zt hk 0 15 u9.kids_)
  apply dgk mixed hS [3,5,10,11,12] (ordp hpf (by kernel_rfl))
  ·exact di1 (ca f14)
  refine seq (R [3,5,10,11,12,27,28,29] ?_)
  refine block (Lp h (fun(n15,i16)=>⟨sl [(3,ai n15),(5,.ref 0 0),(10,vC l1),(11,ai (l1.length:Int)),(12,ai i4),(27,vWo u9.words_),(28,ai (u9.words_.length:Int)),(29,ai i16)],55,[V6 u9]⟩) ?_)
  clear h
  rintro⟨n15,i16⟩ m19 h
  rw[J6x]at h
  try dsimp only at h
  refine AW.st (R [3,5,10,11,12,27,28,29,30] ?_)
  refine seq (iz h (fun h=>?_) fun h=>?_)
  ·obtain⟨u21,f23,h⟩:=oc h fun _=>Q0f
   refine skip (seq ?_)
   refine block (seq ?_)
   refine rg hS [3,5,7,10,11,12,27,28,29] (di1 (an f23.1 f23.2.1)) ?_
   refine Ua1 h [3,5,10,11,12,27,28,29] (Zt hk 1 31 u21) fun r24 h=>?_
   refine G [3,5,10,11,12,27,28,29] ?_
   exact nx h
  refine exit (R [3,10,11,12,39,40,41] ?_)
  refine block (Lp h (fun(n27,i28)=>⟨sl [(3,ai n27),(10,vC l1),(11,ai (l1.length:Int)),(12,ai i4),(39,vRe u9.redirs_),(40,ai (u9.redirs_.length:Int)),(41,ai i28)],55,[V6 u9]⟩) ?_)
  clear h
  rintro⟨n27,i28⟩ m31 h
  rw[J1y]at h
  try dsimp only at h
  refine AW.st (R [3,10,11,12,39,40,41,42] ?_)
  refine seq (iz h (fun h=>?_) fun h=>?_)
  ·obtain⟨u33,f35,h⟩:=oc h fun _=>Q0f
   refine skip (seq ?_)
   refine block (seq ?_)
   refine rg hS [3,9,10,11,12,39,40,41] (di1 (an f35.1 f35.2.1)) ?_
   refine seq (Ua1 h [3,9,10,11,12,39,40,41,46] (Zt hk 2 32 u33) fun r36 h=>?_)
   refine ik h (fun h=>?_) fun h=>?_
   ·refine Ua1 h [3,10,11,12,39,40,41] (Zt hk 1 31 u33.word_) fun r40 h=>?_
    refine G [3,10,11,12,39,40,41] ?_
    exact nx h
   refine G [3,10,11,12,39,40,41] ?_
   exact nx h
  refine exit (G [3,10,11,12] ?_)
  exact nx h
 exact exit (Rt h [2])
theorem V7q{w15:Y8}{w31:Y10}(c:AllG env [(S15 w15),(S31 w31)]):Q0a env (S31 (F31 w15 w31)):=by
 refine hd c K8r 23 ?_
 rintro O X hS hX hpf hk (w1:Word) (r:Int) (h:F31 w15 w31 w1=some r)
 refine gs ?_
 rw[F31]at h
 refine R [1] ?_
 refine seq (Ua1 h [1,3] (Zt hk 0 15 w1.cmd_) fun r3 h=>?_)
 refine seq (R [3,11,12,13] ?_)
 refine block (Lp h (fun(n6,i7)=>⟨sl [(3,ai n6),(11,vWo w1.words_),(12,ai (w1.words_.length:Int)),(13,ai i7)],23,[V17 w1]⟩) ?_)
 clear h
 rintro⟨n6,i7⟩ m10 h
 rw[X2v]at h
 try dsimp only at h
 refine AW.st (R [3,11,12,13,14] ?_)
 refine seq (iz h (fun h=>?_) fun h=>?_)
 ·obtain⟨u12,f14,h⟩:=oc h fun _=>Q0f
  refine skip (seq ?_)
  refine block (seq ?_)
  refine rg hS [3,5,11,12,13] (di1 (an f14.1 f14.2.1)) ?_
  refine Ua1 h [3,11,12,13] (Zt hk 1 31 u12) fun r15 h=>?_
  refine G [3,11,12,13] ?_
  exact nx h
 exact exit (Rt h [2])
theorem V7f{w51:Y13}{w86:Y10}(c:AllG env [(S51 w51),(S86 w86),(S32 F32)]):Q0a env (S51 (F51 w51 w86)):=by
 refine hd c K8p 51 ?_
 rintro O X hS hX hpf hk (c1:Cmd) (r:Int) (h:F51 w51 w86 c1=some r)
 refine gs ?_
 rw[F51]at h
 refine R [1] ?_
 refine R [1,3] ?_
 refine seq (R [1,3,11,12,13] ?_)
 refine block (Lp h (fun(n3,i4)=>⟨sl [(1,.ref 0 0),(3,ai n3),(11,vC c1.kids_),(12,ai (c1.kids_.length:Int)),(13,ai i4)],51,[V6 c1]⟩) ?_)
 clear h
 rintro⟨n3,i4⟩ m7 h
 rw[X2t]at h
 try dsimp only at h
 refine AW.st (R [1,3,11,12,13,14] ?_)
 refine seq (iz h (fun h=>?_) fun h=>?_)
 ·obtain⟨u9,f11,h⟩:=oc h fun _=>Q0f
  refine skip (seq ?_)
  refine block (seq ?_)
  refine rg hS [1,3,5,11,12,13] (di1 (an f11.1 f11.2.1)) ?_
  obtain⟨r12,f14,h⟩:=oc h (Zt hk 0 51 u9)
  refine reg hS [(1,.ref 0 0),(3,ai (imax n3 r12)),(11,vC c1.kids_),(12,ai (c1.kids_.length:Int)),(13,ai i4)] [V6 c1,V6 u9] (dk1 (ca f14)) ?_
  refine G [1,3,11,12,13] ?_
  exact nx h
 refine exit (seq ?_)
 refine R [1,3,23,24,25] ?_
 refine block (Lp h (fun(n15,i16)=>⟨sl [(1,.ref 0 0),(3,ai n15),(23,vWo c1.words_),(24,ai (c1.words_.length:Int)),(25,ai i16)],51,[V6 c1]⟩) ?_)
 clear h
 rintro⟨n15,i16⟩ m19 h
 rw[J6p]at h
 try dsimp only at h
 refine AW.st (R [1,3,23,24,25,26] ?_)
 refine seq (iz h (fun h=>?_) fun h=>?_)
 ·obtain⟨u21,f23,h⟩:=oc h fun _=>Q0f
  refine skip (seq ?_)
  refine block (seq ?_)
  refine rg hS [1,3,7,23,24,25] (di1 (an f23.1 f23.2.1)) ?_
  obtain⟨r24,f26,h⟩:=oc h (Zt hk 1 86 u21)
  refine reg hS [(1,.ref 0 0),(3,ai (imax n15 r24)),(23,vWo c1.words_),(24,ai (c1.words_.length:Int)),(25,ai i16)] [V6 c1,V17 u21] (dk1 (ca f26)) ?_
  refine G [1,3,23,24,25] ?_
  exact nx h
 refine exit (seq ?_)
 refine R [3,35,36,37] ?_
 refine block (Lp h (fun(n27,i28)=>⟨sl [(3,ai n27),(35,vRe c1.redirs_),(36,ai (c1.redirs_.length:Int)),(37,ai i28)],51,[V6 c1]⟩) ?_)
 clear h
 rintro⟨n27,i28⟩ m31 h
 rw[J1s]at h
 try dsimp only at h
 refine AW.st (R [3,35,36,37,38] ?_)
 refine seq (iz h (fun h=>?_) fun h=>?_)
 ·obtain⟨u33,f35,h⟩:=oc h fun _=>Q0f
  refine skip (seq ?_)
  refine block (seq ?_)
  refine rg hS [3,9,35,36,37] (di1 (an f35.1 f35.2.1)) ?_
  refine seq (Ua1 h [3,9,35,36,37,42] (Zt hk 2 32 u33) fun r36 h=>?_)
  refine ik h (fun h=>?_) fun h=>?_
  ·obtain⟨r40,f42,h⟩:=oc h (Zt hk 1 86 u33.word_)
   refine reg hS [(3,ai (imax n27 r40)),(35,vRe c1.redirs_),(36,ai (c1.redirs_.length:Int)),(37,ai i28)] [V6 c1,V16 u33] (dk1 (ca f42)) ?_
   refine G [3,35,36,37] ?_
   exact nx h
  refine G [3,35,36,37] ?_
  exact nx h
 exact exit (Rt h [2])
theorem V6n{w51:Y13}{w86:Y10}(c:AllG env [(S86 w86),(S51 w51)]):Q0a env (S86 (F86 w51 w86)):=by
 refine hd c K8k 34 ?_
 rintro O X hS hX hpf hk (w1:Word) (r:Int) (h:F86 w51 w86 w1=some r)
 refine gs ?_
 rw[F86]at h
 refine R [1] ?_
 refine R [1,3] ?_
 refine seq (R [1,3,9,10,11] ?_)
 refine block (Lp h (fun(n3,i4)=>⟨sl [(1,.ref 0 0),(3,ai n3),(9,vWo w1.words_),(10,ai (w1.words_.length:Int)),(11,ai i4)],34,[V17 w1]⟩) ?_)
 clear h
 rintro⟨n3,i4⟩ m7 h
 rw[X2p]at h
 try dsimp only at h
 refine AW.st (R [1,3,9,10,11,12] ?_)
 refine seq (iz h (fun h=>?_) fun h=>?_)
 ·obtain⟨u9,f11,h⟩:=oc h fun _=>Q0f
  refine skip (seq ?_)
  refine block (seq ?_)
  refine rg hS [1,3,5,9,10,11] (di1 (an f11.1 f11.2.1)) ?_
  obtain⟨r12,f14,h⟩:=oc h (Zt hk 0 86 u9)
  refine reg hS [(1,.ref 0 0),(3,ai (imax n3 r12)),(9,vWo w1.words_),(10,ai (w1.words_.length:Int)),(11,ai i4)] [V17 w1,V17 u9] (dk1 (ca f14)) ?_
  refine G [1,3,9,10,11] ?_
  exact nx h
 refine exit (seq ?_)
 refine R [3,21,22,23] ?_
 refine block (Lp h (fun(n15,i16)=>⟨sl [(3,ai n15),(21,vC w1.cmd_),(22,ai (w1.cmd_.length:Int)),(23,ai i16)],34,[V17 w1]⟩) ?_)
 clear h
 rintro⟨n15,i16⟩ m19 h
 rw[J6l]at h
 try dsimp only at h
 refine AW.st (R [3,21,22,23,24] ?_)
 refine seq (iz h (fun h=>?_) fun h=>?_)
 ·obtain⟨u21,f23,h⟩:=oc h fun _=>Q0f
  refine skip (seq ?_)
  refine block (seq ?_)
  refine rg hS [3,7,21,22,23] (di1 (an f23.1 f23.2.1)) ?_
  obtain⟨r24,f26,h⟩:=oc h (Zt hk 1 51 u21)
  refine reg hS [(3,ai (imax n15 r24)),(21,vC w1.cmd_),(22,ai (w1.cmd_.length:Int)),(23,ai i16)] [V17 w1,V6 u21] (dk1 (ca f26)) ?_
  refine G [3,21,22,23] ?_
  exact nx h
 exact exit (Rt h [2])
theorem V7g(c:AllG env [(S51 (K51 BIG))]):Q0a env (S50 F50):=by
 refine hd c V8z 6 ?_
 rintro O X hS hX hpf hk (c1:Cmd) (r:Bool) (h:F50 c1=some r)
 refine gs ?_
 rw[F50]at h
 refine R [1] ?_
 obtain⟨r3,q4,h⟩:=obs h
 have f5:=hk 0 51 rfl
 replace f5:=f5.ret c1 q4 rfl rfl
 refine seq (rg hS [2] (di1 (ap1 51 hpf f5)) ?_)
 exact Rf h
theorem V6o(c:AllG env [(S50 F50)]):Q0a env (S85 F85):=by
 refine hd c X4x 19 ?_
 rintro O X hS hX hpf hk (s1:(List Cmd)) (r:Int) (h:F85 s1=some r)
 refine gs ?_
 rw[F85]at h
 refine R [0,1] ?_
 refine seq (R [0,1,7,8] ?_)
 refine block (Lp h (fun i3=>⟨sl [(0,vC s1),(1,.fn 50 []),(7,ai (s1.length:Int)),(8,ai i3)],19,[]⟩) ?_)
 clear h
 rintro i3 m6 h
 rw[X2q]at h
 try dsimp only at h
 refine AW.st (R [0,1,7,8,9] ?_)
 refine seq (iz h (fun h=>?_) fun h=>?_)
 ·refine skip (seq ?_)
  refine block (R [0,1,5,7,8] ?_)
  obtain⟨u8,f10,h⟩:=oc h fun _=>Q0f
  obtain⟨r11,f13,h⟩:=oc h (Zt hk 0 50 u8)
  refine seq (rg hS [0,1,5,7,8,16] (di1 (an f10.1 (an f10.2.1 (ca f13)))) ?_)
  refine ik h (fun h=>?_) fun h=>?_
  ·exact Rt h [4]
  refine G [0,1,7,8] ?_
  exact nx h
 exact exit (Rt h [4])
end Go.Abs.U48
