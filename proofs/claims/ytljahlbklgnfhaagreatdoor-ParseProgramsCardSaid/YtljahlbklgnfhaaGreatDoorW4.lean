import Derived.Test.YtljahlbklgnfhaaGreatDoorD1
set_option linter.unusedVariables false
set_option linter.unusedSimpArgs false
set_option linter.defProp false
set_option maxRecDepth 8000
set_option maxHeartbeats 4000000
namespace Go.Abs.U48
open Go.RowKit Go.Proofs AW
theorem K3l(c:AllG env [S84,S133,S144,S48]):Q0a env S256:=by
 refine hd c K7v 26 fun O X hS hX hpf hk ⟨x1,x2,x3,x4⟩=>fun r (h:F256 x1 x2 x3 x4=some r)=>gs ?_
 rw[F256]at h
 refine R [0] ?_
 refine seq (Ua1 h [0,3] (Z5 hk 0 rfl) fun r7 h=>?_)
 obtain⟨r11,f13,h⟩:=oc h (Zt hk 1 133 r7)
 obtain⟨r14,q15,h⟩:=obs h
 replace q15:=Q0d q15
 have f16:=fun hg=>(hk 2 144 rfl).ret r7.text_ (q15 hg) rfl rfl
 refine seq (seq ?_)
 refine reg hS [(0,.ref 0 0),(3,.ref 1 0),(14,ab (!r11||!r14))] [V4 x1 x2 x3 x4,V1 r7] ?_ ?_
 ·clear h hk hS hX c
  exact dh1 (an (ca f13) (ap1 144 hpf f16))
 refine ik h (fun h=>?_) fun h=>?_
 ·refine Xa1 h [0,3] (Z4 hk 3 rfl) 1 fun _ h=>?_
  refine R [3] ?_
  exact Rt h [2]
 refine R [3] ?_
 exact Rt h [2]
theorem K3k{w252:Y1}(c:AllG env [S168,S84,S129,S252 w252]):Q0a env (S257 w252):=by
 refine hd c K7u 16 fun O X hS hX hpf hk ⟨x1,x2,x3,x4⟩=>fun r (h:F257 w252 x1 x2 x3 x4=some r)=>gs ?_
 rw[F257]at h
 refine R [0] ?_
 refine seq (rg hS [0,3] di ?_)
 refine weak (Weak.own 3 49 5 (by decide) rfl) ?_
 refine weak (Weak.slots (L:=[(0,.ref 0 0),(3,.vec 1 (List.length ([]:List Word)))]) ⟨rfl,rfl,trivial⟩) ?_
 refine block (Lp h (fun(x7,l8)=>⟨sl [(0,.ref 0 0),(3,.vec 1 (List.length l8))],16,[V4 x1 x2 x3 x7,rWo l8]⟩) ?_)
 clear h
 rintro⟨x7,l8⟩ m11 h
 rw[Q3b]at h
 try dsimp only at h
 refine AW.st (block ?_)
 refine seq (Ua1 h [0,3] (Z4 hk 0 rfl) fun x12 h=>?_)
 obtain⟨r16,f18,h⟩:=oc h (Z5 hk 1 rfl)
 obtain⟨r20,f22,h⟩:=oc h (Zt hk 2 129 r16)
 refine seq (seq ?_)
 refine rg hS [0,3,9] (di1 (an (cb f18) (ca f22))) ?_
 refine ik h (fun h=>?_) fun h=>?_
 ·exact Rt h [2]
 refine xb h (Z4 hk 3 rfl) 2 ?_
 rintro⟨r24,r25⟩ f27 h
 replace h:=ap Word.pv h;obtain⟨out32,f34,h⟩:=h
 refine rg hS [0,3] (di1 (an (cb f27) f34)) ?_
 exact nx h
theorem K3z{w200:Y0}{w252:Y1}(c:AllG env [S84,S255,S256,S83,S257 w252,S168,S200 w200]):Q0a env (S227 w200 w252):=by
 refine hd c K8i 49 fun O X hS hX hpf hk ⟨inCase1,x2,x3,x4,x5⟩=>fun r (h:F227 w200 w252 inCase1 x2 x3 x4 x5=some r)=>gs ?_
 rw[F227]at h
 refine R [0,1,4] ?_
 refine seq (Ua1 h [0,1,4,5] (Z5 hk 0 rfl) fun r8 h=>?_)
 refine R [0,1,4,5] ?_
 refine seq (Xa2 h [0,1,4,5] (Z5 hk 1 rfl) 1 fun r12 x13 h=>?_)
 refine seq (Xa2 h [0,1,4,5] (Z4 hk 2 rfl) 1 fun r20 x21 h=>?_)
 obtain⟨r28,f30,h⟩:=oc h (Z5 hk 0 rfl)
 obtain⟨r32,f34,h⟩:=oc h (Zt hk 3 83 r28)
 refine seq (seq ?_)
 refine rg hS [0,1,4,5,25] (di1 (an (cb f30) (ca f34))) ?_
 refine iz h (fun h=>?_) fun h=>?_
 ·refine R [0,1,4,5] ?_
  refine Xa2 h [0,1,4,5] (Z4 hk 4 rfl) 1 fun r36 x37 h=>?_
  refine seq (Xa2 h [0,1,4,5] (Z5 hk 1 rfl) 1 fun r44 x45 h=>?_)
  refine seq (Ua1 h [0,1,4,5] (Z4 hk 5 rfl) fun x52 h=>?_)
  refine seq (xb h (Z5 hk 6 rfl) 2 ?_)
  rintro⟨r56,r57⟩ f59 h
  refine rg hS [4,5] (di1 (cb f59)) ?_
  exact Rt h [4]
 refine rg hS [0,1,4,5] di ?_
 refine seq (Xa2 h [0,1,4,5] (Z5 hk 1 rfl) 1 fun r64 x65 h=>?_)
 refine seq (Ua1 h [0,1,4,5] (Z4 hk 5 rfl) fun x72 h=>?_)
 refine seq (xb h (Z5 hk 6 rfl) 2 ?_)
 rintro⟨r76,r77⟩ f79 h
 refine rg hS [4,5] (di1 (cb f79)) ?_
 exact Rt h [4]
theorem K3j{w200:Y0}{w252:Y1}(c:AllG env [S84,S252 w252,S129,S80,S47 w200]):Q0a env (S258 w200 w252):=by
 refine hd c K7t 35 fun O X hS hX hpf hk ⟨x1,x2,x3,x4⟩=>fun r (h:F258 w200 w252 x1 x2 x3 x4=some r)=>?_
 have pf_252:O.pf 252=false:=pft hpf 252 rfl
 refine gs ?_
 rw[F258]at h
 refine R [0,2] ?_
 refine seq (Ua1 h [0,2,3] (Z5 hk 0 rfl) fun r7 h=>?_)
 refine R [0,2,3] ?_
 refine seq (xb h (Z4 hk 1 rfl) 1 ?_)
 rintro⟨r11,r12⟩ f14 h
 refine rg hS [0,2,3] (di1 (cb f14)) ?_
 refine seq (block ?_)
 refine Lq r (Q3f x1 x2 x3 w252 w200 r7) (fun(x19,l20)=>⟨sl [(0,.ref 0 0),(2,.ref 1 0),(3,.ref 2 0)],35,[V4 x1 x2 x3 x19,V5 0 0 [],V16 18 r7.at_ [] l20.length,rWo l20]⟩) ?_ ?_
 ·obtain⟨r58,f60,h⟩:=oc h (Z5 hk 0 rfl)
  obtain⟨r62,f64,h⟩:=oc h (Zt hk 2 129 r58)
  refine seq (seq ?_)
  refine rg hS [0,2,3,21] (di1 (an (cb f60) (ca f64))) ?_
  refine iz h (fun h=>?_) fun h=>?_
  ·refine skip (block ?_)
   rcases Q0w h with⟨n70,q68,rfl⟩|⟨⟨r66,r67⟩,q68,h⟩
   ·have f71:=(hk 1 252 rfl).boom (x1,x2,x3,r12) q68 rfl rfl
    have e72:=Q4x f71 rfl rfl
    exact dS 22 7 3 [0,1,2] [.ref 2 3,.full [V14 r11],.ref 0 0,.any,.any,.any,.any,.any] [.gone,V5 0 0 [],.var [ai 18,ai r7.at_,as_ [],.full [V14 r11],.nils,.nils]] trivial e72
   dsimp only at h
   have f69:=(hk 1 252 rfl).ret (x1,x2,x3,r12) q68 rfl rfl
   have e73:=Q2y f69 rfl rfl rfl rfl
   replace h:=ap Word.pv h;obtain⟨out74,f76,h⟩:=h
   refine dregV mixed hS [3,5,7] [(0,0),(0,1),(1,0),(1,1),(2,0),(3,0),(4,1),(5,1),(6,2),(7,2)] [.ref 2 3,.full [V14 r11],.ref 0 0,.pv (V14 r66),.full [V14 r66],.vec 3 (List.length out74),.ref 2 3,.any] [[V4 x1 x2 x3 r12,V5 0 0 [],.var [ai 18,ai r7.at_,as_ [],.full [V14 r11],.nils,.nils]],[V4 x1 x2 x3 r67,V5 0 0 [],.var [ai 18,ai r7.at_,as_ [],.full [V14 r11],.nils,.nils]],[V4 x1 x2 x3 r67,V5 0 0 [],.var [ai 18,ai r7.at_,as_ [],.full [V14 r11],.nils,.nils],rWo out74],[V4 x1 x2 x3 r67,V5 0 0 [],V16 18 r7.at_ [] out74.length,rWo out74]] [(22,.ref 2 3),(23,.full [V14 r11]),(24,.ref 0 0),(25,.pv (V14 r66)),(26,.full [V14 r66]),(27,.vec 3 (List.length out74)),(28,.ref 2 3),(0,.ref 0 0),(2,.ref 1 0),(3,.ref 2 0),(21,ab r62)] (by kernel_rfl) (by kernel_rfl) (by kernel_rfl) ?_ [(0,.ref 0 0),(2,.ref 1 0),(3,.ref 2 0)] [V4 x1 x2 x3 r67,V5 0 0 [],V16 18 r7.at_ [] out74.length,rWo out74] ⟨rfl,rfl,rfl,trivial⟩ rfl ?_
   ·repeat'(first|exact Q3z.nil|refine Q3z.cons rfl rfl rfl ?_ ?_)
    all_goals exact dv1 (an pf_252 (an e73 f76))
   exact ny h
  refine exit (seq ?_)
  refine seq (Ua2 h [0,2,3,30] (Z4 hk 3 rfl) fun r77 x78 h=>?_)
  refine ik h (fun h=>?_) fun h=>?_
  ·refine Xa2 h [2,3] (Z5 hk 4 rfl) 1 fun r83 x84 h=>?_
   exact Rt h [2]
  exact Rt h [2]
 clear h
 rintro⟨x19,l20⟩ m23 h
 unfold Q3f at h
 try dsimp only at h
 obtain⟨r24,f26,h⟩:=oc h (Z5 hk 0 rfl)
 obtain⟨r28,f30,h⟩:=oc h (Zt hk 2 129 r24)
 refine AW.st (seq ?_)
 refine seq (rg hS [0,2,3,21] (di1 (an (cb f26) (ca f30))) ?_)
 refine iz h (fun h=>?_) fun h=>?_
 ·refine skip (block ?_)
  rcases Q0w h with⟨n36,q34,rfl⟩|⟨⟨r32,r33⟩,q34,h⟩
  ·have f37:=(hk 1 252 rfl).boom (x1,x2,x3,x19) q34 rfl rfl
   have e38:=Q4x f37 rfl rfl
   exact dS 22 7 3 [0,1,2] [.ref 2 3,.vec 3 (List.length l20),.ref 0 0,.any,.any,.any,.any,.any] [.gone,V5 0 0 [],V16 18 r7.at_ [] l20.length,rWo l20] trivial e38
  dsimp only at h
  have f35:=(hk 1 252 rfl).ret (x1,x2,x3,x19) q34 rfl rfl
  have e39:=Q2y f35 rfl rfl rfl rfl
  replace h:=ap Word.pv h;obtain⟨out40,f42,h⟩:=h
  refine dV 22 7 [3,5,7] [(0,0),(0,1),(1,0),(1,1),(2,0),(3,0),(4,1),(5,1),(6,2),(7,2)] [.ref 2 3,.vec 3 (List.length l20),.ref 0 0,.pv (V14 r32),.full [V14 r32],.vec 3 (List.length out40),.ref 2 3,.any] [[(0,V4 x1 x2 x3 r33)],[(3,rWo out40)],[(2,V16 18 r7.at_ [] out40.length)]] [0,2,3] (an pf_252 (an e39 f42)) ?_
  exact nx h
 refine exit (seq ?_)
 refine seq (Ua2 h [0,2,3,30] (Z4 hk 3 rfl) fun r43 x44 h=>?_)
 refine ik h (fun h=>?_) fun h=>?_
 ·refine Xa2 h [2,3] (Z5 hk 4 rfl) 1 fun r49 x50 h=>?_
  exact Rt h [2]
 exact Rt h [2]
theorem K3y{w200:Y0}{w252:Y1}(c:AllG env [S84,S252 w252,S255,S80,S83,S258 w200 w252]):Q0a env (S228 w200 w252):=by
 refine hd c K8h 37 fun O X hS hX hpf hk ⟨x1,x2,x3,x4⟩=>fun r (h:F228 w200 w252 x1 x2 x3 x4=some r)=>?_
 have pf_258:O.pf 258=false:=pft hpf 258 rfl
 refine gs ?_
 rw[F228]at h
 refine R [0,2] ?_
 obtain⟨r7,f9,h⟩:=oc h (Z5 hk 0 rfl)
 refine seq (AW.after ?_)
 refine rg hS [0,2,3] (di1 (cb f9)) ?_
 refine oC Cmd.pv 2 5 36 6 ?_
 refine R [0,2,3] ?_
 refine seq (xb h (Z4 hk 1 rfl) 1 ?_)
 rintro⟨r11,r12⟩ f14 h
 refine rg hS [0,2,3] (di1 (cb f14)) ?_
 refine seq (Xa2 h [0,2,3] (Z5 hk 2 rfl) 1 fun r19 x20 h=>?_)
 refine seq (Ua2 h [0,2,3] (Z4 hk 3 rfl) fun r27 x28 h=>?_)
 refine seq (block ?_)
 refine Lp h (fun(x32,l33)=>⟨sl [(0,.ref 0 0),(2,.ref 1 0),(3,.ref 2 0)],37,[V4 x1 x2 x3 x32,V5 0 0 [],.var [ai 17,ai r7.at_,as_ [],.full [V14 r11],.nils,.vec 3 (List.length l33)],rCm l33]⟩) ?_
 clear h
 rintro⟨x32,l33⟩ m36 h
 rw[Q6u]at h
 try dsimp only at h
 obtain⟨r37,f39,h⟩:=oc h (Z5 hk 0 rfl)
 obtain⟨r41,f43,h⟩:=oc h (Zt hk 4 83 r37)
 refine AW.st (seq ?_)
 refine seq (rg hS [0,2,3,26] (di1 (an (cb f39) (ca f43))) ?_)
 refine iz h (fun h=>?_) fun h=>?_
 ·refine skip (block ?_)
  rcases Q0w h with⟨n49,q47,rfl⟩|⟨⟨r45,x46⟩,q47,h⟩
  ·have f50:=(hk 5 258 rfl).boom (x1,x2,x3,x32) q47 rfl rfl
   have e51:=Q4x f50 rfl rfl
   exact dS 27 7 3 [0,1,2] [.ref 2 5,.vec 3 (List.length l33),.ref 0 0,.any,.any,.any,.any,.any] [.gone,V5 0 0 [],.var [ai 17,ai r7.at_,as_ [],.full [V14 r11],.nils,.vec 3 (List.length l33)],rCm l33] trivial e51
  dsimp only at h
  have f48:=(hk 5 258 rfl).ret (x1,x2,x3,x32) q47 rfl rfl
  have e52:=Q2y f48 rfl rfl rfl rfl
  replace h:=ap Cmd.pv h;obtain⟨out53,f55,h⟩:=h
  refine dV 27 7 [3,5,7] [(0,0),(0,1),(1,0),(1,1),(2,0),(3,0),(4,1),(5,1),(6,2),(7,2)] [.ref 2 5,.vec 3 (List.length l33),.ref 0 0,.pv (V7 r45),.full [V7 r45],.vec 3 (List.length out53),.ref 2 5,.any] [[(0,V4 x1 x2 x3 x46)],[(3,rCm out53)],[(2,.var [ai 17,ai r7.at_,as_ [],.full [V14 r11],.nils,.vec 3 (List.length out53)])]] [0,2,3] (an pf_258 (an e52 f55)) ?_
  exact nx h
 refine exit (seq ?_)
 refine Xa2 h [2,3] (Z5 hk 2 rfl) 1 fun r56 x57 h=>?_
 exact Rt h [2]
theorem K3x{w200:Y0}(c:AllG env [S84,S256,S127,S253 w200]):Q0a env (S229 w200):=by
 refine hd c K8g 33 fun O X hS hX hpf hk ⟨x1,x2,x3,x4⟩=>fun r (h:F229 w200 x1 x2 x3 x4=some r)=>gs ?_
 rw[F229]at h
 refine R [0,2] ?_
 refine seq (Ua1 h [0,2,3] (Z5 hk 0 rfl) fun r7 h=>?_)
 refine R [0,2,3] ?_
 refine seq (Xa2 h [0,2,3] (Z4 hk 1 rfl) 1 fun r11 x12 h=>?_)
 refine seq (seq ?_)
 refine Ua1 h [0,2,3,20] (Z5 hk 2 rfl) fun r19 h=>?_
 refine ik h (fun h=>?_) fun h=>?_
 ·exact Rt h [2]
 refine seq (Xa2 h [2,3] (Z4 hk 3 rfl) 1 fun r24 x25 h=>?_)
 refine seq (R [2,3,28] ?_)
 refine ik h (fun h=>?_) fun h=>?_
 ·refine rg hS [2,3] di ?_
  exact Rt h [2]
 exact Rt h [2]
theorem K3w{w252:Y1}(c:AllG env [S84,S252 w252,S129]):Q0a env (S230 w252):=by
 refine hd c K8f 30 fun O X hS hX hpf hk ⟨x1,x2,x3,x4⟩=>fun r (h:F230 w252 x1 x2 x3 x4=some r)=>?_
 have pf_252:O.pf 252=false:=pft hpf 252 rfl
 refine gs ?_
 rw[F230]at h
 refine R [0,2] ?_
 refine seq (Ua1 h [0,2,3] (Z5 hk 0 rfl) fun r7 h=>?_)
 refine R [0,2,3] ?_
 refine seq (xb h (Z4 hk 1 rfl) 1 ?_)
 rintro⟨r11,r12⟩ f14 h
 refine rg hS [0,2,3] (di1 (cb f14)) ?_
 refine seq (block ?_)
 refine Lq r (Q5q x1 x2 x3 w252 r7) (fun(x19,l20)=>⟨sl [(0,.ref 0 0),(2,.ref 1 0),(3,.ref 2 0)],30,[V4 x1 x2 x3 x19,V5 0 0 [],V16 16 r7.at_ [] l20.length,rWo l20]⟩) ?_ ?_
 ·obtain⟨r44,f46,h⟩:=oc h (Z5 hk 0 rfl)
  obtain⟨r48,f50,h⟩:=oc h (Zt hk 2 129 r44)
  refine seq (seq ?_)
  refine rg hS [0,2,3,21] (di1 (an (cb f46) (ca f50))) ?_
  refine iz h (fun h=>?_) fun h=>?_
  ·refine skip (block ?_)
   rcases Q0w h with⟨n56,q54,rfl⟩|⟨⟨r52,r53⟩,q54,h⟩
   ·have f57:=(hk 1 252 rfl).boom (x1,x2,x3,r12) q54 rfl rfl
    have e58:=Q4x f57 rfl rfl
    exact dS 22 7 3 [0,1,2] [.ref 2 3,.full [V14 r11],.ref 0 0,.any,.any,.any,.any,.any] [.gone,V5 0 0 [],.var [ai 16,ai r7.at_,as_ [],.full [V14 r11],.nils,.nils]] trivial e58
   dsimp only at h
   have f55:=(hk 1 252 rfl).ret (x1,x2,x3,r12) q54 rfl rfl
   have e59:=Q2y f55 rfl rfl rfl rfl
   replace h:=ap Word.pv h;obtain⟨out60,f62,h⟩:=h
   refine dregV mixed hS [3,5,7] [(0,0),(0,1),(1,0),(1,1),(2,0),(3,0),(4,1),(5,1),(6,2),(7,2)] [.ref 2 3,.full [V14 r11],.ref 0 0,.pv (V14 r52),.full [V14 r52],.vec 3 (List.length out60),.ref 2 3,.any] [[V4 x1 x2 x3 r12,V5 0 0 [],.var [ai 16,ai r7.at_,as_ [],.full [V14 r11],.nils,.nils]],[V4 x1 x2 x3 r53,V5 0 0 [],.var [ai 16,ai r7.at_,as_ [],.full [V14 r11],.nils,.nils]],[V4 x1 x2 x3 r53,V5 0 0 [],.var [ai 16,ai r7.at_,as_ [],.full [V14 r11],.nils,.nils],rWo out60],[V4 x1 x2 x3 r53,V5 0 0 [],V16 16 r7.at_ [] out60.length,rWo out60]] [(22,.ref 2 3),(23,.full [V14 r11]),(24,.ref 0 0),(25,.pv (V14 r52)),(26,.full [V14 r52]),(27,.vec 3 (List.length out60)),(28,.ref 2 3),(0,.ref 0 0),(2,.ref 1 0),(3,.ref 2 0),(21,ab r48)] (by kernel_rfl) (by kernel_rfl) (by kernel_rfl) ?_ [(0,.ref 0 0),(2,.ref 1 0),(3,.ref 2 0)] [V4 x1 x2 x3 r53,V5 0 0 [],V16 16 r7.at_ [] out60.length,rWo out60] ⟨rfl,rfl,rfl,trivial⟩ rfl ?_
   ·repeat'(first|exact Q3z.nil|refine Q3z.cons rfl rfl rfl ?_ ?_)
    all_goals exact dv1 (an pf_252 (an e59 f62))
   exact ny h
  exact exit (Rt h [2])
 clear h
 rintro⟨x19,l20⟩ m23 h
 unfold Q5q at h
 try dsimp only at h
 obtain⟨r24,f26,h⟩:=oc h (Z5 hk 0 rfl)
 obtain⟨r28,f30,h⟩:=oc h (Zt hk 2 129 r24)
 refine AW.st (seq ?_)
 refine seq (rg hS [0,2,3,21] (di1 (an (cb f26) (ca f30))) ?_)
 refine iz h (fun h=>?_) fun h=>?_
 ·refine skip (block ?_)
  rcases Q0w h with⟨n36,q34,rfl⟩|⟨⟨r32,r33⟩,q34,h⟩
  ·have f37:=(hk 1 252 rfl).boom (x1,x2,x3,x19) q34 rfl rfl
   have e38:=Q4x f37 rfl rfl
   exact dS 22 7 3 [0,1,2] [.ref 2 3,.vec 3 (List.length l20),.ref 0 0,.any,.any,.any,.any,.any] [.gone,V5 0 0 [],V16 16 r7.at_ [] l20.length,rWo l20] trivial e38
  dsimp only at h
  have f35:=(hk 1 252 rfl).ret (x1,x2,x3,x19) q34 rfl rfl
  have e39:=Q2y f35 rfl rfl rfl rfl
  replace h:=ap Word.pv h;obtain⟨out40,f42,h⟩:=h
  refine dV 22 7 [3,5,7] [(0,0),(0,1),(1,0),(1,1),(2,0),(3,0),(4,1),(5,1),(6,2),(7,2)] [.ref 2 3,.vec 3 (List.length l20),.ref 0 0,.pv (V14 r32),.full [V14 r32],.vec 3 (List.length out40),.ref 2 3,.any] [[(0,V4 x1 x2 x3 r33)],[(3,rWo out40)],[(2,V16 16 r7.at_ [] out40.length)]] [0,2,3] (an pf_252 (an e39 f42)) ?_
  exact nx h
 exact exit (Rt h [2])
theorem K3v{w252:Y1}(c:AllG env [S84,S83,S48,S129,S252 w252,S130,S254 w252]):Q0a env (S231 w252):=by
 refine hd c K8e 60 fun O X hS hX hpf hk ⟨x1,x2,x3,x4⟩=>fun r (h:F231 w252 x1 x2 x3 x4=some r)=>?_
 have pf_252:O.pf 252=false:=pft hpf 252 rfl
 have pf_254:O.pf 254=false:=pft hpf 254 rfl
 refine gs ?_
 rw[F231]at h
 refine R [0,2] ?_
 obtain⟨r7,f9,h⟩:=oc h (Z5 hk 0 rfl)
 refine seq (AW.after ?_)
 refine rg hS [0,2,3] (di1 (cb f9)) ?_
 refine o2 (oC Word.pv 2 3 49 5 ?_)
 refine oC Redir.pv 2 4 51 9 ?_
 refine block (Lp h (fun(x11,l12,l13)=>⟨sl [(0,.ref 0 0),(2,.ref 1 0),(3,.ref 2 0)],60,[V4 x1 x2 x3 x11,V5 0 0 [],V17 1 r7.at_ [] l12.length l13.length,rWo l12,rRe l13]⟩) ?_)
 clear h
 rintro⟨x11,l12,l13⟩ m16 h
 rw[Q4p]at h
 try dsimp only at h
 refine AW.st (block ?_)
 refine seq (Ua1 h [0,2,3,4] (Z5 hk 0 rfl) fun r17 h=>?_)
 obtain⟨r21,q22,h⟩:=obs h
 replace q22:=Q0d q22
 have f23:=fun hg=>(hk 1 83 rfl).ret r17 (q22 hg) rfl rfl
 refine block (seq ?_)
 refine reg hS [(0,.ref 0 0),(2,.ref 1 0),(3,.ref 2 0),(4,.ref 5 0),(12,ab ((((decide ((l12.length:Int)=0)&&decide (0<(l13.length:Int)))&&!decide (r21=[]))&&!decide (r21=[110,111,116]))&&!decide (r21=[105,110])))] [V4 x1 x2 x3 x11,V5 0 0 [],V17 1 r7.at_ [] l12.length l13.length,rWo l12,rRe l13,V1 r17] ?_ ?_
 ·clear h hk hS hX c
  exact dh1 (ap1 83 hpf f23)
 refine iz h (fun h=>?_) fun h=>?_
 ·refine Xa1 h [0,2,3] (Z4 hk 2 rfl) 1 fun _ h=>?_
  exact nx h
 refine seq (Ua1 h [0,2,3,4,40] (Zt hk 3 129 r17) fun r31 h=>?_)
 refine iz h (fun h=>?_) fun h=>?_
 ·rcases Q0w h with⟨n39,q37,rfl⟩|⟨⟨r35,r36⟩,q37,h⟩
  ·have f40:=(hk 4 252 rfl).boom (x1,x2,x3,x11) q37 rfl rfl
   have e41:=Q4x f40 rfl rfl
   exact dS 43 7 3 [0,1,2] [.ref 2 3,.vec 3 (List.length l12),.ref 0 0,.any,.any,.any,.any,.any] [.gone,V5 0 0 [],V17 1 r7.at_ [] l12.length l13.length,rWo l12,rRe l13,V1 r17] trivial e41
  dsimp only at h
  have f38:=(hk 4 252 rfl).ret (x1,x2,x3,x11) q37 rfl rfl
  have e42:=Q2y f38 rfl rfl rfl rfl
  replace h:=ap Word.pv h;obtain⟨out43,f45,h⟩:=h
  refine dV 43 7 [3,5,7] [(0,0),(0,1),(1,0),(1,1),(2,0),(3,0),(4,1),(5,1),(6,2),(7,2)] [.ref 2 3,.vec 3 (List.length l12),.ref 0 0,.pv (V14 r35),.full [V14 r35],.vec 3 (List.length out43),.ref 2 3,.any] [[(0,V4 x1 x2 x3 r36)],[(3,rWo out43)],[(2,V17 1 r7.at_ [] out43.length l13.length)]] [0,2,3] (an pf_252 (an e42 f45)) ?_
  exact nx h
 refine seq (Ua1 h [0,2,3,50] (Zt hk 5 130 r17) fun r46 h=>?_)
 refine iz h (fun h=>?_) fun h=>?_
 ·rcases Q0w h with⟨n54,q52,rfl⟩|⟨⟨r50,x51⟩,q52,h⟩
  ·have f55:=(hk 6 254 rfl).boom (x1,x2,x3,x11) q52 rfl rfl
   have e56:=Q4x f55 rfl rfl
   exact dS 53 7 3 [0,1,2] [.ref 2 4,.vec 4 (List.length l13),.ref 0 0,.any,.any,.any,.any,.any] [.gone,V5 0 0 [],V17 1 r7.at_ [] l12.length l13.length,rWo l12,rRe l13,V1 r17] trivial e56
  dsimp only at h
  have f53:=(hk 6 254 rfl).ret (x1,x2,x3,x11) q52 rfl rfl
  have e57:=Q2y f53 rfl rfl rfl rfl
  replace h:=ap Redir.pv h;obtain⟨out58,f60,h⟩:=h
  refine dV 53 7 [3,5,7] [(0,0),(0,1),(1,0),(1,1),(2,0),(3,0),(4,1),(5,1),(6,2),(7,2)] [.ref 2 4,.vec 4 (List.length l13),.ref 0 0,.pv (V15 r50),.full [V15 r50],.vec 4 (List.length out58),.ref 2 4,.any] [[(0,V4 x1 x2 x3 x51)],[(4,rRe out58)],[(2,V17 1 r7.at_ [] l12.length out58.length)]] [0,2,3] (an pf_254 (an e57 f60)) ?_
  exact nx h
 exact Rt h [2]
end Go.Abs.U48
