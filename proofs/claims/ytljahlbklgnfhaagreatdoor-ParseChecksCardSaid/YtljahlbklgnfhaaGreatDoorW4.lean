import Derived.Test.YtljahlbklgnfhaaGreatDoorD1
set_option linter.unusedVariables false
set_option linter.unusedSimpArgs false
set_option linter.defProp false
set_option maxRecDepth 8000
set_option maxHeartbeats 4000000
namespace Go.Abs.U48
open Go.RowKit Go.Proofs AW
theorem g_F226{w200:Y0}(c:AllG env [(S84 F84),(S255 F255),(S47 (F47 w200)),(S168 F168),(S200 w200)]):GoodH env (S226 (F226 w200)):=by
 obtain⟨O,X,hS,hX,hpf,hk⟩:=orp c
 refine gh fn_226 38 ?_
 rintro⟨kind1,inCase2,x3,x4,x5,x6⟩ (r:Int ⊕ (Cmd×Int)) h m em
 refine ghs em ?_;clear em m
 replace h:F226 w200 kind1 inCase2 x3 x4 x5 x6=some r:=h
 rw[F226]at h
 refine srg hS [0,1,2,6] di ?_
 refine seq ?_
 obtain⟨r9,q10,h⟩:=obs h
 have f11:=(hk 0 84 rfl).ret (0,x3,x4,x5,x6) q10 rfl rfl
 have e12:=ecall0 f11 rfl rfl rfl rfl
 refine rg hS [0,2,6,7] (di1 (ap0 84 hpf e12)) ?_
 refine srg hS [0,2,6,7] di ?_
 refine seq ?_
 rcases bindX_some h with⟨n17,q15,rfl⟩|⟨⟨r13,x14⟩,q15,h⟩
 ·have f18:=(hk 1 255 rfl).boom (([40]:Str),x3,x4,x5,IntKind.wrap .i64 (x6+1)) q15 rfl rfl
  have e19:=xcall0 f18 rfl rfl
  apply regS hS hX 1 rfl
  ·exact dp1 e19
  exact boomR rfl rfl rfl
 dsimp only at h
 have f16:=(hk 1 255 rfl).ret (([40]:Str),x3,x4,x5,IntKind.wrap .i64 (x6+1)) q15 rfl rfl
 try simp only[PVE]at f16
 have e20:=ecall0 f16 rfl rfl rfl rfl
 refine rg hS [0,2,6,7,8] (di1 (ap0 255 hpf e20)) ?_
 refine seq ?_
 rcases bindX_some h with⟨n25,q23,rfl⟩|⟨⟨r21,x22⟩,q23,h⟩
 ·have f26:=(hk 2 47 rfl).boom (false,x3,x4,x5,x14) q23 rfl rfl
  have e27:=xcall0 f26 rfl rfl
  apply regS hS hX 1 rfl
  ·exact dp1 e27
  exact boomR rfl rfl rfl
 dsimp only at h
 have f24:=(hk 2 47 rfl).ret (false,x3,x4,x5,x14) q23 rfl rfl
 have e28:=ecall0 f24 rfl rfl rfl rfl
 refine rg hS [0,2,6,7,8] (di1 (ap0 47 hpf e28)) ?_
 refine seq ?_
 rcases bindX_some h with⟨n33,q31,rfl⟩|⟨⟨r29,x30⟩,q31,h⟩
 ·have f34:=(hk 1 255 rfl).boom (([41]:Str),x3,x4,x5,x22) q31 rfl rfl
  have e35:=xcall0 f34 rfl rfl
  apply regS hS hX 1 rfl
  ·exact dp1 e35
  exact boomR rfl rfl rfl
 dsimp only at h
 have f32:=(hk 1 255 rfl).ret (([41]:Str),x3,x4,x5,x22) q31 rfl rfl
 try simp only[PVE]at f32
 have e36:=ecall0 f32 rfl rfl rfl rfl
 refine rg hS [0,2,6,7,8] (di1 (ap0 255 hpf e36)) ?_
 refine seq ?_
 obtain⟨x37,q38,h⟩:=obs h
 have f39:=(hk 3 168 rfl).ret (x3,x4,x5,x30) q38 rfl rfl
 have e40:=ecall0 f39 rfl rfl rfl rfl
 refine rg hS [0,2,6,7,8] (di1 (ap0 168 hpf e40)) ?_
 refine seq ?_
 rcases bindX_some h with⟨n45,q43,rfl⟩|⟨⟨r41,r42⟩,q43,h⟩
 ·have f46:=(hk 4 200 rfl).boom (inCase2,x3,x4,x5,x37) q43 rfl rfl
  have e47:=xcall0 f46 rfl rfl
  refine dregS mixed hS hX 3 [0,1,2] [.agg [ai 12,ai r13,as_ [],.nils,.nils,vC r21],.ref 0 0,ab inCase2,.any,.any,.any,.any] [(31,.agg [ai 12,ai r13,as_ [],.nils,.nils,vC r21]),(32,.ref 0 0),(33,ab inCase2),(34,.any),(35,.any),(36,.any),(0,.ref 0 0),(2,ab inCase2),(6,.ref 1 0),(7,.ref 2 0),(8,.ref 3 0)] rfl (by kernel_rfl) rfl (H':=[.gone,V4 0 0 [],V4 kind1 r9.at_ [],V7 12 r13 [] r21]) ?_ ?_ (boomR rfl rfl rfl)
  ·repeat'(first|exact Facts.nil|refine Facts.cons rfl rfl rfl ?_ ?_)
   all_goals exact dv
  ·exact Stops.call rfl rfl (by simp -implicitDefEqProofs only[RUNS,qindex,Nat.reduceAdd,Nat.reduceLeDiff,Nat.reduceSub,reduceIte,Nat.reduceEqDiff,Nat.reduceLT,reduceCtorEq,Nat.reduceMul,Nat.reduceBEq,Int.reduceEq,Int.reduceToNat,Int.toNat_zero,Nat.sub_zero,if_true,if_false,eq_self,ne_eq,TYS,e47]<;>rfl)
 dsimp only at h
 have f44:=(hk 4 200 rfl).ret (inCase2,x3,x4,x5,x37) q43 rfl rfl
 have e48:=ecall0 f44 rfl rfl rfl rfl
 refine dregV mixed hS [3,6] [(0,0),(0,1),(1,0),(2,0),(3,0),(4,1),(5,1),(6,1)] [.agg [ai 12,ai r13,as_ [],.nils,.nils,vC r21],.ref 0 0,ab inCase2,.pv (V9 r41),.full (List.map Cmd.pv [Cmd.mk 12 r13 [] [] [] r21,r41]),.ref 2 5,.any] [[V2 x3 x4 x5 x37,V4 0 0 [],V4 kind1 r9.at_ [],V7 12 r13 [] r21],[V2 x3 x4 x5 r42,V4 0 0 [],V4 kind1 r9.at_ [],V7 12 r13 [] r21],[V2 x3 x4 x5 r42,V4 0 0 [],.var [ai kind1,ai r9.at_,as_ [],.nils,.nils,.full (List.map Cmd.pv [Cmd.mk 12 r13 [] [] [] r21,r41])],V7 12 r13 [] r21]] [(31,.agg [ai 12,ai r13,as_ [],.nils,.nils,vC r21]),(32,.ref 0 0),(33,ab inCase2),(34,.pv (V9 r41)),(35,.full (List.map Cmd.pv [Cmd.mk 12 r13 [] [] [] r21,r41])),(36,.ref 2 5),(0,.ref 0 0),(2,ab inCase2),(6,.ref 1 0),(7,.ref 2 0),(8,.ref 3 0)] (by kernel_rfl) (by kernel_rfl) (by kernel_rfl) ?_ [(6,.ref 1 0),(7,.ref 2 0)] [V2 x3 x4 x5 r42,V4 0 0 [],.var [ai kind1,ai r9.at_,as_ [],.nils,.nils,.full (List.map Cmd.pv [Cmd.mk 12 r13 [] [] [] r21,r41])],V7 12 r13 [] r21] ⟨rfl,rfl,trivial⟩ rfl ?_
 ·repeat'(first|exact Facts.nil|refine Facts.cons rfl rfl rfl ?_ ?_)
  all_goals exact dv1 (ap0 200 hpf e48)
 refine srg hS [6] di ?_
 cases h;exact ret fin
theorem g_F256(c:AllG env [(S84 F84),(S133 F133),(S144 F144),(S48 F48)]):GoodH env (S256 F256):=by
 obtain⟨O,X,hS,hX,hpf,hk⟩:=orp c
 have pf_133:O.pf 133=true:=pft hpf 133 rfl
 refine gh fn_256 26 ?_
 rintro⟨x1,x2,x3,x4⟩ (r:Int ⊕ (Str×Int)) h m em
 refine ghs em ?_;clear em m
 replace h:F256 x1 x2 x3 x4=some r:=h
 rw[F256]at h
 refine srg hS [0] di ?_
 refine seq ?_
 obtain⟨r7,q8,h⟩:=obs h
 have f9:=(hk 0 84 rfl).ret (0,x1,x2,x3,x4) q8 rfl rfl
 have e10:=ecall0 f9 rfl rfl rfl rfl
 refine rg hS [0,3] (di1 (ap0 84 hpf e10)) ?_
 refine seq ?_
 refine seq ?_
 obtain⟨r11,q12,h⟩:=obs h
 have f13:=(hk 1 133 rfl).ret r7 q12 rfl rfl
 obtain⟨r14,q15,h⟩:=obs h
 replace q15:=guardO_t q15
 have f16:=fun hg=>(hk 2 144 rfl).ret r7.text_ (q15 hg) rfl rfl
 refine reg hS [(0,.ref 0 0),(3,.ref 1 0),(14,ab (!r11||!r14))] [V2 x1 x2 x3 x4,V1 r7] ?_ ?_
 ·clear h hk hS hX c
  exact dh1 (an pf_133 (an f13 (ap1 144 hpf f16)))
 refine ifk h (fun hb17 h=>?_) fun hb17 h=>?_
 ·rcases bindX_some h with⟨n20,q18,rfl⟩|⟨_,q18,h⟩
  ·have f21:=(hk 3 48 rfl).boom (x1,x2,x3,x4) q18 rfl rfl
   have e22:=xcall0 f21 rfl rfl
   apply regS hS hX 1 rfl
   ·exact dp1 e22
   exact boomR rfl rfl rfl
  have f19:=(hk 3 48 rfl).ret (x1,x2,x3,x4) q18 rfl rfl
  have e23:=ecall0 f19 rfl rfl rfl rfl
  refine rg hS [0,3] (di1 (ap0 48 hpf e23)) ?_
  refine srg hS [3] di ?_
  refine srg hS [2] di ?_
  cases h;exact ret fin
 ·refine srg hS [3] di ?_
  refine srg hS [2] di ?_
  cases h;exact ret fin
theorem g_F257{w252:Y1}(c:AllG env [(S168 F168),(S84 F84),(S129 F129),(S252 w252)]):GoodH env (S257 (F257 w252)):=by
 obtain⟨O,X,hS,hX,hpf,hk⟩:=orp c
 have pf_84:O.pf 84=false:=pft hpf 84 rfl
 have pf_252:O.pf 252=false:=pft hpf 252 rfl
 refine gh fn_257 16 ?_
 rintro⟨x1,x2,x3,x4⟩ (r:Int ⊕ ((List Word)×Int)) h m em
 refine ghs em ?_;clear em m
 replace h:F257 w252 x1 x2 x3 x4=some r:=h
 rw[F257]at h
 refine srg hS [0] di ?_
 refine seq ?_
 refine reg hS [(0,.ref 0 0),(3,.nils)] [V2 x1 x2 x3 x4] dk ?_
 refine weak (Weak.own 3 49 5 (by decide) rfl) ?_
 refine weak (Weak.slots (L:=[(0,.ref 0 0),(3,.vec 1 (List.length ([]:List Word)))]) ⟨rfl,rfl,trivial⟩) ?_
 refine block ?_
 refine lp (α:=Nat×Int×(List Word)) (fun(_,x7,l8)=>⟨sl [(0,.ref 0 0),(3,.vec 1 (List.length l8))],16,[V2 x1 x2 x3 x7,rWo l8]⟩) (fun x=>iter (F257_b1 x1 x2 x3 w252) x.1 x.2=some r) (fun x=>x.1) (BIG,(x4,([]:List Word))) (Weak.slots kp) h ?_
 clear h
 intro⟨n35,x7,l8⟩ h
 replace h:=iter_some h;obtain⟨m11,rfl,h⟩:=h
 rw[F257_b1]at h
 try dsimp only at h
 refine AW.st ?_
 refine block ?_
 refine seq ?_
 obtain⟨x12,q13,h⟩:=obs h
 have f14:=(hk 0 168 rfl).ret (x1,x2,x3,x7) q13 rfl rfl
 have e15:=ecall0 f14 rfl rfl rfl rfl
 refine rg hS [0,3] (di1 (ap0 168 hpf e15)) ?_
 refine seq ?_
 refine seq ?_
 obtain⟨r16,q17,h⟩:=obs h
 have f18:=(hk 1 84 rfl).ret (0,x1,x2,x3,x12) q17 rfl rfl
 have e19:=ecall0 f18 rfl rfl rfl rfl
 obtain⟨r20,q21,h⟩:=obs h
 have f22:=(hk 2 129 rfl).ret r16 q21 rfl rfl
 refine rg hS [0,3,9] (di1 (an pf_84 (an e19 (ap1 129 hpf f22)))) ?_
 refine ifk h (fun hb23 h=>?_) fun hb23 h=>?_
 ·refine srg hS [2] di ?_
  cases h;exact ret fin
 ·rcases bindX_some h with⟨n28,q26,rfl⟩|⟨⟨r24,r25⟩,q26,h⟩
  ·have f29:=(hk 3 252 rfl).boom (x1,x2,x3,x12) q26 rfl rfl
   have e30:=xcall0 f29 rfl rfl
   apply regS hS hX 2 rfl
   ·exact dp1 e30
   exact boomR rfl rfl rfl
  dsimp only at h
  have f27:=(hk 3 252 rfl).ret (x1,x2,x3,x12) q26 rfl rfl
  have e31:=ecall0 f27 rfl rfl rfl rfl
  obtain⟨out32,q33,h⟩:=obs h
  have f34:=appO_f q33
  try simp only[LNS,List.length_replicate,Nat.reduceAdd,Nat.reduceLeDiff,Nat.add_zero,Nat.reduceMul]at f34
  have f34m:=appO_m Word.pv q33
  try simp only[PVE,List.nil_append]at f34m
  have f34n:=appO_n q33
  try simp only[LNS]at f34n
  refine reg hS [(0,.ref 0 0),(3,.vec 1 (List.length out32))] [V2 x1 x2 x3 r25,rWo out32] (dk1 (an pf_252 (an e31 (an f34.1 (an f34m f34n))))) ?_
  clear f34
  clear f34m
  clear f34n
  exact⟨(m11,(r25,out32)),h,(Weak.norm (m:=2) (Nat.le_of_ble_eq_true rfl) kp hq rfl rfl),Nat.lt_succ_self _⟩
theorem g_F227{w200:Y0}{w252:Y1}(c:AllG env [(S84 F84),(S255 F255),(S256 F256),(S83 F83),(S257 (F257 w252)),(S168 F168),(S200 w200)]):GoodH env (S227 (F227 w200 w252)):=by
 obtain⟨O,X,hS,hX,hpf,hk⟩:=orp c
 have pf_84:O.pf 84=false:=pft hpf 84 rfl
 refine gh fn_227 49 ?_
 rintro⟨inCase1,x2,x3,x4,x5⟩ (r:Int ⊕ (Cmd×Int)) h m em
 refine ghs em ?_;clear em m
 replace h:F227 w200 w252 inCase1 x2 x3 x4 x5=some r:=h
 rw[F227]at h
 refine srg hS [0,1,4] di ?_
 refine seq ?_
 obtain⟨r8,q9,h⟩:=obs h
 have f10:=(hk 0 84 rfl).ret (0,x2,x3,x4,x5) q9 rfl rfl
 have e11:=ecall0 f10 rfl rfl rfl rfl
 refine rg hS [0,1,4,5] (di1 (ap0 84 hpf e11)) ?_
 refine srg hS [0,1,4,5] di ?_
 refine seq ?_
 rcases bindX_some h with⟨n16,q14,rfl⟩|⟨⟨r12,x13⟩,q14,h⟩
 ·have f17:=(hk 1 255 rfl).boom (([40]:Str),x2,x3,x4,IntKind.wrap .i64 (x5+1)) q14 rfl rfl
  have e18:=xcall0 f17 rfl rfl
  apply regS hS hX 1 rfl
  ·exact dp1 e18
  exact boomR rfl rfl rfl
 dsimp only at h
 have f15:=(hk 1 255 rfl).ret (([40]:Str),x2,x3,x4,IntKind.wrap .i64 (x5+1)) q14 rfl rfl
 try simp only[PVE]at f15
 have e19:=ecall0 f15 rfl rfl rfl rfl
 refine rg hS [0,1,4,5] (di1 (ap0 255 hpf e19)) ?_
 refine seq ?_
 rcases bindX_some h with⟨n24,q22,rfl⟩|⟨⟨r20,x21⟩,q22,h⟩
 ·have f25:=(hk 2 256 rfl).boom (x2,x3,x4,x13) q22 rfl rfl
  have e26:=xcall0 f25 rfl rfl
  apply regS hS hX 1 rfl
  ·exact dp1 e26
  exact boomR rfl rfl rfl
 dsimp only at h
 have f23:=(hk 2 256 rfl).ret (x2,x3,x4,x13) q22 rfl rfl
 have e27:=ecall0 f23 rfl rfl rfl rfl
 refine rg hS [0,1,4,5] (di1 (ap0 256 hpf e27)) ?_
 refine seq ?_
 refine seq ?_
 obtain⟨r28,q29,h⟩:=obs h
 have f30:=(hk 0 84 rfl).ret (0,x2,x3,x4,x21) q29 rfl rfl
 have e31:=ecall0 f30 rfl rfl rfl rfl
 obtain⟨r32,q33,h⟩:=obs h
 have f34:=(hk 3 83 rfl).ret r28 q33 rfl rfl
 refine rg hS [0,1,4,5,25] (di1 (an pf_84 (an e31 (ap1 83 hpf f34)))) ?_
 refine ifs h (fun hb35 h=>?_) fun hb35 h=>?_
 ·refine srg hS [0,1,4,5] di ?_
  rcases bindX_some h with⟨n40,q38,rfl⟩|⟨⟨r36,x37⟩,q38,h⟩
  ·have f41:=(hk 4 257 rfl).boom (x2,x3,x4,IntKind.wrap .i64 (x21+1)) q38 rfl rfl
   have e42:=xcall0 f41 rfl rfl
   apply regS hS hX 1 rfl
   ·exact dp1 e42
   exact boomR rfl rfl rfl
  dsimp only at h
  have f39:=(hk 4 257 rfl).ret (x2,x3,x4,IntKind.wrap .i64 (x21+1)) q38 rfl rfl
  have e43:=ecall0 f39 rfl rfl rfl rfl
  refine rg hS [0,1,4,5] (di1 (ap0 257 hpf e43)) ?_
  refine seq ?_
  rcases bindX_some h with⟨n48,q46,rfl⟩|⟨⟨r44,x45⟩,q46,h⟩
  ·have f49:=(hk 1 255 rfl).boom (([41]:Str),x2,x3,x4,x37) q46 rfl rfl
   have e50:=xcall0 f49 rfl rfl
   apply regS hS hX 1 rfl
   ·exact dp1 e50
   exact boomR rfl rfl rfl
  dsimp only at h
  have f47:=(hk 1 255 rfl).ret (([41]:Str),x2,x3,x4,x37) q46 rfl rfl
  try simp only[PVE]at f47
  have e51:=ecall0 f47 rfl rfl rfl rfl
  refine rg hS [0,1,4,5] (di1 (ap0 255 hpf e51)) ?_
  refine seq ?_
  obtain⟨x52,q53,h⟩:=obs h
  have f54:=(hk 5 168 rfl).ret (x2,x3,x4,x45) q53 rfl rfl
  have e55:=ecall0 f54 rfl rfl rfl rfl
  refine rg hS [0,1,4,5] (di1 (ap0 168 hpf e55)) ?_
  refine seq ?_
  rcases bindX_some h with⟨n60,q58,rfl⟩|⟨⟨r56,r57⟩,q58,h⟩
  ·have f61:=(hk 6 200 rfl).boom (inCase1,x2,x3,x4,x52) q58 rfl rfl
   have e62:=xcall0 f61 rfl rfl
   apply regS hS hX 2 rfl
   ·exact dp1 e62
   exact boomR rfl rfl rfl
  dsimp only at h
  have f59:=(hk 6 200 rfl).ret (inCase1,x2,x3,x4,x52) q58 rfl rfl
  have e63:=ecall0 f59 rfl rfl rfl rfl
  refine reg hS [(4,.ref 1 0),(5,.ref 2 0)] [V2 x2 x3 x4 r57,V4 0 0 [],.var [ai 10,ai r8.at_,as_ r20,vWo r36,.nils,.full [V9 r56]]] (dk1 (ap0 200 hpf e63)) ?_
  refine srg hS [4] di ?_
  cases h;exact ret fin
 ·refine reg hS [(0,.ref 0 0),(1,ab inCase1),(4,.ref 1 0),(5,.ref 2 0)] [V2 x2 x3 x4 x21,V4 0 0 [],.var [ai 10,ai r8.at_,as_ r20,.full (List.map Word.pv [Word.mk 2 [42] [] [] []]),.nils,.nils]] dk ?_
  refine seq ?_
  rcases bindX_some h with⟨n68,q66,rfl⟩|⟨⟨r64,x65⟩,q66,h⟩
  ·have f69:=(hk 1 255 rfl).boom (([41]:Str),x2,x3,x4,x21) q66 rfl rfl
   have e70:=xcall0 f69 rfl rfl
   apply regS hS hX 1 rfl
   ·exact dp1 e70
   exact boomR rfl rfl rfl
  dsimp only at h
  have f67:=(hk 1 255 rfl).ret (([41]:Str),x2,x3,x4,x21) q66 rfl rfl
  try simp only[PVE]at f67
  have e71:=ecall0 f67 rfl rfl rfl rfl
  refine rg hS [0,1,4,5] (di1 (ap0 255 hpf e71)) ?_
  refine seq ?_
  obtain⟨x72,q73,h⟩:=obs h
  have f74:=(hk 5 168 rfl).ret (x2,x3,x4,x65) q73 rfl rfl
  have e75:=ecall0 f74 rfl rfl rfl rfl
  refine rg hS [0,1,4,5] (di1 (ap0 168 hpf e75)) ?_
  refine seq ?_
  rcases bindX_some h with⟨n80,q78,rfl⟩|⟨⟨r76,r77⟩,q78,h⟩
  ·have f81:=(hk 6 200 rfl).boom (inCase1,x2,x3,x4,x72) q78 rfl rfl
   have e82:=xcall0 f81 rfl rfl
   apply regS hS hX 2 rfl
   ·exact dp1 e82
   exact boomR rfl rfl rfl
  dsimp only at h
  have f79:=(hk 6 200 rfl).ret (inCase1,x2,x3,x4,x72) q78 rfl rfl
  have e83:=ecall0 f79 rfl rfl rfl rfl
  refine reg hS [(4,.ref 1 0),(5,.ref 2 0)] [V2 x2 x3 x4 r77,V4 0 0 [],.var [ai 10,ai r8.at_,as_ r20,.full (List.map Word.pv [Word.mk 2 [42] [] [] []]),.nils,.full [V9 r76]]] (dk1 (ap0 200 hpf e83)) ?_
  refine srg hS [4] di ?_
  cases h;exact ret fin
theorem g_F258{w200:Y0}{w252:Y1}(c:AllG env [(S84 F84),(S252 w252),(S129 F129),(S80 F80),(S47 (F47 w200))]):GoodH env (S258 (F258 w200 w252)):=by
 obtain⟨O,X,hS,hX,hpf,hk⟩:=orp c
 have pf_84:O.pf 84=false:=pft hpf 84 rfl
 have pf_252:O.pf 252=false:=pft hpf 252 rfl
 refine gh fn_258 35 ?_
 rintro⟨x1,x2,x3,x4⟩ (r:Int ⊕ (Cmd×Int)) h m em
 refine ghs em ?_;clear em m
 replace h:F258 w200 w252 x1 x2 x3 x4=some r:=h
 rw[F258]at h
 refine srg hS [0,2] di ?_
 refine seq ?_
 obtain⟨r7,q8,h⟩:=obs h
 have f9:=(hk 0 84 rfl).ret (0,x1,x2,x3,x4) q8 rfl rfl
 have e10:=ecall0 f9 rfl rfl rfl rfl
 refine rg hS [0,2,3] (di1 (ap0 84 hpf e10)) ?_
 refine srg hS [0,2,3] di ?_
 refine seq ?_
 rcases bindX_some h with⟨n15,q13,rfl⟩|⟨⟨r11,r12⟩,q13,h⟩
 ·have f16:=(hk 1 252 rfl).boom (x1,x2,x3,IntKind.wrap .i64 (x4+1)) q13 rfl rfl
  have e17:=xcall0 f16 rfl rfl
  apply regS hS hX 1 rfl
  ·exact dp1 e17
  exact boomR rfl rfl rfl
 dsimp only at h
 have f14:=(hk 1 252 rfl).ret (x1,x2,x3,IntKind.wrap .i64 (x4+1)) q13 rfl rfl
 have e18:=ecall0 f14 rfl rfl rfl rfl
 refine reg hS [(0,.ref 0 0),(2,.ref 1 0),(3,.ref 2 0)] [V2 x1 x2 x3 r12,V4 0 0 [],.var [ai 18,ai r7.at_,as_ [],.full [V10 r11],.nils,.nils]] (dk1 (ap0 252 hpf e18)) ?_
 refine seq ?_
 refine block ?_
 refine AW.lp1 (α:=Nat×Int×(List Word)) (fun(_,x19,l20)=>⟨sl [(0,.ref 0 0),(2,.ref 1 0),(3,.ref 2 0)],35,[V2 x1 x2 x3 x19,V4 0 0 [],V12 18 r7.at_ [] l20.length,rWo l20]⟩) (fun x=>iter (F258_b1 x1 x2 x3 w252 w200 r7) x.1 x.2=some r) (fun x=>x.1) ?_ ?_
 ·refine seq ?_
  refine seq ?_
  obtain⟨r58,q59,h⟩:=obs h
  have f60:=(hk 0 84 rfl).ret (0,x1,x2,x3,r12) q59 rfl rfl
  have e61:=ecall0 f60 rfl rfl rfl rfl
  obtain⟨r62,q63,h⟩:=obs h
  have f64:=(hk 2 129 rfl).ret r58 q63 rfl rfl
  refine rg hS [0,2,3,21] (di1 (an pf_84 (an e61 (ap1 129 hpf f64)))) ?_
  refine ifs h (fun hb65 h=>?_) fun hb65 h=>?_
  ·refine skip ?_
   refine block ?_
   rcases bindX_some h with⟨n70,q68,rfl⟩|⟨⟨r66,r67⟩,q68,h⟩
   ·have f71:=(hk 1 252 rfl).boom (x1,x2,x3,r12) q68 rfl rfl
    have e72:=xcall0 f71 rfl rfl
    refine dregS mixed hS hX 3 [0,1,2] [.ref 2 3,.full [V10 r11],.ref 0 0,.any,.any,.any,.any,.any] [(22,.ref 2 3),(23,.full [V10 r11]),(24,.ref 0 0),(25,.any),(26,.any),(27,.any),(28,.any),(0,.ref 0 0),(2,.ref 1 0),(3,.ref 2 0),(21,ab r62)] rfl (by kernel_rfl) rfl (H':=[.gone,V4 0 0 [],.var [ai 18,ai r7.at_,as_ [],.full [V10 r11],.nils,.nils]]) ?_ ?_ (boomR rfl rfl rfl)
    ·repeat'(first|exact Facts.nil|refine Facts.cons rfl rfl rfl ?_ ?_)
     all_goals exact dv
    ·exact Stops.call rfl rfl (by simp -implicitDefEqProofs only[RUNS,qindex,Nat.reduceAdd,Nat.reduceLeDiff,Nat.reduceSub,reduceIte,Nat.reduceEqDiff,Nat.reduceLT,reduceCtorEq,Nat.reduceMul,Nat.reduceBEq,Int.reduceEq,Int.reduceToNat,Int.toNat_zero,Nat.sub_zero,if_true,if_false,eq_self,ne_eq,TYS,e72]<;>rfl)
   dsimp only at h
   have f69:=(hk 1 252 rfl).ret (x1,x2,x3,r12) q68 rfl rfl
   have e73:=ecall0 f69 rfl rfl rfl rfl
   obtain⟨out74,q75,h⟩:=obs h
   have f76:=appO_f q75
   try simp only[LNS,List.length_replicate,Nat.reduceAdd,Nat.reduceLeDiff,Nat.add_zero,Nat.reduceMul]at f76
   have f76m:=appO_m Word.pv q75
   try simp only[PVE,List.nil_append]at f76m
   have f76n:=appO_n q75
   try simp only[LNS]at f76n
   refine dregV mixed hS [3,5,7] [(0,0),(0,1),(1,0),(1,1),(2,0),(3,0),(4,1),(5,1),(6,2),(7,2)] [.ref 2 3,.full [V10 r11],.ref 0 0,.pv (V10 r66),.full [V10 r66],.vec 3 (List.length out74),.ref 2 3,.any] [[V2 x1 x2 x3 r12,V4 0 0 [],.var [ai 18,ai r7.at_,as_ [],.full [V10 r11],.nils,.nils]],[V2 x1 x2 x3 r67,V4 0 0 [],.var [ai 18,ai r7.at_,as_ [],.full [V10 r11],.nils,.nils]],[V2 x1 x2 x3 r67,V4 0 0 [],.var [ai 18,ai r7.at_,as_ [],.full [V10 r11],.nils,.nils],rWo out74],[V2 x1 x2 x3 r67,V4 0 0 [],V12 18 r7.at_ [] out74.length,rWo out74]] [(22,.ref 2 3),(23,.full [V10 r11]),(24,.ref 0 0),(25,.pv (V10 r66)),(26,.full [V10 r66]),(27,.vec 3 (List.length out74)),(28,.ref 2 3),(0,.ref 0 0),(2,.ref 1 0),(3,.ref 2 0),(21,ab r62)] (by kernel_rfl) (by kernel_rfl) (by kernel_rfl) ?_ [(0,.ref 0 0),(2,.ref 1 0),(3,.ref 2 0)] [V2 x1 x2 x3 r67,V4 0 0 [],V12 18 r7.at_ [] out74.length,rWo out74] ⟨rfl,rfl,rfl,trivial⟩ rfl ?_
   ·repeat'(first|exact Facts.nil|refine Facts.cons rfl rfl rfl ?_ ?_)
    all_goals exact dv1 (an pf_252 (an e73 (an f76.1 (an f76m f76n))))
   clear f76
   clear f76m
   clear f76n
   exact⟨(BIG,(r67,out74)),h,(Weak.norm (m:=4) (Nat.le_of_ble_eq_true rfl) kp hq rfl rfl)⟩
  ·refine exit ?_
   refine seq ?_
   refine seq ?_
   obtain⟨⟨r77,x78⟩,q79,h⟩:=obs h
   dsimp only at h
   have f80:=(hk 3 80 rfl).ret (x1,x2,x3,r12) q79 rfl rfl
   have e81:=ecall0 f80 rfl rfl rfl rfl
   refine rg hS [0,2,3,30] (di1 (ap0 80 hpf e81)) ?_
   refine ifk h (fun hb82 h=>?_) fun hb82 h=>?_
   ·rcases bindX_some h with⟨n87,q85,rfl⟩|⟨⟨r83,x84⟩,q85,h⟩
    ·have f88:=(hk 4 47 rfl).boom (true,x1,x2,x3,x78) q85 rfl rfl
     have e89:=xcall0 f88 rfl rfl
     apply regS hS hX 1 rfl
     ·exact dp1 e89
     exact boomR rfl rfl rfl
    dsimp only at h
    have f86:=(hk 4 47 rfl).ret (true,x1,x2,x3,x78) q85 rfl rfl
    have e90:=ecall0 f86 rfl rfl rfl rfl
    refine rg hS [2,3] (di1 (ap0 47 hpf e90)) ?_
    refine srg hS [2] di ?_
    cases h;exact ret fin
   ·refine srg hS [2] di ?_
    cases h;exact ret fin
 clear h
 intro⟨n57,x19,l20⟩ h
 replace h:=iter_some h;obtain⟨m23,rfl,h⟩:=h
 rw[F258_b1]at h
 try dsimp only at h
 refine AW.st ?_
 refine seq ?_
 refine seq ?_
 obtain⟨r24,q25,h⟩:=obs h
 have f26:=(hk 0 84 rfl).ret (0,x1,x2,x3,x19) q25 rfl rfl
 have e27:=ecall0 f26 rfl rfl rfl rfl
 obtain⟨r28,q29,h⟩:=obs h
 have f30:=(hk 2 129 rfl).ret r24 q29 rfl rfl
 refine rg hS [0,2,3,21] (di1 (an pf_84 (an e27 (ap1 129 hpf f30)))) ?_
 refine ifs h (fun hb31 h=>?_) fun hb31 h=>?_
 ·refine skip ?_
  refine block ?_
  rcases bindX_some h with⟨n36,q34,rfl⟩|⟨⟨r32,r33⟩,q34,h⟩
  ·have f37:=(hk 1 252 rfl).boom (x1,x2,x3,x19) q34 rfl rfl
   have e38:=xcall0 f37 rfl rfl
   refine dregS mixed hS hX 3 [0,1,2] [.ref 2 3,.vec 3 (List.length l20),.ref 0 0,.any,.any,.any,.any,.any] [(22,.ref 2 3),(23,.vec 3 (List.length l20)),(24,.ref 0 0),(25,.any),(26,.any),(27,.any),(28,.any),(0,.ref 0 0),(2,.ref 1 0),(3,.ref 2 0),(21,ab r28)] rfl (by kernel_rfl) rfl (H':=[.gone,V4 0 0 [],V12 18 r7.at_ [] l20.length,rWo l20]) ?_ ?_ (boomR rfl rfl rfl)
   ·repeat'(first|exact Facts.nil|refine Facts.cons rfl rfl rfl ?_ ?_)
    all_goals exact dv
   ·exact Stops.call rfl rfl (by simp -implicitDefEqProofs only[RUNS,qindex,Nat.reduceAdd,Nat.reduceLeDiff,Nat.reduceSub,reduceIte,Nat.reduceEqDiff,Nat.reduceLT,reduceCtorEq,Nat.reduceMul,Nat.reduceBEq,Int.reduceEq,Int.reduceToNat,Int.toNat_zero,Nat.sub_zero,if_true,if_false,eq_self,ne_eq,TYS,e38]<;>rfl)
  dsimp only at h
  have f35:=(hk 1 252 rfl).ret (x1,x2,x3,x19) q34 rfl rfl
  have e39:=ecall0 f35 rfl rfl rfl rfl
  obtain⟨out40,q41,h⟩:=obs h
  have f42:=appO_f q41
  try simp only[LNS,List.length_replicate,Nat.reduceAdd,Nat.reduceLeDiff,Nat.add_zero,Nat.reduceMul]at f42
  have f42m:=appO_m Word.pv q41
  try simp only[PVE,List.nil_append]at f42m
  have f42n:=appO_n q41
  try simp only[LNS]at f42n
  refine dregV mixed hS [3,5,7] [(0,0),(0,1),(1,0),(1,1),(2,0),(3,0),(4,1),(5,1),(6,2),(7,2)] [.ref 2 3,.vec 3 (List.length l20),.ref 0 0,.pv (V10 r32),.full [V10 r32],.vec 3 (List.length out40),.ref 2 3,.any] [[V2 x1 x2 x3 x19,V4 0 0 [],V12 18 r7.at_ [] l20.length,rWo l20],[V2 x1 x2 x3 r33,V4 0 0 [],V12 18 r7.at_ [] l20.length,rWo l20],[V2 x1 x2 x3 r33,V4 0 0 [],V12 18 r7.at_ [] l20.length,rWo out40],[V2 x1 x2 x3 r33,V4 0 0 [],V12 18 r7.at_ [] out40.length,rWo out40]] [(22,.ref 2 3),(23,.vec 3 (List.length l20)),(24,.ref 0 0),(25,.pv (V10 r32)),(26,.full [V10 r32]),(27,.vec 3 (List.length out40)),(28,.ref 2 3),(0,.ref 0 0),(2,.ref 1 0),(3,.ref 2 0),(21,ab r28)] (by kernel_rfl) (by kernel_rfl) (by kernel_rfl) ?_ [(0,.ref 0 0),(2,.ref 1 0),(3,.ref 2 0)] [V2 x1 x2 x3 r33,V4 0 0 [],V12 18 r7.at_ [] out40.length,rWo out40] ⟨rfl,rfl,rfl,trivial⟩ rfl ?_
  ·repeat'(first|exact Facts.nil|refine Facts.cons rfl rfl rfl ?_ ?_)
   all_goals exact dv1 (an pf_252 (an e39 (an f42.1 (an f42m f42n))))
  clear f42
  clear f42m
  clear f42n
  exact⟨(m23,(r33,out40)),h,(Weak.norm (m:=4) (Nat.le_of_ble_eq_true rfl) kp hq rfl rfl),Nat.lt_succ_self _⟩
 ·refine exit ?_
  refine seq ?_
  refine seq ?_
  obtain⟨⟨r43,x44⟩,q45,h⟩:=obs h
  dsimp only at h
  have f46:=(hk 3 80 rfl).ret (x1,x2,x3,x19) q45 rfl rfl
  have e47:=ecall0 f46 rfl rfl rfl rfl
  refine rg hS [0,2,3,30] (di1 (ap0 80 hpf e47)) ?_
  refine ifk h (fun hb48 h=>?_) fun hb48 h=>?_
  ·rcases bindX_some h with⟨n53,q51,rfl⟩|⟨⟨r49,x50⟩,q51,h⟩
   ·have f54:=(hk 4 47 rfl).boom (true,x1,x2,x3,x44) q51 rfl rfl
    have e55:=xcall0 f54 rfl rfl
    apply regS hS hX 1 rfl
    ·exact dp1 e55
    exact boomR rfl rfl rfl
   dsimp only at h
   have f52:=(hk 4 47 rfl).ret (true,x1,x2,x3,x44) q51 rfl rfl
   have e56:=ecall0 f52 rfl rfl rfl rfl
   refine rg hS [2,3] (di1 (ap0 47 hpf e56)) ?_
   refine srg hS [2] di ?_
   cases h;exact ret fin
  ·refine srg hS [2] di ?_
   cases h;exact ret fin
theorem g_F228{w200:Y0}{w252:Y1}(c:AllG env [(S84 F84),(S252 w252),(S255 F255),(S80 F80),(S83 F83),(S258 (F258 w200 w252))]):GoodH env (S228 (F228 w200 w252)):=by
 obtain⟨O,X,hS,hX,hpf,hk⟩:=orp c
 have pf_84:O.pf 84=false:=pft hpf 84 rfl
 have pf_258:O.pf 258=false:=pft hpf 258 rfl
 refine gh fn_228 37 ?_
 rintro⟨x1,x2,x3,x4⟩ (r:Int ⊕ (Cmd×Int)) h m em
 refine ghs em ?_;clear em m
 replace h:F228 w200 w252 x1 x2 x3 x4=some r:=h
 rw[F228]at h
 refine srg hS [0,2] di ?_
 refine seq ?_
 obtain⟨r7,q8,h⟩:=obs h
 have f9:=(hk 0 84 rfl).ret (0,x1,x2,x3,x4) q8 rfl rfl
 have e10:=ecall0 f9 rfl rfl rfl rfl
 refine AW.after ?_
 refine reg hS [(0,.ref 0 0),(2,.ref 1 0),(3,.ref 2 0)] [V2 x1 x2 x3 x4,V4 0 0 [],V4 17 r7.at_ []] (dk1 (ap0 84 hpf e10)) ?_
 refine⟨⟨sl [(0,.ref 0 0),(2,.ref 1 0),(3,.ref 2 0)],37,[V2 x1 x2 x3 x4,V4 0 0 [],.var [ai 17,ai r7.at_,as_ [],.nils,.nils,.vec 3 (List.length ([]:List Cmd))],.row 36 6 (List.map Cmd.pv ([]:List Cmd)) true]⟩,(Weak.trans (Weak.ownC (σ:=⟨sl [(0,.ref 0 0),(2,.ref 1 0),(3,.ref 2 0)],37,[V2 x1 x2 x3 x4,V4 0 0 [],V4 17 r7.at_ []]⟩) 2 5 36 6 (by decide) (cs:=[ai 17,ai r7.at_,as_ [],.nils,.nils,.nils]) rfl rfl) (Weak.slots (L:=[(0,.ref 0 0),(2,.ref 1 0),(3,.ref 2 0)]) ⟨rfl,rfl,rfl,trivial⟩)),?_⟩
 refine srg hS [0,2,3] di ?_
 refine seq ?_
 rcases bindX_some h with⟨n15,q13,rfl⟩|⟨⟨r11,r12⟩,q13,h⟩
 ·have f16:=(hk 1 252 rfl).boom (x1,x2,x3,IntKind.wrap .i64 (x4+1)) q13 rfl rfl
  have e17:=xcall0 f16 rfl rfl
  apply regS hS hX 1 rfl
  ·exact dp1 e17
  exact boomR rfl rfl rfl
 dsimp only at h
 have f14:=(hk 1 252 rfl).ret (x1,x2,x3,IntKind.wrap .i64 (x4+1)) q13 rfl rfl
 have e18:=ecall0 f14 rfl rfl rfl rfl
 refine reg hS [(0,.ref 0 0),(2,.ref 1 0),(3,.ref 2 0)] [V2 x1 x2 x3 r12,V4 0 0 [],.var [ai 17,ai r7.at_,as_ [],.full [V10 r11],.nils,.vec 3 (List.length ([]:List Cmd))],.row 36 6 (List.map Cmd.pv ([]:List Cmd)) true] (dk1 (ap0 252 hpf e18)) ?_
 refine seq ?_
 rcases bindX_some h with⟨n23,q21,rfl⟩|⟨⟨r19,x20⟩,q21,h⟩
 ·have f24:=(hk 2 255 rfl).boom (([123]:Str),x1,x2,x3,r12) q21 rfl rfl
  have e25:=xcall0 f24 rfl rfl
  apply regS hS hX 1 rfl
  ·exact dp1 e25
  exact boomR rfl rfl rfl
 dsimp only at h
 have f22:=(hk 2 255 rfl).ret (([123]:Str),x1,x2,x3,r12) q21 rfl rfl
 try simp only[PVE]at f22
 have e26:=ecall0 f22 rfl rfl rfl rfl
 refine rg hS [0,2,3] (di1 (ap0 255 hpf e26)) ?_
 refine seq ?_
 obtain⟨⟨r27,x28⟩,q29,h⟩:=obs h
 dsimp only at h
 have f30:=(hk 3 80 rfl).ret (x1,x2,x3,x20) q29 rfl rfl
 have e31:=ecall0 f30 rfl rfl rfl rfl
 refine rg hS [0,2,3] (di1 (ap0 80 hpf e31)) ?_
 refine seq ?_
 refine block ?_
 refine lp (α:=Nat×Int×(List Cmd)) (fun(_,x32,l33)=>⟨sl [(0,.ref 0 0),(2,.ref 1 0),(3,.ref 2 0)],37,[V2 x1 x2 x3 x32,V4 0 0 [],.var [ai 17,ai r7.at_,as_ [],.full [V10 r11],.nils,.vec 3 (List.length l33)],rCm l33]⟩) (fun x=>iter (F228_b1 x1 x2 x3 w200 w252 r7 r11) x.1 x.2=some r) (fun x=>x.1) (BIG,(x28,([]:List Cmd))) (Weak.slots kp) h ?_
 clear h
 intro⟨n64,x32,l33⟩ h
 replace h:=iter_some h;obtain⟨m36,rfl,h⟩:=h
 rw[F228_b1]at h
 try dsimp only at h
 refine AW.st ?_
 refine seq ?_
 refine seq ?_
 obtain⟨r37,q38,h⟩:=obs h
 have f39:=(hk 0 84 rfl).ret (0,x1,x2,x3,x32) q38 rfl rfl
 have e40:=ecall0 f39 rfl rfl rfl rfl
 obtain⟨r41,q42,h⟩:=obs h
 have f43:=(hk 4 83 rfl).ret r37 q42 rfl rfl
 refine rg hS [0,2,3,26] (di1 (an pf_84 (an e40 (ap1 83 hpf f43)))) ?_
 refine ifs h (fun hb44 h=>?_) fun hb44 h=>?_
 ·refine skip ?_
  refine block ?_
  rcases bindX_some h with⟨n49,q47,rfl⟩|⟨⟨r45,x46⟩,q47,h⟩
  ·have f50:=(hk 5 258 rfl).boom (x1,x2,x3,x32) q47 rfl rfl
   have e51:=xcall0 f50 rfl rfl
   refine dregS mixed hS hX 3 [0,1,2] [.ref 2 5,.vec 3 (List.length l33),.ref 0 0,.any,.any,.any,.any,.any] [(27,.ref 2 5),(28,.vec 3 (List.length l33)),(29,.ref 0 0),(30,.any),(31,.any),(32,.any),(33,.any),(0,.ref 0 0),(2,.ref 1 0),(3,.ref 2 0),(26,ab (decide (r41=[99,97,115,101])))] rfl (by kernel_rfl) rfl (H':=[.gone,V4 0 0 [],.var [ai 17,ai r7.at_,as_ [],.full [V10 r11],.nils,.vec 3 (List.length l33)],rCm l33]) ?_ ?_ (boomR rfl rfl rfl)
   ·repeat'(first|exact Facts.nil|refine Facts.cons rfl rfl rfl ?_ ?_)
    all_goals exact dv
   ·exact Stops.call rfl rfl (by simp -implicitDefEqProofs only[RUNS,qindex,Nat.reduceAdd,Nat.reduceLeDiff,Nat.reduceSub,reduceIte,Nat.reduceEqDiff,Nat.reduceLT,reduceCtorEq,Nat.reduceMul,Nat.reduceBEq,Int.reduceEq,Int.reduceToNat,Int.toNat_zero,Nat.sub_zero,if_true,if_false,eq_self,ne_eq,TYS,e51]<;>rfl)
  dsimp only at h
  have f48:=(hk 5 258 rfl).ret (x1,x2,x3,x32) q47 rfl rfl
  have e52:=ecall0 f48 rfl rfl rfl rfl
  obtain⟨out53,q54,h⟩:=obs h
  have f55:=appO_f q54
  try simp only[LNS,List.length_replicate,Nat.reduceAdd,Nat.reduceLeDiff,Nat.add_zero,Nat.reduceMul]at f55
  have f55m:=appO_m Cmd.pv q54
  try simp only[PVE,List.nil_append]at f55m
  have f55n:=appO_n q54
  try simp only[LNS]at f55n
  refine dregV mixed hS [3,5,7] [(0,0),(0,1),(1,0),(1,1),(2,0),(3,0),(4,1),(5,1),(6,2),(7,2)] [.ref 2 5,.vec 3 (List.length l33),.ref 0 0,.pv (V9 r45),.full [V9 r45],.vec 3 (List.length out53),.ref 2 5,.any] [[V2 x1 x2 x3 x32,V4 0 0 [],.var [ai 17,ai r7.at_,as_ [],.full [V10 r11],.nils,.vec 3 (List.length l33)],rCm l33],[V2 x1 x2 x3 x46,V4 0 0 [],.var [ai 17,ai r7.at_,as_ [],.full [V10 r11],.nils,.vec 3 (List.length l33)],rCm l33],[V2 x1 x2 x3 x46,V4 0 0 [],.var [ai 17,ai r7.at_,as_ [],.full [V10 r11],.nils,.vec 3 (List.length l33)],rCm out53],[V2 x1 x2 x3 x46,V4 0 0 [],.var [ai 17,ai r7.at_,as_ [],.full [V10 r11],.nils,.vec 3 (List.length out53)],rCm out53]] [(27,.ref 2 5),(28,.vec 3 (List.length l33)),(29,.ref 0 0),(30,.pv (V9 r45)),(31,.full [V9 r45]),(32,.vec 3 (List.length out53)),(33,.ref 2 5),(0,.ref 0 0),(2,.ref 1 0),(3,.ref 2 0),(26,ab (decide (r41=[99,97,115,101])))] (by kernel_rfl) (by kernel_rfl) (by kernel_rfl) ?_ [(0,.ref 0 0),(2,.ref 1 0),(3,.ref 2 0)] [V2 x1 x2 x3 x46,V4 0 0 [],.var [ai 17,ai r7.at_,as_ [],.full [V10 r11],.nils,.vec 3 (List.length out53)],rCm out53] ⟨rfl,rfl,rfl,trivial⟩ rfl ?_
  ·repeat'(first|exact Facts.nil|refine Facts.cons rfl rfl rfl ?_ ?_)
   all_goals exact dv1 (an pf_258 (an e52 (an f55.1 (an f55m f55n))))
  clear f55
  clear f55m
  clear f55n
  exact⟨(m36,(x46,out53)),h,(Weak.norm (m:=4) (Nat.le_of_ble_eq_true rfl) kp hq rfl rfl),Nat.lt_succ_self _⟩
 ·refine exit ?_
  refine seq ?_
  rcases bindX_some h with⟨n60,q58,rfl⟩|⟨⟨r56,x57⟩,q58,h⟩
  ·have f61:=(hk 2 255 rfl).boom (([125]:Str),x1,x2,x3,x32) q58 rfl rfl
   have e62:=xcall0 f61 rfl rfl
   apply regS hS hX 1 rfl
   ·exact dp1 e62
   exact boomR rfl rfl rfl
  dsimp only at h
  have f59:=(hk 2 255 rfl).ret (([125]:Str),x1,x2,x3,x32) q58 rfl rfl
  try simp only[PVE]at f59
  have e63:=ecall0 f59 rfl rfl rfl rfl
  refine rg hS [2,3] (di1 (ap0 255 hpf e63)) ?_
  refine srg hS [2] di ?_
  cases h;exact ret fin
theorem g_F229{w200:Y0}(c:AllG env [(S84 F84),(S256 F256),(S127 F127),(S253 (F253 w200))]):GoodH env (S229 (F229 w200)):=by
 obtain⟨O,X,hS,hX,hpf,hk⟩:=orp c
 refine gh fn_229 33 ?_
 rintro⟨x1,x2,x3,x4⟩ (r:Int ⊕ (Cmd×Int)) h m em
 refine ghs em ?_;clear em m
 replace h:F229 w200 x1 x2 x3 x4=some r:=h
 rw[F229]at h
 refine srg hS [0,2] di ?_
 refine seq ?_
 obtain⟨r7,q8,h⟩:=obs h
 have f9:=(hk 0 84 rfl).ret (0,x1,x2,x3,x4) q8 rfl rfl
 have e10:=ecall0 f9 rfl rfl rfl rfl
 refine rg hS [0,2,3] (di1 (ap0 84 hpf e10)) ?_
 refine srg hS [0,2,3] di ?_
 refine seq ?_
 rcases bindX_some h with⟨n15,q13,rfl⟩|⟨⟨r11,x12⟩,q13,h⟩
 ·have f16:=(hk 1 256 rfl).boom (x1,x2,x3,IntKind.wrap .i64 (x4+1)) q13 rfl rfl
  have e17:=xcall0 f16 rfl rfl
  apply regS hS hX 1 rfl
  ·exact dp1 e17
  exact boomR rfl rfl rfl
 dsimp only at h
 have f14:=(hk 1 256 rfl).ret (x1,x2,x3,IntKind.wrap .i64 (x4+1)) q13 rfl rfl
 have e18:=ecall0 f14 rfl rfl rfl rfl
 refine rg hS [0,2,3] (di1 (ap0 256 hpf e18)) ?_
 refine seq ?_
 refine seq ?_
 obtain⟨r19,q20,h⟩:=obs h
 have f21:=(hk 2 127 rfl).ret (([123]:Str),x1,x2,x3,x12) q20 rfl rfl
 try simp only[PVE]at f21
 have e22:=ecall0 f21 rfl rfl rfl rfl
 refine rg hS [0,2,3,20] (di1 (ap0 127 hpf e22)) ?_
 refine ifk h (fun hb23 h=>?_) fun hb23 h=>?_
 ·refine srg hS [2] di ?_
  cases h;exact ret fin
 ·refine seq ?_
  rcases bindX_some h with⟨n28,q26,rfl⟩|⟨⟨r24,x25⟩,q26,h⟩
  ·have f29:=(hk 3 253 rfl).boom (x1,x2,x3,x12) q26 rfl rfl
   have e30:=xcall0 f29 rfl rfl
   apply regS hS hX 1 rfl
   ·exact dp1 e30
   exact boomR rfl rfl rfl
  dsimp only at h
  have f27:=(hk 3 253 rfl).ret (x1,x2,x3,x12) q26 rfl rfl
  have e31:=ecall0 f27 rfl rfl rfl rfl
  refine rg hS [2,3] (di1 (ap0 253 hpf e31)) ?_
  refine seq ?_
  refine srg hS [2,3,28] di ?_
  refine ifk h (fun hb32 h=>?_) fun hb32 h=>?_
  ·refine reg hS [(2,.ref 1 0),(3,.ref 2 0)] [V2 x1 x2 x3 x25,V4 0 0 [],.var [ai 15,ai r7.at_,as_ r11,.nils,.nils,.full (List.map Cmd.pv [Cmd.mk 12 0 [] [] [] []])]] dk ?_
   refine srg hS [2] di ?_
   cases h;exact ret fin
  ·refine srg hS [2] di ?_
   cases h;exact ret fin
theorem g_F230{w252:Y1}(c:AllG env [(S84 F84),(S252 w252),(S129 F129)]):GoodH env (S230 (F230 w252)):=by
 obtain⟨O,X,hS,hX,hpf,hk⟩:=orp c
 have pf_84:O.pf 84=false:=pft hpf 84 rfl
 have pf_252:O.pf 252=false:=pft hpf 252 rfl
 refine gh fn_230 30 ?_
 rintro⟨x1,x2,x3,x4⟩ (r:Int ⊕ (Cmd×Int)) h m em
 refine ghs em ?_;clear em m
 replace h:F230 w252 x1 x2 x3 x4=some r:=h
 rw[F230]at h
 refine srg hS [0,2] di ?_
 refine seq ?_
 obtain⟨r7,q8,h⟩:=obs h
 have f9:=(hk 0 84 rfl).ret (0,x1,x2,x3,x4) q8 rfl rfl
 have e10:=ecall0 f9 rfl rfl rfl rfl
 refine rg hS [0,2,3] (di1 (ap0 84 hpf e10)) ?_
 refine srg hS [0,2,3] di ?_
 refine seq ?_
 rcases bindX_some h with⟨n15,q13,rfl⟩|⟨⟨r11,r12⟩,q13,h⟩
 ·have f16:=(hk 1 252 rfl).boom (x1,x2,x3,IntKind.wrap .i64 (x4+1)) q13 rfl rfl
  have e17:=xcall0 f16 rfl rfl
  apply regS hS hX 1 rfl
  ·exact dp1 e17
  exact boomR rfl rfl rfl
 dsimp only at h
 have f14:=(hk 1 252 rfl).ret (x1,x2,x3,IntKind.wrap .i64 (x4+1)) q13 rfl rfl
 have e18:=ecall0 f14 rfl rfl rfl rfl
 refine reg hS [(0,.ref 0 0),(2,.ref 1 0),(3,.ref 2 0)] [V2 x1 x2 x3 r12,V4 0 0 [],.var [ai 16,ai r7.at_,as_ [],.full [V10 r11],.nils,.nils]] (dk1 (ap0 252 hpf e18)) ?_
 refine seq ?_
 refine block ?_
 refine AW.lp1 (α:=Nat×Int×(List Word)) (fun(_,x19,l20)=>⟨sl [(0,.ref 0 0),(2,.ref 1 0),(3,.ref 2 0)],30,[V2 x1 x2 x3 x19,V4 0 0 [],V12 16 r7.at_ [] l20.length,rWo l20]⟩) (fun x=>iter (F230_b1 x1 x2 x3 w252 r7) x.1 x.2=some r) (fun x=>x.1) ?_ ?_
 ·refine seq ?_
  refine seq ?_
  obtain⟨r44,q45,h⟩:=obs h
  have f46:=(hk 0 84 rfl).ret (0,x1,x2,x3,r12) q45 rfl rfl
  have e47:=ecall0 f46 rfl rfl rfl rfl
  obtain⟨r48,q49,h⟩:=obs h
  have f50:=(hk 2 129 rfl).ret r44 q49 rfl rfl
  refine rg hS [0,2,3,21] (di1 (an pf_84 (an e47 (ap1 129 hpf f50)))) ?_
  refine ifs h (fun hb51 h=>?_) fun hb51 h=>?_
  ·refine skip ?_
   refine block ?_
   rcases bindX_some h with⟨n56,q54,rfl⟩|⟨⟨r52,r53⟩,q54,h⟩
   ·have f57:=(hk 1 252 rfl).boom (x1,x2,x3,r12) q54 rfl rfl
    have e58:=xcall0 f57 rfl rfl
    refine dregS mixed hS hX 3 [0,1,2] [.ref 2 3,.full [V10 r11],.ref 0 0,.any,.any,.any,.any,.any] [(22,.ref 2 3),(23,.full [V10 r11]),(24,.ref 0 0),(25,.any),(26,.any),(27,.any),(28,.any),(0,.ref 0 0),(2,.ref 1 0),(3,.ref 2 0),(21,ab r48)] rfl (by kernel_rfl) rfl (H':=[.gone,V4 0 0 [],.var [ai 16,ai r7.at_,as_ [],.full [V10 r11],.nils,.nils]]) ?_ ?_ (boomR rfl rfl rfl)
    ·repeat'(first|exact Facts.nil|refine Facts.cons rfl rfl rfl ?_ ?_)
     all_goals exact dv
    ·exact Stops.call rfl rfl (by simp -implicitDefEqProofs only[RUNS,qindex,Nat.reduceAdd,Nat.reduceLeDiff,Nat.reduceSub,reduceIte,Nat.reduceEqDiff,Nat.reduceLT,reduceCtorEq,Nat.reduceMul,Nat.reduceBEq,Int.reduceEq,Int.reduceToNat,Int.toNat_zero,Nat.sub_zero,if_true,if_false,eq_self,ne_eq,TYS,e58]<;>rfl)
   dsimp only at h
   have f55:=(hk 1 252 rfl).ret (x1,x2,x3,r12) q54 rfl rfl
   have e59:=ecall0 f55 rfl rfl rfl rfl
   obtain⟨out60,q61,h⟩:=obs h
   have f62:=appO_f q61
   try simp only[LNS,List.length_replicate,Nat.reduceAdd,Nat.reduceLeDiff,Nat.add_zero,Nat.reduceMul]at f62
   have f62m:=appO_m Word.pv q61
   try simp only[PVE,List.nil_append]at f62m
   have f62n:=appO_n q61
   try simp only[LNS]at f62n
   refine dregV mixed hS [3,5,7] [(0,0),(0,1),(1,0),(1,1),(2,0),(3,0),(4,1),(5,1),(6,2),(7,2)] [.ref 2 3,.full [V10 r11],.ref 0 0,.pv (V10 r52),.full [V10 r52],.vec 3 (List.length out60),.ref 2 3,.any] [[V2 x1 x2 x3 r12,V4 0 0 [],.var [ai 16,ai r7.at_,as_ [],.full [V10 r11],.nils,.nils]],[V2 x1 x2 x3 r53,V4 0 0 [],.var [ai 16,ai r7.at_,as_ [],.full [V10 r11],.nils,.nils]],[V2 x1 x2 x3 r53,V4 0 0 [],.var [ai 16,ai r7.at_,as_ [],.full [V10 r11],.nils,.nils],rWo out60],[V2 x1 x2 x3 r53,V4 0 0 [],V12 16 r7.at_ [] out60.length,rWo out60]] [(22,.ref 2 3),(23,.full [V10 r11]),(24,.ref 0 0),(25,.pv (V10 r52)),(26,.full [V10 r52]),(27,.vec 3 (List.length out60)),(28,.ref 2 3),(0,.ref 0 0),(2,.ref 1 0),(3,.ref 2 0),(21,ab r48)] (by kernel_rfl) (by kernel_rfl) (by kernel_rfl) ?_ [(0,.ref 0 0),(2,.ref 1 0),(3,.ref 2 0)] [V2 x1 x2 x3 r53,V4 0 0 [],V12 16 r7.at_ [] out60.length,rWo out60] ⟨rfl,rfl,rfl,trivial⟩ rfl ?_
   ·repeat'(first|exact Facts.nil|refine Facts.cons rfl rfl rfl ?_ ?_)
    all_goals exact dv1 (an pf_252 (an e59 (an f62.1 (an f62m f62n))))
   clear f62
   clear f62m
   clear f62n
   exact⟨(BIG,(r53,out60)),h,(Weak.norm (m:=4) (Nat.le_of_ble_eq_true rfl) kp hq rfl rfl)⟩
  ·refine exit ?_
   refine srg hS [2] di ?_
   cases h;exact ret fin
 clear h
 intro⟨n43,x19,l20⟩ h
 replace h:=iter_some h;obtain⟨m23,rfl,h⟩:=h
 rw[F230_b1]at h
 try dsimp only at h
 refine AW.st ?_
 refine seq ?_
 refine seq ?_
 obtain⟨r24,q25,h⟩:=obs h
 have f26:=(hk 0 84 rfl).ret (0,x1,x2,x3,x19) q25 rfl rfl
 have e27:=ecall0 f26 rfl rfl rfl rfl
 obtain⟨r28,q29,h⟩:=obs h
 have f30:=(hk 2 129 rfl).ret r24 q29 rfl rfl
 refine rg hS [0,2,3,21] (di1 (an pf_84 (an e27 (ap1 129 hpf f30)))) ?_
 refine ifs h (fun hb31 h=>?_) fun hb31 h=>?_
 ·refine skip ?_
  refine block ?_
  rcases bindX_some h with⟨n36,q34,rfl⟩|⟨⟨r32,r33⟩,q34,h⟩
  ·have f37:=(hk 1 252 rfl).boom (x1,x2,x3,x19) q34 rfl rfl
   have e38:=xcall0 f37 rfl rfl
   refine dregS mixed hS hX 3 [0,1,2] [.ref 2 3,.vec 3 (List.length l20),.ref 0 0,.any,.any,.any,.any,.any] [(22,.ref 2 3),(23,.vec 3 (List.length l20)),(24,.ref 0 0),(25,.any),(26,.any),(27,.any),(28,.any),(0,.ref 0 0),(2,.ref 1 0),(3,.ref 2 0),(21,ab r28)] rfl (by kernel_rfl) rfl (H':=[.gone,V4 0 0 [],V12 16 r7.at_ [] l20.length,rWo l20]) ?_ ?_ (boomR rfl rfl rfl)
   ·repeat'(first|exact Facts.nil|refine Facts.cons rfl rfl rfl ?_ ?_)
    all_goals exact dv
   ·exact Stops.call rfl rfl (by simp -implicitDefEqProofs only[RUNS,qindex,Nat.reduceAdd,Nat.reduceLeDiff,Nat.reduceSub,reduceIte,Nat.reduceEqDiff,Nat.reduceLT,reduceCtorEq,Nat.reduceMul,Nat.reduceBEq,Int.reduceEq,Int.reduceToNat,Int.toNat_zero,Nat.sub_zero,if_true,if_false,eq_self,ne_eq,TYS,e38]<;>rfl)
  dsimp only at h
  have f35:=(hk 1 252 rfl).ret (x1,x2,x3,x19) q34 rfl rfl
  have e39:=ecall0 f35 rfl rfl rfl rfl
  obtain⟨out40,q41,h⟩:=obs h
  have f42:=appO_f q41
  try simp only[LNS,List.length_replicate,Nat.reduceAdd,Nat.reduceLeDiff,Nat.add_zero,Nat.reduceMul]at f42
  have f42m:=appO_m Word.pv q41
  try simp only[PVE,List.nil_append]at f42m
  have f42n:=appO_n q41
  try simp only[LNS]at f42n
  refine dregV mixed hS [3,5,7] [(0,0),(0,1),(1,0),(1,1),(2,0),(3,0),(4,1),(5,1),(6,2),(7,2)] [.ref 2 3,.vec 3 (List.length l20),.ref 0 0,.pv (V10 r32),.full [V10 r32],.vec 3 (List.length out40),.ref 2 3,.any] [[V2 x1 x2 x3 x19,V4 0 0 [],V12 16 r7.at_ [] l20.length,rWo l20],[V2 x1 x2 x3 r33,V4 0 0 [],V12 16 r7.at_ [] l20.length,rWo l20],[V2 x1 x2 x3 r33,V4 0 0 [],V12 16 r7.at_ [] l20.length,rWo out40],[V2 x1 x2 x3 r33,V4 0 0 [],V12 16 r7.at_ [] out40.length,rWo out40]] [(22,.ref 2 3),(23,.vec 3 (List.length l20)),(24,.ref 0 0),(25,.pv (V10 r32)),(26,.full [V10 r32]),(27,.vec 3 (List.length out40)),(28,.ref 2 3),(0,.ref 0 0),(2,.ref 1 0),(3,.ref 2 0),(21,ab r28)] (by kernel_rfl) (by kernel_rfl) (by kernel_rfl) ?_ [(0,.ref 0 0),(2,.ref 1 0),(3,.ref 2 0)] [V2 x1 x2 x3 r33,V4 0 0 [],V12 16 r7.at_ [] out40.length,rWo out40] ⟨rfl,rfl,rfl,trivial⟩ rfl ?_
  ·repeat'(first|exact Facts.nil|refine Facts.cons rfl rfl rfl ?_ ?_)
   all_goals exact dv1 (an pf_252 (an e39 (an f42.1 (an f42m f42n))))
  clear f42
  clear f42m
  clear f42n
  exact⟨(m23,(r33,out40)),h,(Weak.norm (m:=4) (Nat.le_of_ble_eq_true rfl) kp hq rfl rfl),Nat.lt_succ_self _⟩
 ·refine exit ?_
  refine srg hS [2] di ?_
  cases h;exact ret fin
theorem g_F231{w252:Y1}(c:AllG env [(S84 F84),(S83 F83),(S48 F48),(S129 F129),(S252 w252),(S130 F130),(S254 (F254 w252))]):GoodH env (S231 (F231 w252)):=by
 obtain⟨O,X,hS,hX,hpf,hk⟩:=orp c
 have pf_252:O.pf 252=false:=pft hpf 252 rfl
 have pf_254:O.pf 254=false:=pft hpf 254 rfl
 refine gh fn_231 60 ?_
 rintro⟨x1,x2,x3,x4⟩ (r:Int ⊕ (Cmd×Int)) h m em
 refine ghs em ?_;clear em m
 replace h:F231 w252 x1 x2 x3 x4=some r:=h
 rw[F231]at h
 refine srg hS [0,2] di ?_
 refine seq ?_
 obtain⟨r7,q8,h⟩:=obs h
 have f9:=(hk 0 84 rfl).ret (0,x1,x2,x3,x4) q8 rfl rfl
 have e10:=ecall0 f9 rfl rfl rfl rfl
 refine AW.after ?_
 refine reg hS [(0,.ref 0 0),(2,.ref 1 0),(3,.ref 2 0)] [V2 x1 x2 x3 x4,V4 0 0 [],V4 1 r7.at_ []] (dk1 (ap0 84 hpf e10)) ?_
 refine⟨⟨sl [(0,.ref 0 0),(2,.ref 1 0),(3,.ref 2 0)],60,[V2 x1 x2 x3 x4,V4 0 0 [],V13 1 r7.at_ [] (List.length ([]:List Word)) (List.length ([]:List Redir)),.row 49 5 (List.map Word.pv ([]:List Word)) true,.row 51 9 (List.map Redir.pv ([]:List Redir)) true]⟩,(Weak.trans (Weak.ownC (σ:=⟨sl [(0,.ref 0 0),(2,.ref 1 0),(3,.ref 2 0)],60,[V2 x1 x2 x3 x4,V4 0 0 [],V4 1 r7.at_ []]⟩) 2 3 49 5 (by decide) (cs:=[ai 1,ai r7.at_,as_ [],.nils,.nils,.nils]) rfl rfl) (Weak.trans (Weak.slots (L:=[(0,.ref 0 0),(2,.ref 1 0),(3,.ref 2 0)]) ⟨rfl,rfl,rfl,trivial⟩) (Weak.trans (Weak.ownC (σ:=⟨sl [(0,.ref 0 0),(2,.ref 1 0),(3,.ref 2 0)],60,[V2 x1 x2 x3 x4,V4 0 0 [],V12 1 r7.at_ [] (List.length ([]:List Word)),.row 49 5 (List.map Word.pv ([]:List Word)) true]⟩) 2 4 51 9 (by decide) (cs:=[ai 1,ai r7.at_,as_ [],.vec 3 (List.length ([]:List Word)),.nils,.nils]) rfl rfl) (Weak.slots (L:=[(0,.ref 0 0),(2,.ref 1 0),(3,.ref 2 0)]) ⟨rfl,rfl,rfl,trivial⟩)))),?_⟩
 refine block ?_
 refine lp (α:=Nat×Int×(List Word)×(List Redir)) (fun(_,x11,l12,l13)=>⟨sl [(0,.ref 0 0),(2,.ref 1 0),(3,.ref 2 0)],60,[V2 x1 x2 x3 x11,V4 0 0 [],V13 1 r7.at_ [] l12.length l13.length,rWo l12,rRe l13]⟩) (fun x=>iter (F231_b1 x1 x2 x3 w252 r7) x.1 x.2=some r) (fun x=>x.1) (BIG,(x4,([]:List Word),([]:List Redir))) (Weak.slots kp) h ?_
 clear h
 intro⟨n61,x11,l12,l13⟩ h
 replace h:=iter_some h;obtain⟨m16,rfl,h⟩:=h
 rw[F231_b1]at h
 try dsimp only at h
 refine AW.st ?_
 refine block ?_
 refine seq ?_
 obtain⟨r17,q18,h⟩:=obs h
 have f19:=(hk 0 84 rfl).ret (0,x1,x2,x3,x11) q18 rfl rfl
 have e20:=ecall0 f19 rfl rfl rfl rfl
 refine rg hS [0,2,3,4] (di1 (ap0 84 hpf e20)) ?_
 refine block ?_
 refine seq ?_
 obtain⟨r21,q22,h⟩:=obs h
 replace q22:=guardO_t q22
 have f23:=fun hg=>(hk 1 83 rfl).ret r17 (q22 hg) rfl rfl
 refine reg hS [(0,.ref 0 0),(2,.ref 1 0),(3,.ref 2 0),(4,.ref 5 0),(12,ab ((((decide ((l12.length:Int)=0)&&decide (0<(l13.length:Int)))&&!decide (r21=[]))&&!decide (r21=[110,111,116]))&&!decide (r21=[105,110])))] [V2 x1 x2 x3 x11,V4 0 0 [],V13 1 r7.at_ [] l12.length l13.length,rWo l12,rRe l13,V1 r17] ?_ ?_
 ·clear h hk hS hX c
  exact dh1 (ap1 83 hpf f23)
 refine ifs h (fun hb24 h=>?_) fun hb24 h=>?_
 ·rcases bindX_some h with⟨n27,q25,rfl⟩|⟨_,q25,h⟩
  ·have f28:=(hk 2 48 rfl).boom (x1,x2,x3,x11) q25 rfl rfl
   have e29:=xcall0 f28 rfl rfl
   apply regS hS hX 1 rfl
   ·exact dp1 e29
   exact boomR rfl rfl rfl
  have f26:=(hk 2 48 rfl).ret (x1,x2,x3,x11) q25 rfl rfl
  have e30:=ecall0 f26 rfl rfl rfl rfl
  refine rg hS [0,2,3] (di1 (ap0 48 hpf e30)) ?_
  exact⟨(m16,(x11,l12,l13)),h,(Weak.norm (m:=5) (Nat.le_of_ble_eq_true rfl) kp hq rfl rfl),Nat.lt_succ_self _⟩
 ·refine seq ?_
  obtain⟨r31,q32,h⟩:=obs h
  have f33:=(hk 3 129 rfl).ret r17 q32 rfl rfl
  refine rg hS [0,2,3,4,40] (di1 (ap1 129 hpf f33)) ?_
  refine ifs h (fun hb34 h=>?_) fun hb34 h=>?_
  ·rcases bindX_some h with⟨n39,q37,rfl⟩|⟨⟨r35,r36⟩,q37,h⟩
   ·have f40:=(hk 4 252 rfl).boom (x1,x2,x3,x11) q37 rfl rfl
    have e41:=xcall0 f40 rfl rfl
    refine dregS mixed hS hX 3 [0,1,2] [.ref 2 3,.vec 3 (List.length l12),.ref 0 0,.any,.any,.any,.any,.any] [(43,.ref 2 3),(44,.vec 3 (List.length l12)),(45,.ref 0 0),(46,.any),(47,.any),(48,.any),(49,.any),(0,.ref 0 0),(2,.ref 1 0),(3,.ref 2 0),(4,.ref 5 0),(40,ab r31)] rfl (by kernel_rfl) rfl (H':=[.gone,V4 0 0 [],V13 1 r7.at_ [] l12.length l13.length,rWo l12,rRe l13,V1 r17]) ?_ ?_ (boomR rfl rfl rfl)
    ·repeat'(first|exact Facts.nil|refine Facts.cons rfl rfl rfl ?_ ?_)
     all_goals exact dv
    ·exact Stops.call rfl rfl (by simp -implicitDefEqProofs only[RUNS,qindex,Nat.reduceAdd,Nat.reduceLeDiff,Nat.reduceSub,reduceIte,Nat.reduceEqDiff,Nat.reduceLT,reduceCtorEq,Nat.reduceMul,Nat.reduceBEq,Int.reduceEq,Int.reduceToNat,Int.toNat_zero,Nat.sub_zero,if_true,if_false,eq_self,ne_eq,TYS,e41]<;>rfl)
   dsimp only at h
   have f38:=(hk 4 252 rfl).ret (x1,x2,x3,x11) q37 rfl rfl
   have e42:=ecall0 f38 rfl rfl rfl rfl
   obtain⟨out43,q44,h⟩:=obs h
   have f45:=appO_f q44
   try simp only[LNS,List.length_replicate,Nat.reduceAdd,Nat.reduceLeDiff,Nat.add_zero,Nat.reduceMul]at f45
   have f45m:=appO_m Word.pv q44
   try simp only[PVE,List.nil_append]at f45m
   have f45n:=appO_n q44
   try simp only[LNS]at f45n
   refine dregV mixed hS [3,5,7] [(0,0),(0,1),(1,0),(1,1),(2,0),(3,0),(4,1),(5,1),(6,2),(7,2)] [.ref 2 3,.vec 3 (List.length l12),.ref 0 0,.pv (V10 r35),.full [V10 r35],.vec 3 (List.length out43),.ref 2 3,.any] [[V2 x1 x2 x3 x11,V4 0 0 [],V13 1 r7.at_ [] l12.length l13.length,rWo l12,rRe l13,V1 r17],[V2 x1 x2 x3 r36,V4 0 0 [],V13 1 r7.at_ [] l12.length l13.length,rWo l12,rRe l13,V1 r17],[V2 x1 x2 x3 r36,V4 0 0 [],V13 1 r7.at_ [] l12.length l13.length,rWo out43,rRe l13,V1 r17],[V2 x1 x2 x3 r36,V4 0 0 [],V13 1 r7.at_ [] out43.length l13.length,rWo out43,rRe l13,V1 r17]] [(43,.ref 2 3),(44,.vec 3 (List.length l12)),(45,.ref 0 0),(46,.pv (V10 r35)),(47,.full [V10 r35]),(48,.vec 3 (List.length out43)),(49,.ref 2 3),(0,.ref 0 0),(2,.ref 1 0),(3,.ref 2 0),(4,.ref 5 0),(40,ab r31)] (by kernel_rfl) (by kernel_rfl) (by kernel_rfl) ?_ [(0,.ref 0 0),(2,.ref 1 0),(3,.ref 2 0)] [V2 x1 x2 x3 r36,V4 0 0 [],V13 1 r7.at_ [] out43.length l13.length,rWo out43,rRe l13,V1 r17] ⟨rfl,rfl,rfl,trivial⟩ rfl ?_
   ·repeat'(first|exact Facts.nil|refine Facts.cons rfl rfl rfl ?_ ?_)
    all_goals exact dv1 (an pf_252 (an e42 (an f45.1 (an f45m f45n))))
   clear f45
   clear f45m
   clear f45n
   exact⟨(m16,(r36,out43,l13)),h,(Weak.norm (m:=5) (Nat.le_of_ble_eq_true rfl) kp hq rfl rfl),Nat.lt_succ_self _⟩
  ·refine seq ?_
   obtain⟨r46,q47,h⟩:=obs h
   have f48:=(hk 5 130 rfl).ret r17 q47 rfl rfl
   refine rg hS [0,2,3,50] (di1 (ap1 130 hpf f48)) ?_
   refine ifs h (fun hb49 h=>?_) fun hb49 h=>?_
   ·rcases bindX_some h with⟨n54,q52,rfl⟩|⟨⟨r50,x51⟩,q52,h⟩
    ·have f55:=(hk 6 254 rfl).boom (x1,x2,x3,x11) q52 rfl rfl
     have e56:=xcall0 f55 rfl rfl
     refine dregS mixed hS hX 3 [0,1,2] [.ref 2 4,.vec 4 (List.length l13),.ref 0 0,.any,.any,.any,.any,.any] [(53,.ref 2 4),(54,.vec 4 (List.length l13)),(55,.ref 0 0),(56,.any),(57,.any),(58,.any),(59,.any),(0,.ref 0 0),(2,.ref 1 0),(3,.ref 2 0),(50,ab r46)] rfl (by kernel_rfl) rfl (H':=[.gone,V4 0 0 [],V13 1 r7.at_ [] l12.length l13.length,rWo l12,rRe l13,V1 r17]) ?_ ?_ (boomR rfl rfl rfl)
     ·repeat'(first|exact Facts.nil|refine Facts.cons rfl rfl rfl ?_ ?_)
      all_goals exact dv
     ·exact Stops.call rfl rfl (by simp -implicitDefEqProofs only[RUNS,qindex,Nat.reduceAdd,Nat.reduceLeDiff,Nat.reduceSub,reduceIte,Nat.reduceEqDiff,Nat.reduceLT,reduceCtorEq,Nat.reduceMul,Nat.reduceBEq,Int.reduceEq,Int.reduceToNat,Int.toNat_zero,Nat.sub_zero,if_true,if_false,eq_self,ne_eq,TYS,e56]<;>rfl)
    dsimp only at h
    have f53:=(hk 6 254 rfl).ret (x1,x2,x3,x11) q52 rfl rfl
    have e57:=ecall0 f53 rfl rfl rfl rfl
    obtain⟨out58,q59,h⟩:=obs h
    have f60:=appO_f q59
    try simp only[LNS,List.length_replicate,Nat.reduceAdd,Nat.reduceLeDiff,Nat.add_zero,Nat.reduceMul]at f60
    have f60m:=appO_m Redir.pv q59
    try simp only[PVE,List.nil_append]at f60m
    have f60n:=appO_n q59
    try simp only[LNS]at f60n
    refine dregV mixed hS [3,5,7] [(0,0),(0,1),(1,0),(1,1),(2,0),(3,0),(4,1),(5,1),(6,2),(7,2)] [.ref 2 4,.vec 4 (List.length l13),.ref 0 0,.pv (V11 r50),.full [V11 r50],.vec 4 (List.length out58),.ref 2 4,.any] [[V2 x1 x2 x3 x11,V4 0 0 [],V13 1 r7.at_ [] l12.length l13.length,rWo l12,rRe l13,V1 r17],[V2 x1 x2 x3 x51,V4 0 0 [],V13 1 r7.at_ [] l12.length l13.length,rWo l12,rRe l13,V1 r17],[V2 x1 x2 x3 x51,V4 0 0 [],V13 1 r7.at_ [] l12.length l13.length,rWo l12,rRe out58,V1 r17],[V2 x1 x2 x3 x51,V4 0 0 [],V13 1 r7.at_ [] l12.length out58.length,rWo l12,rRe out58,V1 r17]] [(53,.ref 2 4),(54,.vec 4 (List.length l13)),(55,.ref 0 0),(56,.pv (V11 r50)),(57,.full [V11 r50]),(58,.vec 4 (List.length out58)),(59,.ref 2 4),(0,.ref 0 0),(2,.ref 1 0),(3,.ref 2 0),(50,ab r46)] (by kernel_rfl) (by kernel_rfl) (by kernel_rfl) ?_ [(0,.ref 0 0),(2,.ref 1 0),(3,.ref 2 0)] [V2 x1 x2 x3 x51,V4 0 0 [],V13 1 r7.at_ [] l12.length out58.length,rWo l12,rRe out58,V1 r17] ⟨rfl,rfl,rfl,trivial⟩ rfl ?_
    ·repeat'(first|exact Facts.nil|refine Facts.cons rfl rfl rfl ?_ ?_)
     all_goals exact dv1 (an pf_254 (an e57 (an f60.1 (an f60m f60n))))
    clear f60
    clear f60m
    clear f60n
    exact⟨(m16,(x51,l12,out58)),h,(Weak.norm (m:=5) (Nat.le_of_ble_eq_true rfl) kp hq rfl rfl),Nat.lt_succ_self _⟩
   ·refine srg hS [2] di ?_
    cases h;exact ret fin
end Go.Abs.U48
