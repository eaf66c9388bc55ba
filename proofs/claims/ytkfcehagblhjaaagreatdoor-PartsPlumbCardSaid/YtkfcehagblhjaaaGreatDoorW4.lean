import Derived.Test.YtkfcehagblhjaaaGreatDoorD1
set_option linter.unusedVariables false
set_option linter.unusedSimpArgs false
set_option linter.defProp false
set_option maxRecDepth 8000
namespace Go.Abs.U54
open Go.RowKit Go.Proofs
set_option maxHeartbeats 4000000 in
theorem g_F198(c:AllG env []):GoodH env (S198 F198):=by
 obtain⟨O,X,hS,hX,hpf,hk⟩:=orcs (pf:=pfn) c
 refine GH (fn:=Tryz.f198) fn_198 rfl rfl 15 rfl [] rfl ?_
 rintro(⟨n1,lo2,hi3⟩:Int×Int×Int) (r:Int) h m em
 refine GHs rfl rfl em rfl rfl rfl ?_
 clear em m
 replace h:F198 n1 lo2 hi3=some r:=h
 rw[F198]at h
 refine AW.seq ?_
 apply AW.rg hS [0,1,2]
 ·exact di
 refine AW.seq ?_
 refine AW.seq ?_
 refine AW.reg hS [(14,.pv (.bool (decide (n1<lo2)||decide (hi3<n1))))] [] ?_ ?_
 ·clear h hk hpf hS hX c
  exact dh
 refine AW.iff_ h rfl rfl (fun hb5 h=>?_) (fun hb5 h=>?_)
 ·cases h
 refine AW.skip ?_
 refine AW.seq ?_
 apply AW.rg hS [6]
 ·exact di
 refine AW.ret ?_
 cases h
 exact fin
set_option maxHeartbeats 4000000 in
theorem g_F200(c:AllG env [(S198 F198)]):GoodH env (S200 F200):=by
 obtain⟨O,X,hS,hX,hpf,hk⟩:=orcs (pf:=pfn) c
 have pf_198:O.pf 198=true:=pft hpf 198 rfl
 refine GH (fn:=Tryz.f200) fn_200 rfl rfl 5 rfl [] rfl ?_
 rintro(n1:Int) (r:Int) h m em
 refine GHs rfl rfl em rfl rfl rfl ?_
 clear em m
 replace h:F200 n1=some r:=h
 rw[F200]at h
 refine AW.seq ?_
 apply AW.rg hS [0]
 ·exact di
 refine AW.seq ?_
 replace h:=obs h;obtain⟨r3,q4,h⟩:=h
 have f5:=(hk 0 198 rfl).ret (n1,0,4294967294) q4 rfl rfl
 try dsimp only at f5
 apply AW.rg hS [2]
 ·exact di1 (an pf_198 f5)
 refine AW.ret ?_
 cases h
 exact fin
set_option maxHeartbeats 4000000 in
theorem g_F127(c:AllG env [(S200 F200)]):GoodH env (S127 F127):=by
 obtain⟨O,X,hS,hX,hpf,hk⟩:=orcs (pf:=pfn) c
 have pf_200:O.pf 200=true:=pft hpf 200 rfl
 refine GH (fn:=Tryz.f127) fn_127 rfl rfl 170 rfl [] rfl ?_
 rintro(m1:Msg) (r:Int) h m em
 refine GHs rfl rfl em rfl rfl rfl ?_
 clear em m
 replace h:F127 m1=some r:=h
 rw[F127]at h
 refine AW.seq ?_
 apply AW.rg hS [1]
 ·exact di
 refine AW.seq ?_
 refine AW.seq ?_
 apply AW.rg hS [1,4]
 ·exact di
 refine AW.block ?_
 refine AW.seq ?_
 refine AW.seq ?_
 apply AW.rg hS [1,4,5]
 ·exact di
 refine AW.iff_ h rfl rfl (fun hb3 h=>?_) (fun hb3 h=>?_)
 ·cases h
 apply AW.rg hS [1,4,5]
 ·exact di
 refine AW.iff_ h rfl rfl (fun hb4 h=>?_) (fun hb4 h=>?_)
 ·cases h
 refine AW.seq ?_
 apply AW.rg hS [1,4,19]
 ·exact di
 refine AW.iff_ h rfl rfl (fun hb5 h=>?_) (fun hb5 h=>?_)
 ·cases h
 refine AW.seq ?_
 apply AW.rg hS [1,4,32]
 ·exact di
 refine AW.iff_ h rfl rfl (fun hb6 h=>?_) (fun hb6 h=>?_)
 ·cases h
 refine AW.seq ?_
 refine AW.seq ?_
 apply AW.rg hS [1,4,48]
 ·exact di
 refine AW.iff_ h rfl rfl (fun hb7 h=>?_) (fun hb7 h=>?_)
 ·cases h
 refine AW.seq ?_
 apply AW.rg hS [1,4,48]
 ·exact di
 refine AW.iff_ h rfl rfl (fun hb8 h=>?_) (fun hb8 h=>?_)
 ·cases h
 refine AW.seq ?_
 apply AW.rg hS [1,4,48]
 ·exact di
 refine AW.iff_ h rfl rfl (fun hb9 h=>?_) (fun hb9 h=>?_)
 ·cases h
 apply AW.rg hS [1,4,48]
 ·exact di
 refine AW.iff_ h rfl rfl (fun hb10 h=>?_) (fun hb10 h=>?_)
 ·cases h
 refine AW.seq ?_
 apply AW.rg hS [1,4,61]
 ·exact di
 refine AW.iff_ h rfl rfl (fun hb11 h=>?_) (fun hb11 h=>?_)
 ·cases h
 refine AW.seq ?_
 apply AW.rg hS [1,4,66]
 ·exact di
 refine AW.iff_ h rfl rfl (fun hb12 h=>?_) (fun hb12 h=>?_)
 ·cases h
 refine AW.seq ?_
 apply AW.rg hS [1,4,71]
 ·exact di
 refine AW.iff_ h rfl rfl (fun hb13 h=>?_) (fun hb13 h=>?_)
 ·cases h
 refine AW.seq ?_
 apply AW.rg hS [1,4,84]
 ·exact di
 refine AW.iff_ h rfl rfl (fun hb14 h=>?_) (fun hb14 h=>?_)
 ·cases h
 refine AW.seq ?_
 apply AW.rg hS [1,4,89]
 ·exact di
 refine AW.iff_ h rfl rfl (fun hb15 h=>?_) (fun hb15 h=>?_)
 ·cases h
 refine AW.seq ?_
 apply AW.rg hS [1,4,99]
 ·exact di
 refine AW.iff_ h rfl rfl (fun hb16 h=>?_) (fun hb16 h=>?_)
 ·cases h
 refine AW.seq ?_
 refine AW.seq ?_
 apply AW.rg hS [1,4,115]
 ·exact di
 refine AW.iff_ h rfl rfl (fun hb17 h=>?_) (fun hb17 h=>?_)
 ·cases h
 refine AW.seq ?_
 apply AW.rg hS [1,4,115]
 ·exact di
 refine AW.iff_ h rfl rfl (fun hb18 h=>?_) (fun hb18 h=>?_)
 ·cases h
 refine AW.seq ?_
 apply AW.rg hS [1,4,115]
 ·exact di
 refine AW.iff_ h rfl rfl (fun hb19 h=>?_) (fun hb19 h=>?_)
 ·cases h
 apply AW.rg hS [1,4,115]
 ·exact di
 refine AW.iff_ h rfl rfl (fun hb20 h=>?_) (fun hb20 h=>?_)
 ·cases h
 refine AW.seq ?_
 refine AW.seq ?_
 apply AW.rg hS [1,4,134]
 ·exact di
 refine AW.iff_ h rfl rfl (fun hb21 h=>?_) (fun hb21 h=>?_)
 ·cases h
 apply AW.rg hS [1,4,134]
 ·exact di
 refine AW.iff_ h rfl rfl (fun hb22 h=>?_) (fun hb22 h=>?_)
 ·cases h
 refine AW.seq ?_
 refine AW.seq ?_
 apply AW.rg hS [1,4,145]
 ·exact di
 refine AW.iff_ h rfl rfl (fun hb23 h=>?_) (fun hb23 h=>?_)
 ·cases h
 apply AW.rg hS [1,4,145]
 ·exact di
 refine AW.iff_ h rfl rfl (fun hb24 h=>?_) (fun hb24 h=>?_)
 ·cases h
 refine AW.seq ?_
 apply AW.rg hS [1,162]
 ·exact di
 refine AW.iff_ h rfl rfl (fun hb25 h=>?_) (fun hb25 h=>?_)
 ·cases h
 refine AW.skip ?_
 refine AW.seq ?_
 replace h:=obs h;obtain⟨r26,q27,h⟩:=h
 have f28:=(hk 0 200 rfl).ret m1.fid_ q27 rfl rfl
 try dsimp only at f28
 apply AW.rg hS [2]
 ·exact di1 (an pf_200 f28)
 refine AW.ret ?_
 cases h
 exact fin
set_option maxHeartbeats 4000000 in
theorem g_F58(c:AllG env [(S57 F57),(S124 F124),(S126 F126),(S125 F125),(S127 F127)]):GoodH env (S58 F58):=by
 obtain⟨O,X,hS,hX,hpf,hk⟩:=orcs (pf:=pfn) c
 have pf_57:O.pf 57=true:=pft hpf 57 rfl
 have pf_124:O.pf 124=true:=pft hpf 124 rfl
 have pf_125:O.pf 125=true:=pft hpf 125 rfl
 have pf_126:O.pf 126=true:=pft hpf 126 rfl
 have pf_127:O.pf 127=true:=pft hpf 127 rfl
 refine GH (fn:=Tryz.f58) fn_58 rfl rfl 20 rfl [] rfl ?_
 rintro(m1:Msg) (r:Int) h m em
 refine GHs rfl rfl em rfl rfl rfl ?_
 clear em m
 replace h:F58 m1=some r:=h
 rw[F58]at h
 refine AW.seq ?_
 apply AW.rg hS [1]
 ·exact di
 refine AW.seq ?_
 refine AW.block ?_
 refine AW.seq ?_
 replace h:=obs h;obtain⟨r3,q4,h⟩:=h
 have f5:=(hk 0 57 rfl).ret m1.kind_ q4 rfl rfl
 try dsimp only at f5
 apply AW.rg hS [1,3]
 ·exact di1 (an pf_57 f5)
 refine AW.iff_ h rfl rfl (fun hb6 h=>?_) (fun hb6 h=>?_)
 ·cases h
 refine AW.seq ?_
 replace h:=obs h;obtain⟨r7,q8,h⟩:=h
 have f9:=(hk 1 124 rfl).ret m1 q8 rfl rfl
 try dsimp only at f9
 apply AW.rg hS [1,8]
 ·exact di1 (an pf_124 f9)
 refine AW.iff_ h rfl rfl (fun hb10 h=>?_) (fun hb10 h=>?_)
 ·cases h
 refine AW.seq ?_
 replace h:=obs h;obtain⟨r11,q12,h⟩:=h
 have f13:=(hk 2 126 rfl).ret m1 q12 rfl rfl
 try dsimp only at f13
 replace h:=obs h;obtain⟨r14,q15,h⟩:=h
 have f16:=(hk 3 125 rfl).ret (r11,m1) q15 rfl rfl
 try dsimp only at f16
 apply AW.dgk mixed hS [1,12] (ordp hpf (by kernel_rfl))
 ·exact di1 (an pf_126 (an f13 (an pf_125 f16)))
 refine AW.iff_ h rfl rfl (fun hb17 h=>?_) (fun hb17 h=>?_)
 ·cases h
 refine AW.skip ?_
 refine AW.seq ?_
 replace h:=obs h;obtain⟨r18,q19,h⟩:=h
 have f20:=(hk 4 127 rfl).ret m1 q19 rfl rfl
 try dsimp only at f20
 apply AW.rg hS [2]
 ·exact di1 (an pf_127 f20)
 refine AW.ret ?_
 cases h
 exact fin
set_option maxHeartbeats 4000000 in
theorem g_F188(c:AllG env []):GoodH env (S188 F188):=by
 obtain⟨O,X,hS,hX,hpf,hk⟩:=orcs (pf:=pfn) c
 refine GH (fn:=Tryz.f188) fn_188 rfl rfl 45 rfl [] rfl ?_
 rintro(⟨n1,width2⟩:Int×Int) (r:Str×Int) h m em
 refine GHs rfl rfl em rfl rfl rfl ?_
 clear em m
 replace h:F188 n1 width2=some r:=h
 rw[F188]at h
 refine AW.seq ?_
 apply AW.rg hS [0,1]
 ·exact di
 refine AW.seq ?_
 refine AW.seq ?_
 refine AW.reg hS [(0,.pv (.int .i64 n1)),(1,.pv (.int .i64 width2)),(13,.pv (.bool (decide (width2<1)||decide (8<width2))))] [] ?_ ?_
 ·clear h hk hpf hS hX c
  exact dh
 refine AW.iff_ h rfl rfl (fun hb5 h=>?_) (fun hb5 h=>?_)
 ·cases h
 refine AW.skip ?_
 refine AW.seq ?_
 refine AW.seq ?_
 replace h:=obs h;obtain⟨n6,q7,h⟩:=h
 have f8:=shrO_g (guardO_t q7)
 refine AW.reg hS [(0,.pv (.int .i64 n1)),(1,.pv (.int .i64 width2)),(26,.pv (.bool (decide (n1<0)||(decide (width2<8)&&decide (0<n6)))))] [] ?_ ?_
 ·clear h hk hpf hS hX c
  exact dh1 (an f8.1 f8.2)
 refine AW.iff_ h rfl rfl (fun hb9 h=>?_) (fun hb9 h=>?_)
 ·cases h
 refine AW.skip ?_
 refine AW.seq ?_
 replace h:=obs h;obtain⟨u10,q11,h⟩:=h
 have f12:=mkO_f q11
 have f12m:=emakeSlice_int (H:=[]) (k1:=.i64) (k2:=.i64) T_139 T_5 (of_eq_true f12.1) (of_eq_true f12.2) (by decide)
 refine AW.reg hS [(0,.pv (.int .i64 n1)),(6,.vec 0 (List.length (List.replicate (Int.toNat width2) (0:Int))))] [.row 5 1 (List.map (PV.int .u8) (List.replicate (Int.toNat width2) (0:Int))) false] ?_ ?_
 ·simp -implicitDefEqProofs only[RUNS,qindex,Nat.reduceAdd,Nat.reduceLeDiff,Nat.reduceSub,reduceIte,Nat.reduceEqDiff,Nat.reduceLT,reduceCtorEq,Nat.reduceMul,Nat.reduceBEq,Int.reduceEq,Int.reduceToNat,Int.toNat_zero,Nat.sub_zero,if_true,if_false,eq_self,ne_eq,TYS,f12m,List.length_replicate,List.map_replicate]<;>(try simp only[List.length_take,List.length_drop,List.length_map])
 refine AW.seq ?_
 refine AW.seq ?_
 apply AW.rg hS [0,6,30,31]
 ·exact di
 refine AW.block ?_
 refine AW.lp (α:=Nat×Int×(List Int)) (fun(_,i13,l14)=>⟨sl [(0,.pv (.int .i64 n1)),(6,.vec 0 (List.length l14)),(30,.pv (.int .i64 ((List.replicate (Int.toNat width2) (0:Int)).length:Int))),(31,.pv (.int .i64 i13))],45,[.row 5 1 (List.map (PV.int .u8) l14) false]⟩) (fun x=>iter (F188_b1 width2 n1) x.1 x.2=some r) (fun x=>x.1) (BIG,(0,List.replicate (Int.toNat width2) (0:Int))) (Weak.slots kp) h ?_
 clear h
 intro⟨n28,i13,l14⟩ h
 replace h:=iter_some h;obtain⟨m17,rfl,h⟩:=h
 rw[F188_b1]at h
 try dsimp only at h
 refine AW.st ?_
 refine AW.seq ?_
 apply AW.rg hS [0,6,30,31,32]
 ·exact di
 refine AW.seq ?_
 refine AW.iff_ h rfl rfl (fun hb18 h=>?_) (fun hb18 h=>?_)
 ·refine AW.skip ?_
  refine AW.seq ?_
  refine AW.block ?_
  refine AW.seq ?_
  apply AW.rg hS [0,6,7,30,31]
  ·exact di
  replace h:=obs h;obtain⟨n19,q20,h⟩:=h
  have f21:=shrO_f q20
  replace h:=obs h;obtain⟨n22,q23,h⟩:=h
  have f24:=lidx_f q23
  refine AW.reg hS [(0,.pv (.int .i64 n1)),(6,.vec 0 (List.length (List.set l14 (Int.toNat i13) (IntKind.wrap .u8 n19)))),(30,.pv (.int .i64 ((List.replicate (Int.toNat width2) (0:Int)).length:Int))),(31,.pv (.int .i64 i13))] [.row 5 1 (List.map (PV.int .u8) (List.set l14 (Int.toNat i13) (IntKind.wrap .u8 n19))) false] ?_ ?_
  ·simp -implicitDefEqProofs only[RUNS,qindex,Nat.reduceAdd,Nat.reduceLeDiff,Nat.reduceSub,reduceIte,Nat.reduceEqDiff,Nat.reduceLT,reduceCtorEq,Nat.reduceMul,Nat.reduceBEq,Int.reduceEq,Int.reduceToNat,Int.toNat_zero,Nat.sub_zero,if_true,if_false,eq_self,ne_eq,TYS,f21.1,f21.2,f24.1,f24.2.1,f24.2.2,qconv_ii T_3 T_5]<;>(try simp only[List.length_take,List.length_drop,List.length_map])
  apply AW.rg hS [0,6,30,31]
  ·exact di
  exact⟨(m17,(IntKind.wrap .i64 (i13+1),List.set l14 (Int.toNat i13) (IntKind.wrap .u8 n19))),h,(Weak.norm (m:=1) (Nat.le_of_ble_eq_true rfl) kp hq rfl rfl),Nat.lt_succ_self _⟩
 refine AW.exit ?_
 refine AW.seq ?_
 replace h:=obs h;obtain⟨s25,q26,h⟩:=h
 have f27:=bytesO_f q26
 apply AW.rg hS [4,5]
 ·simp -implicitDefEqProofs only[RUNS,qindex,Nat.reduceAdd,Nat.reduceLeDiff,Nat.reduceSub,reduceIte,Nat.reduceEqDiff,Nat.reduceLT,reduceCtorEq,Nat.reduceMul,Nat.reduceBEq,Int.reduceEq,Int.reduceToNat,Int.toNat_zero,Nat.sub_zero,if_true,if_false,eq_self,ne_eq,pick_nil,pick_cons,leavesK_some,TYS,Nat.sub_zero,List.drop_zero,List.map_take,List.map_drop,List.length_map,Int.toNat_natCast,Int.toNat_zero,f27,qconv2.eq_1,qbytes.eq_1,isU8.eq_1,Option.map_some];exact⟨rfl,rfl⟩
 refine AW.ret ?_
 cases h
 exact fin
set_option maxHeartbeats 4000000 in
theorem g_F249(c:AllG env []):GoodH env (S249 F249):=by
 obtain⟨O,X,hS,hX,hpf,hk⟩:=orcs (pf:=pfn) c
 refine GH (fn:=Tryz.f249) fn_249 rfl rfl 23 rfl [] rfl ?_
 rintro(⟨s1,e2,x3,x4⟩:Str×Int×Str×Int) (r:Str×Int) h m em
 refine GHs rfl rfl em rfl rfl rfl ?_
 clear em m
 replace h:F249 s1 e2 x3 x4=some r:=h
 rw[F249]at h
 refine AW.seq ?_
 apply AW.rg hS [0,1,2,10]
 ·exact di
 refine AW.iff_ h rfl rfl (fun hb7 h=>?_) (fun hb7 h=>?_)
 ·refine AW.seq ?_
  apply AW.rg hS [0,1]
  ·exact di
  replace h:=obs h;obtain⟨s8,q9,h⟩:=h
  have f10:=catO_f q9
  try simp only[List.length_cons,List.length_nil,List.length_replicate,Nat.zero_add,Nat.reduceAdd,Nat.reduceLeDiff,Nat.add_zero,Nat.reduceMul]at f10
  apply AW.rg hS []
  ·exact di1 (an f10.1 f10.2)
  cases h
  exact fin
 cases h
set_option maxHeartbeats 4000000 in
theorem g_F186(c:AllG env [(S188 F188),(S249 F249)]):GoodH env (S186 F186):=by
 obtain⟨O,X,hS,hX,hpf,hk⟩:=orcs (pf:=pfn) c
 have pf_188:O.pf 188=true:=pft hpf 188 rfl
 have pf_249:O.pf 249=false:=pft hpf 249 rfl
 refine GH (fn:=Tryz.f186) fn_186 rfl rfl 13 rfl [] rfl ?_
 rintro(⟨n1,width2,x3,x4⟩:Int×Int×Str×Int) (r:Str×Int) h m em
 refine GHs rfl rfl em rfl rfl rfl ?_
 clear em m
 replace h:F186 n1 width2 x3 x4=some r:=h
 rw[F186]at h
 replace h:=obs h;obtain⟨⟨r7,r8⟩,q9,h⟩:=h
 dsimp only at h
 have f10:=(hk 0 188 rfl).ret (n1,width2) q9 rfl rfl
 try dsimp only at f10
 replace h:=obs h;obtain⟨⟨x11,x12⟩,q13,h⟩:=h
 dsimp only at h
 have f14:=(hk 1 249 rfl).ret (r7,r8,x3,x4) q13 rfl rfl
 try dsimp only at f14
 have e15:=ecall0 f14 rfl rfl rfl rfl
 apply AW.rg hS []
 ·exact di1 (an pf_188 (an f10 (an pf_249 e15)))
 cases h
 exact fin
set_option maxHeartbeats 4000000 in
theorem g_F55(c:AllG env []):GoodH env (S55 F55):=by
 obtain⟨O,X,hS,hX,hpf,hk⟩:=orcs (pf:=pfn) c
 refine GH (fn:=Tryz.f55) fn_55 rfl rfl 52 rfl [] rfl ?_
 rintro(kind1:Int) (r:Str) h m em
 refine GHs rfl rfl em rfl rfl rfl ?_
 clear em m
 replace h:F55 kind1=some r:=h
 rw[F55]at h
 refine AW.seq ?_
 apply AW.rg hS [0]
 ·exact di
 refine AW.seq ?_
 refine AW.seq ?_
 apply AW.rg hS [3]
 ·exact di
 refine AW.block ?_
 refine AW.seq ?_
 apply AW.rg hS [3,4]
 ·exact di
 refine AW.iff_ h rfl rfl (fun hb3 h=>?_) (fun hb3 h=>?_)
 ·cases h
 refine AW.seq ?_
 apply AW.rg hS [3,6]
 ·exact di
 refine AW.iff_ h rfl rfl (fun hb4 h=>?_) (fun hb4 h=>?_)
 ·cases h
 refine AW.seq ?_
 apply AW.rg hS [3,8]
 ·exact di
 refine AW.iff_ h rfl rfl (fun hb5 h=>?_) (fun hb5 h=>?_)
 ·cases h
 refine AW.seq ?_
 refine AW.seq ?_
 apply AW.rg hS [3,10]
 ·exact di
 refine AW.iff_ h rfl rfl (fun hb6 h=>?_) (fun hb6 h=>?_)
 ·cases h
 apply AW.rg hS [3,10]
 ·exact di
 refine AW.iff_ h rfl rfl (fun hb7 h=>?_) (fun hb7 h=>?_)
 ·cases h
 refine AW.seq ?_
 apply AW.rg hS [3,13]
 ·exact di
 refine AW.iff_ h rfl rfl (fun hb8 h=>?_) (fun hb8 h=>?_)
 ·cases h
 refine AW.seq ?_
 apply AW.rg hS [3,15]
 ·exact di
 refine AW.iff_ h rfl rfl (fun hb9 h=>?_) (fun hb9 h=>?_)
 ·cases h
 refine AW.seq ?_
 apply AW.rg hS [3,17]
 ·exact di
 refine AW.iff_ h rfl rfl (fun hb10 h=>?_) (fun hb10 h=>?_)
 ·cases h
 refine AW.seq ?_
 apply AW.rg hS [3,19]
 ·exact di
 refine AW.iff_ h rfl rfl (fun hb11 h=>?_) (fun hb11 h=>?_)
 ·cases h
 refine AW.seq ?_
 apply AW.rg hS [3,21]
 ·exact di
 refine AW.iff_ h rfl rfl (fun hb12 h=>?_) (fun hb12 h=>?_)
 ·cases h
 refine AW.seq ?_
 apply AW.rg hS [3,23]
 ·exact di
 refine AW.iff_ h rfl rfl (fun hb13 h=>?_) (fun hb13 h=>?_)
 ·cases h
 refine AW.seq ?_
 refine AW.seq ?_
 apply AW.rg hS [3,25]
 ·exact di
 refine AW.iff_ h rfl rfl (fun hb14 h=>?_) (fun hb14 h=>?_)
 ·cases h
 apply AW.rg hS [3,25]
 ·exact di
 refine AW.iff_ h rfl rfl (fun hb15 h=>?_) (fun hb15 h=>?_)
 ·cases h
 refine AW.seq ?_
 apply AW.rg hS [3,28]
 ·exact di
 refine AW.iff_ h rfl rfl (fun hb16 h=>?_) (fun hb16 h=>?_)
 ·cases h
 refine AW.seq ?_
 apply AW.rg hS [3,30]
 ·exact di
 refine AW.iff_ h rfl rfl (fun hb17 h=>?_) (fun hb17 h=>?_)
 ·cases h
 refine AW.seq ?_
 apply AW.rg hS [3,32]
 ·exact di
 refine AW.iff_ h rfl rfl (fun hb18 h=>?_) (fun hb18 h=>?_)
 ·cases h
 refine AW.seq ?_
 apply AW.rg hS [3,34]
 ·exact di
 refine AW.iff_ h rfl rfl (fun hb19 h=>?_) (fun hb19 h=>?_)
 ·cases h
 refine AW.seq ?_
 apply AW.rg hS [3,36]
 ·exact di
 refine AW.iff_ h rfl rfl (fun hb20 h=>?_) (fun hb20 h=>?_)
 ·cases h
 refine AW.seq ?_
 refine AW.seq ?_
 apply AW.rg hS [38]
 ·exact di
 refine AW.iff_ h rfl rfl (fun hb21 h=>?_) (fun hb21 h=>?_)
 ·refine AW.skip ?_
  refine AW.iff_ h rfl rfl (fun hb22 h=>?_) (fun hb22 h=>?_)
  ·refine AW.seq ?_
   apply AW.rg hS [2]
   ·exact di
   refine AW.ret ?_
   cases h
   exact fin
  cases h
 cases h
set_option maxHeartbeats 4000000 in
theorem g_F187(c:AllG env [(S186 F186)]):GoodH env (S187 F187):=by
 obtain⟨O,X,hS,hX,hpf,hk⟩:=orcs (pf:=pfn) c
 have pf_186:O.pf 186=false:=pft hpf 186 rfl
 refine GH (fn:=Tryz.f187) fn_187 rfl rfl 146 rfl [] rfl ?_
 rintro(⟨m1,letter2,x3,x4⟩:Msg×Int×Str×Int) (r:Str×Int) h m em
 refine GHs rfl rfl em rfl rfl rfl ?_
 clear em m
 replace h:F187 m1 letter2 x3 x4=some r:=h
 rw[F187]at h
 refine AW.seq ?_
 apply AW.rg hS [0,2,4]
 ·exact di
 refine AW.seq ?_
 apply AW.rg hS [0,4,6]
 ·exact di
 refine AW.block ?_
 refine AW.seq ?_
 apply AW.rg hS [0,4,6,7]
 ·exact di
 refine AW.iff_ h rfl rfl (fun hb7 h=>?_) (fun hb7 h=>?_)
 ·cases h
 refine AW.seq ?_
 apply AW.rg hS [0,4,6,13]
 ·exact di
 refine AW.iff_ h rfl rfl (fun hb8 h=>?_) (fun hb8 h=>?_)
 ·cases h
 refine AW.seq ?_
 apply AW.rg hS [0,4,6,19]
 ·exact di
 refine AW.iff_ h rfl rfl (fun hb9 h=>?_) (fun hb9 h=>?_)
 ·cases h
 refine AW.seq ?_
 apply AW.rg hS [0,4,6,25]
 ·exact di
 refine AW.iff_ h rfl rfl (fun hb10 h=>?_) (fun hb10 h=>?_)
 ·cases h
 refine AW.seq ?_
 apply AW.rg hS [0,4,6,31]
 ·exact di
 refine AW.iff_ h rfl rfl (fun hb11 h=>?_) (fun hb11 h=>?_)
 ·cases h
 refine AW.seq ?_
 apply AW.rg hS [0,4,6,37]
 ·exact di
 refine AW.iff_ h rfl rfl (fun hb12 h=>?_) (fun hb12 h=>?_)
 ·cases h
 refine AW.seq ?_
 apply AW.rg hS [0,4,6,43]
 ·exact di
 refine AW.iff_ h rfl rfl (fun hb13 h=>?_) (fun hb13 h=>?_)
 ·cases h
 refine AW.seq ?_
 apply AW.rg hS [0,4,49]
 ·exact di
 refine AW.iff_ h rfl rfl (fun hb14 h=>?_) (fun hb14 h=>?_)
 ·replace h:=obs h;obtain⟨⟨x15,x16⟩,q17,h⟩:=h
  dsimp only at h
  have f18:=(hk 0 186 rfl).ret (m1.fid_,4,x3,x4) q17 rfl rfl
  try dsimp only at f18
  have e19:=ecall0 f18 rfl rfl rfl rfl
  apply AW.rg hS []
  ·exact di1 (an pf_186 e19)
  cases h
  exact fin
 cases h
set_option maxHeartbeats 4000000 in
theorem g_F116(c:AllG env [(S58 F58),(S186 F186),(S55 F55),(S187 F187),(S188 F188)]):GoodH env (S116 F116):=by
 obtain⟨O,X,hS,hX,hpf,hk⟩:=orcs (pf:=pfn) c
 have pf_55:O.pf 55=true:=pft hpf 55 rfl
 have pf_58:O.pf 58=true:=pft hpf 58 rfl
 have pf_186:O.pf 186=false:=pft hpf 186 rfl
 have pf_187:O.pf 187=false:=pft hpf 187 rfl
 have pf_188:O.pf 188=true:=pft hpf 188 rfl
 refine GH (fn:=Tryz.f116) fn_116 rfl rfl 72 rfl [] rfl ?_
 rintro(m1:Msg) (r:Str×Int) h m em
 refine GHs rfl rfl em rfl rfl rfl ?_
 clear em m
 replace h:F116 m1=some r:=h
 rw[F116]at h
 refine AW.seq ?_
 apply AW.rg hS [1]
 ·exact di
 refine AW.seq ?_
 refine AW.seq ?_
 replace h:=obs h;obtain⟨r4,q5,h⟩:=h
 have f6:=(hk 0 58 rfl).ret m1 q5 rfl rfl
 try dsimp only at f6
 apply AW.rg hS [1,4]
 ·exact di1 (an pf_58 f6)
 refine AW.seq ?_
 apply AW.rg hS [1,13]
 ·exact di
 refine AW.iff_ h rfl rfl (fun hb7 h=>?_) (fun hb7 h=>?_)
 ·cases h
 refine AW.skip ?_
 refine AW.seq ?_
 apply AW.rg hS [1,5]
 ·exact di
 refine AW.seq ?_
 replace h:=obs h;obtain⟨⟨x8,x9⟩,q10,h⟩:=h
 dsimp only at h
 have f11:=(hk 1 186 rfl).ret (m1.kind_,1,([]:Str),0) q10 rfl rfl
 try dsimp only at f11
 have e12:ecall O [.var [.pv (.int .i64 m1.kind_),.pv (.int .i64 m1.tag_),.pv (.int .i64 m1.fid_),.pv (.int .i64 m1.newFid_),.pv (.int .i64 m1.authFid_),.pv (.int .i64 m1.oldTag_),.pv (.int .i64 m1.msize_),.pv (.str m1.version_),.pv (.str m1.user_),.pv (.str m1.attach_),.pv (.slice (List.map PV.str m1.names_)),.pv (.slice (List.map Qid.pv m1.qids_)),.pv (.int .i64 m1.qid_.type_),.pv (.int .i64 m1.qid_.vers_),.pv (.int .i64 m1.qid_.path_),.pv (.int .i64 m1.iounit_),.pv (.int .i64 m1.mode_),.pv (.int .i64 m1.perm_),.pv (.str m1.name_),.pv (.int .i64 m1.offset_),.pv (.int .i64 m1.count_),.pv (.str m1.data_),.pv (.int .i64 m1.stat_.type_),.pv (.int .i64 m1.stat_.dev_),.pv (.int .i64 m1.stat_.qid_.type_),.pv (.int .i64 m1.stat_.qid_.vers_),.pv (.int .i64 m1.stat_.qid_.path_),.pv (.int .i64 m1.stat_.mode_),.pv (.int .i64 m1.stat_.atime_),.pv (.int .i64 m1.stat_.mtime_),.pv (.int .i64 m1.stat_.length_),.pv (.str m1.stat_.name_),.pv (.str m1.stat_.uid_),.pv (.str m1.stat_.gid_),.pv (.str m1.stat_.muid_),.pv (.int .i64 m1.err_),.pv (.int .i64 m1.lease_),.pv (.int .i64 m1.term_),.pv (.str m1.session_)],.var [.pv (.str []),.pv (.int .i64 0)]] 186 [.ref 1 0,.pv (.int .i64 m1.kind_),.pv (.int .i64 1)]=some (retAV [],[.var [.pv (.int .i64 m1.kind_),.pv (.int .i64 m1.tag_),.pv (.int .i64 m1.fid_),.pv (.int .i64 m1.newFid_),.pv (.int .i64 m1.authFid_),.pv (.int .i64 m1.oldTag_),.pv (.int .i64 m1.msize_),.pv (.str m1.version_),.pv (.str m1.user_),.pv (.str m1.attach_),.pv (.slice (List.map PV.str m1.names_)),.pv (.slice (List.map Qid.pv m1.qids_)),.pv (.int .i64 m1.qid_.type_),.pv (.int .i64 m1.qid_.vers_),.pv (.int .i64 m1.qid_.path_),.pv (.int .i64 m1.iounit_),.pv (.int .i64 m1.mode_),.pv (.int .i64 m1.perm_),.pv (.str m1.name_),.pv (.int .i64 m1.offset_),.pv (.int .i64 m1.count_),.pv (.str m1.data_),.pv (.int .i64 m1.stat_.type_),.pv (.int .i64 m1.stat_.dev_),.pv (.int .i64 m1.stat_.qid_.type_),.pv (.int .i64 m1.stat_.qid_.vers_),.pv (.int .i64 m1.stat_.qid_.path_),.pv (.int .i64 m1.stat_.mode_),.pv (.int .i64 m1.stat_.atime_),.pv (.int .i64 m1.stat_.mtime_),.pv (.int .i64 m1.stat_.length_),.pv (.str m1.stat_.name_),.pv (.str m1.stat_.uid_),.pv (.str m1.stat_.gid_),.pv (.str m1.stat_.muid_),.pv (.int .i64 m1.err_),.pv (.int .i64 m1.lease_),.pv (.int .i64 m1.term_),.pv (.str m1.session_)],.var [.pv (.str x8),.pv (.int .i64 x9)]]):=ecall_eq rfl rfl rfl f11 rfl rfl rfl
 apply AW.rg hS [1,5]
 ·exact di1 (an pf_186 e12)
 refine AW.seq ?_
 replace h:=obs h;obtain⟨⟨x13,x14⟩,q15,h⟩:=h
 dsimp only at h
 have f16:=(hk 1 186 rfl).ret (m1.tag_,2,x8,x9) q15 rfl rfl
 try dsimp only at f16
 have e17:ecall O [.var [.pv (.int .i64 m1.kind_),.pv (.int .i64 m1.tag_),.pv (.int .i64 m1.fid_),.pv (.int .i64 m1.newFid_),.pv (.int .i64 m1.authFid_),.pv (.int .i64 m1.oldTag_),.pv (.int .i64 m1.msize_),.pv (.str m1.version_),.pv (.str m1.user_),.pv (.str m1.attach_),.pv (.slice (List.map PV.str m1.names_)),.pv (.slice (List.map Qid.pv m1.qids_)),.pv (.int .i64 m1.qid_.type_),.pv (.int .i64 m1.qid_.vers_),.pv (.int .i64 m1.qid_.path_),.pv (.int .i64 m1.iounit_),.pv (.int .i64 m1.mode_),.pv (.int .i64 m1.perm_),.pv (.str m1.name_),.pv (.int .i64 m1.offset_),.pv (.int .i64 m1.count_),.pv (.str m1.data_),.pv (.int .i64 m1.stat_.type_),.pv (.int .i64 m1.stat_.dev_),.pv (.int .i64 m1.stat_.qid_.type_),.pv (.int .i64 m1.stat_.qid_.vers_),.pv (.int .i64 m1.stat_.qid_.path_),.pv (.int .i64 m1.stat_.mode_),.pv (.int .i64 m1.stat_.atime_),.pv (.int .i64 m1.stat_.mtime_),.pv (.int .i64 m1.stat_.length_),.pv (.str m1.stat_.name_),.pv (.str m1.stat_.uid_),.pv (.str m1.stat_.gid_),.pv (.str m1.stat_.muid_),.pv (.int .i64 m1.err_),.pv (.int .i64 m1.lease_),.pv (.int .i64 m1.term_),.pv (.str m1.session_)],.var [.pv (.str x8),.pv (.int .i64 x9)]] 186 [.ref 1 0,.pv (.int .i64 m1.tag_),.pv (.int .i64 2)]=some (retAV [],[.var [.pv (.int .i64 m1.kind_),.pv (.int .i64 m1.tag_),.pv (.int .i64 m1.fid_),.pv (.int .i64 m1.newFid_),.pv (.int .i64 m1.authFid_),.pv (.int .i64 m1.oldTag_),.pv (.int .i64 m1.msize_),.pv (.str m1.version_),.pv (.str m1.user_),.pv (.str m1.attach_),.pv (.slice (List.map PV.str m1.names_)),.pv (.slice (List.map Qid.pv m1.qids_)),.pv (.int .i64 m1.qid_.type_),.pv (.int .i64 m1.qid_.vers_),.pv (.int .i64 m1.qid_.path_),.pv (.int .i64 m1.iounit_),.pv (.int .i64 m1.mode_),.pv (.int .i64 m1.perm_),.pv (.str m1.name_),.pv (.int .i64 m1.offset_),.pv (.int .i64 m1.count_),.pv (.str m1.data_),.pv (.int .i64 m1.stat_.type_),.pv (.int .i64 m1.stat_.dev_),.pv (.int .i64 m1.stat_.qid_.type_),.pv (.int .i64 m1.stat_.qid_.vers_),.pv (.int .i64 m1.stat_.qid_.path_),.pv (.int .i64 m1.stat_.mode_),.pv (.int .i64 m1.stat_.atime_),.pv (.int .i64 m1.stat_.mtime_),.pv (.int .i64 m1.stat_.length_),.pv (.str m1.stat_.name_),.pv (.str m1.stat_.uid_),.pv (.str m1.stat_.gid_),.pv (.str m1.stat_.muid_),.pv (.int .i64 m1.err_),.pv (.int .i64 m1.lease_),.pv (.int .i64 m1.term_),.pv (.str m1.session_)],.var [.pv (.str x13),.pv (.int .i64 x14)]]):=ecall_eq rfl rfl rfl f16 rfl rfl rfl
 apply AW.rg hS [1,5]
 ·exact di1 (an pf_186 e17)
 refine AW.seq ?_
 replace h:=obs h;obtain⟨r18,q19,h⟩:=h
 have f20:=(hk 2 55 rfl).ret m1.kind_ q19 rfl rfl
 try dsimp only at f20
 apply AW.rg hS [1,5,6]
 ·exact di1 (an pf_55 f20)
 refine AW.seq ?_
 refine AW.seq ?_
 apply AW.rg hS [1,5,6,29,30]
 ·exact di
 refine AW.block ?_
 refine AW.lp (α:=Nat×Int×Str×Int) (fun(_,i21,x22,x23)=>⟨sl [(1,.ref 0 0),(5,.ref 1 0),(6,.pv (.str r18)),(29,.pv (.int .i64 (r18.length:Int))),(30,.pv (.int .i64 i21))],72,[.var [.pv (.int .i64 m1.kind_),.pv (.int .i64 m1.tag_),.pv (.int .i64 m1.fid_),.pv (.int .i64 m1.newFid_),.pv (.int .i64 m1.authFid_),.pv (.int .i64 m1.oldTag_),.pv (.int .i64 m1.msize_),.pv (.str m1.version_),.pv (.str m1.user_),.pv (.str m1.attach_),.pv (.slice (List.map PV.str m1.names_)),.pv (.slice (List.map Qid.pv m1.qids_)),.pv (.int .i64 m1.qid_.type_),.pv (.int .i64 m1.qid_.vers_),.pv (.int .i64 m1.qid_.path_),.pv (.int .i64 m1.iounit_),.pv (.int .i64 m1.mode_),.pv (.int .i64 m1.perm_),.pv (.str m1.name_),.pv (.int .i64 m1.offset_),.pv (.int .i64 m1.count_),.pv (.str m1.data_),.pv (.int .i64 m1.stat_.type_),.pv (.int .i64 m1.stat_.dev_),.pv (.int .i64 m1.stat_.qid_.type_),.pv (.int .i64 m1.stat_.qid_.vers_),.pv (.int .i64 m1.stat_.qid_.path_),.pv (.int .i64 m1.stat_.mode_),.pv (.int .i64 m1.stat_.atime_),.pv (.int .i64 m1.stat_.mtime_),.pv (.int .i64 m1.stat_.length_),.pv (.str m1.stat_.name_),.pv (.str m1.stat_.uid_),.pv (.str m1.stat_.gid_),.pv (.str m1.stat_.muid_),.pv (.int .i64 m1.err_),.pv (.int .i64 m1.lease_),.pv (.int .i64 m1.term_),.pv (.str m1.session_)],.var [.pv (.str x22),.pv (.int .i64 x23)]]⟩) (fun x=>iter (F116_b1 r18 m1) x.1 x.2=some r) (fun x=>x.1) (BIG,(0,x13,x14)) (Weak.slots kp) h ?_
 clear h
 intro⟨n45,i21,x22,x23⟩ h
 replace h:=iter_some h;obtain⟨m26,rfl,h⟩:=h
 rw[F116_b1]at h
 try dsimp only at h
 refine AW.st ?_
 refine AW.seq ?_
 apply AW.rg hS [1,5,6,29,30,31]
 ·exact di
 refine AW.seq ?_
 refine AW.iff_ h rfl rfl (fun hb27 h=>?_) (fun hb27 h=>?_)
 ·refine AW.skip ?_
  refine AW.seq ?_
  refine AW.block ?_
  refine AW.seq ?_
  apply AW.rg hS [1,5,6,7,29,30]
  ·exact di
  replace h:=obs h;obtain⟨c28,q29,h⟩:=h
  have f30:=sidx_f q29
  replace h:=obs h;obtain⟨⟨x31,x32⟩,q33,h⟩:=h
  dsimp only at h
  have f34:=(hk 3 187 rfl).ret (m1,c28,x22,x23) q33 rfl rfl
  try dsimp only at f34
  have e35:ecall O [.var [.pv (.int .i64 m1.kind_),.pv (.int .i64 m1.tag_),.pv (.int .i64 m1.fid_),.pv (.int .i64 m1.newFid_),.pv (.int .i64 m1.authFid_),.pv (.int .i64 m1.oldTag_),.pv (.int .i64 m1.msize_),.pv (.str m1.version_),.pv (.str m1.user_),.pv (.str m1.attach_),.pv (.slice (List.map PV.str m1.names_)),.pv (.slice (List.map Qid.pv m1.qids_)),.pv (.int .i64 m1.qid_.type_),.pv (.int .i64 m1.qid_.vers_),.pv (.int .i64 m1.qid_.path_),.pv (.int .i64 m1.iounit_),.pv (.int .i64 m1.mode_),.pv (.int .i64 m1.perm_),.pv (.str m1.name_),.pv (.int .i64 m1.offset_),.pv (.int .i64 m1.count_),.pv (.str m1.data_),.pv (.int .i64 m1.stat_.type_),.pv (.int .i64 m1.stat_.dev_),.pv (.int .i64 m1.stat_.qid_.type_),.pv (.int .i64 m1.stat_.qid_.vers_),.pv (.int .i64 m1.stat_.qid_.path_),.pv (.int .i64 m1.stat_.mode_),.pv (.int .i64 m1.stat_.atime_),.pv (.int .i64 m1.stat_.mtime_),.pv (.int .i64 m1.stat_.length_),.pv (.str m1.stat_.name_),.pv (.str m1.stat_.uid_),.pv (.str m1.stat_.gid_),.pv (.str m1.stat_.muid_),.pv (.int .i64 m1.err_),.pv (.int .i64 m1.lease_),.pv (.int .i64 m1.term_),.pv (.str m1.session_)],.var [.pv (.str x22),.pv (.int .i64 x23)]] 187 [.ref 1 0,.pv (.agg [.int .i64 m1.kind_,.int .i64 m1.tag_,.int .i64 m1.fid_,.int .i64 m1.newFid_,.int .i64 m1.authFid_,.int .i64 m1.oldTag_,.int .i64 m1.msize_,.str m1.version_,.str m1.user_,.str m1.attach_,.slice (List.map PV.str m1.names_),.slice (List.map Qid.pv m1.qids_),.int .i64 m1.qid_.type_,.int .i64 m1.qid_.vers_,.int .i64 m1.qid_.path_,.int .i64 m1.iounit_,.int .i64 m1.mode_,.int .i64 m1.perm_,.str m1.name_,.int .i64 m1.offset_,.int .i64 m1.count_,.str m1.data_,.int .i64 m1.stat_.type_,.int .i64 m1.stat_.dev_,.int .i64 m1.stat_.qid_.type_,.int .i64 m1.stat_.qid_.vers_,.int .i64 m1.stat_.qid_.path_,.int .i64 m1.stat_.mode_,.int .i64 m1.stat_.atime_,.int .i64 m1.stat_.mtime_,.int .i64 m1.stat_.length_,.str m1.stat_.name_,.str m1.stat_.uid_,.str m1.stat_.gid_,.str m1.stat_.muid_,.int .i64 m1.err_,.int .i64 m1.lease_,.int .i64 m1.term_,.str m1.session_]),.pv (.int .u8 c28)]=some (retAV [],[.var [.pv (.int .i64 m1.kind_),.pv (.int .i64 m1.tag_),.pv (.int .i64 m1.fid_),.pv (.int .i64 m1.newFid_),.pv (.int .i64 m1.authFid_),.pv (.int .i64 m1.oldTag_),.pv (.int .i64 m1.msize_),.pv (.str m1.version_),.pv (.str m1.user_),.pv (.str m1.attach_),.pv (.slice (List.map PV.str m1.names_)),.pv (.slice (List.map Qid.pv m1.qids_)),.pv (.int .i64 m1.qid_.type_),.pv (.int .i64 m1.qid_.vers_),.pv (.int .i64 m1.qid_.path_),.pv (.int .i64 m1.iounit_),.pv (.int .i64 m1.mode_),.pv (.int .i64 m1.perm_),.pv (.str m1.name_),.pv (.int .i64 m1.offset_),.pv (.int .i64 m1.count_),.pv (.str m1.data_),.pv (.int .i64 m1.stat_.type_),.pv (.int .i64 m1.stat_.dev_),.pv (.int .i64 m1.stat_.qid_.type_),.pv (.int .i64 m1.stat_.qid_.vers_),.pv (.int .i64 m1.stat_.qid_.path_),.pv (.int .i64 m1.stat_.mode_),.pv (.int .i64 m1.stat_.atime_),.pv (.int .i64 m1.stat_.mtime_),.pv (.int .i64 m1.stat_.length_),.pv (.str m1.stat_.name_),.pv (.str m1.stat_.uid_),.pv (.str m1.stat_.gid_),.pv (.str m1.stat_.muid_),.pv (.int .i64 m1.err_),.pv (.int .i64 m1.lease_),.pv (.int .i64 m1.term_),.pv (.str m1.session_)],.var [.pv (.str x31),.pv (.int .i64 x32)]]):=ecall_eq rfl rfl rfl f34 rfl rfl rfl
  apply AW.dgk mixed hS [1,5,6,29,30] (ordp hpf (by kernel_rfl))
  ·exact di1 (an f30.1 (an f30.2.1 (an f30.2.2 (an pf_187 e35))))
  apply AW.rg hS [1,5,6,29,30]
  ·exact di
  exact⟨(m26,(IntKind.wrap .i64 (i21+1),x31,x32)),h,(Weak.norm (m:=2) (Nat.le_of_ble_eq_true rfl) kp hq rfl rfl),Nat.lt_succ_self _⟩
 refine AW.exit ?_
 refine AW.seq ?_
 refine AW.seq ?_
 apply AW.rg hS [5,44]
 ·exact di
 refine AW.iff_ h rfl rfl (fun hb36 h=>?_) (fun hb36 h=>?_)
 ·cases h
 refine AW.skip ?_
 refine AW.seq ?_
 refine AW.seq ?_
 apply AW.rg hS [5,55]
 ·exact di
 refine AW.iff_ h rfl rfl (fun hb37 h=>?_) (fun hb37 h=>?_)
 ·cases h
 refine AW.skip ?_
 refine AW.seq ?_
 replace h:=obs h;obtain⟨⟨r38,r39⟩,q40,h⟩:=h
 dsimp only at h
 have f41:=(hk 4 188 rfl).ret (IntKind.wrap .i64 ((x22.length:Int)+4),4) q40 rfl rfl
 try dsimp only at f41
 apply AW.rg hS [5,8]
 ·exact di1 (an pf_188 f41)
 refine AW.seq ?_
 replace h:=obs h;obtain⟨s42,q43,h⟩:=h
 have f44:=catO_f q43
 try simp only[List.length_cons,List.length_nil,List.length_replicate,Nat.zero_add,Nat.reduceAdd,Nat.reduceLeDiff,Nat.add_zero,Nat.reduceMul]at f44
 apply AW.rg hS [2,3]
 ·exact di1 (an f44.1 f44.2)
 refine AW.ret ?_
 cases h
 exact fin
set_option maxHeartbeats 4000000 in
theorem g_F52(c:AllG env [(S116 F116)]):GoodH env (S52 F52):=by
 obtain⟨O,X,hS,hX,hpf,hk⟩:=orcs (pf:=pfn) c
 have pf_116:O.pf 116=true:=pft hpf 116 rfl
 refine GH (fn:=Tryz.f52) fn_52 rfl rfl 27 rfl [] rfl ?_
 rintro(⟨c1,m2⟩:Client×Msg) (r:Str×Int) h m em
 refine GHs rfl rfl em rfl rfl rfl ?_
 clear em m
 replace h:F52 c1 m2=some r:=h
 rw[F52]at h
 refine AW.seq ?_
 apply AW.rg hS [2,3]
 ·exact di
 refine AW.seq ?_
 replace h:=obs h;obtain⟨⟨r5,r6⟩,q7,h⟩:=h
 dsimp only at h
 have f8:=(hk 0 116 rfl).ret m2 q7 rfl rfl
 try dsimp only at f8
 apply AW.rg hS [2,6,7]
 ·exact di1 (an pf_116 f8)
 refine AW.seq ?_
 refine AW.seq ?_
 apply AW.rg hS [2,6,14]
 ·exact di
 refine AW.iff_ h rfl rfl (fun hb9 h=>?_) (fun hb9 h=>?_)
 ·cases h
 refine AW.skip ?_
 refine AW.seq ?_
 refine AW.seq ?_
 refine AW.reg hS [(6,.pv (.str r5)),(25,.pv (.bool (!decide (c1.msize_=0)&&decide (c1.msize_<(r5.length:Int)))))] [.var [.pv (.bool c1.up_),.pv (.int .i64 c1.msize_),.pv (.str c1.session_),.pv (.slice (List.map (PV.int .i64) c1.fids_)),.pv (.slice (List.map Call.pv c1.calls_)),.pv (.str c1.partial_)],.var [.pv (.int .i64 m2.kind_),.pv (.int .i64 m2.tag_),.pv (.int .i64 m2.fid_),.pv (.int .i64 m2.newFid_),.pv (.int .i64 m2.authFid_),.pv (.int .i64 m2.oldTag_),.pv (.int .i64 m2.msize_),.pv (.str m2.version_),.pv (.str m2.user_),.pv (.str m2.attach_),.pv (.slice (List.map PV.str m2.names_)),.pv (.slice (List.map Qid.pv m2.qids_)),.pv (.int .i64 m2.qid_.type_),.pv (.int .i64 m2.qid_.vers_),.pv (.int .i64 m2.qid_.path_),.pv (.int .i64 m2.iounit_),.pv (.int .i64 m2.mode_),.pv (.int .i64 m2.perm_),.pv (.str m2.name_),.pv (.int .i64 m2.offset_),.pv (.int .i64 m2.count_),.pv (.str m2.data_),.pv (.int .i64 m2.stat_.type_),.pv (.int .i64 m2.stat_.dev_),.pv (.int .i64 m2.stat_.qid_.type_),.pv (.int .i64 m2.stat_.qid_.vers_),.pv (.int .i64 m2.stat_.qid_.path_),.pv (.int .i64 m2.stat_.mode_),.pv (.int .i64 m2.stat_.atime_),.pv (.int .i64 m2.stat_.mtime_),.pv (.int .i64 m2.stat_.length_),.pv (.str m2.stat_.name_),.pv (.str m2.stat_.uid_),.pv (.str m2.stat_.gid_),.pv (.str m2.stat_.muid_),.pv (.int .i64 m2.err_),.pv (.int .i64 m2.lease_),.pv (.int .i64 m2.term_),.pv (.str m2.session_)]] ?_ ?_
 ·clear h hk hpf hS hX c
  exact dh
 refine AW.iff_ h rfl rfl (fun hb10 h=>?_) (fun hb10 h=>?_)
 ·cases h
 refine AW.skip ?_
 refine AW.seq ?_
 apply AW.rg hS [4,5]
 ·exact di
 refine AW.ret ?_
 cases h
 exact fin
set_option maxHeartbeats 4000000 in
theorem g_F16(c:AllG env [(S47 F47),(S48 F48),(S49 F49),(S50 F50),(S51 F51),(S52 F52)]):GoodH env (S16 F16):=by
 obtain⟨O,X,hS,hX,hpf,hk⟩:=orcs (pf:=pfn) c
 have pf_47:O.pf 47=false:=pft hpf 47 rfl
 have pf_48:O.pf 48=true:=pft hpf 48 rfl
 have pf_49:O.pf 49=true:=pft hpf 49 rfl
 have pf_50:O.pf 50=true:=pft hpf 50 rfl
 have pf_51:O.pf 51=true:=pft hpf 51 rfl
 have pf_52:O.pf 52=true:=pft hpf 52 rfl
 refine GH (fn:=Tryz.f16) fn_16 rfl rfl 84 rfl [] rfl ?_
 rintro(⟨c1,m2⟩:Client×Msg) (r:Client×Int×Str×Int) h m em
 refine GHs rfl rfl em rfl rfl rfl ?_
 clear em m
 replace h:F16 c1 m2=some r:=h
 rw[F16]at h
 refine AW.seq ?_
 apply AW.rg hS [2,3,4]
 ·exact di
 refine AW.seq ?_
 replace h:=obs h;obtain⟨⟨up7,msize8,session9,r10,r11,partial12⟩,q13,h⟩:=h
 dsimp only at h
 have f14:=(hk 0 47 rfl).ret c1 q13 rfl rfl
 try dsimp only at f14
 have e15:ecall O [.var [.pv (.bool c1.up_),.pv (.int .i64 c1.msize_),.pv (.str c1.session_),.pv (.slice (List.map (PV.int .i64) c1.fids_)),.pv (.slice (List.map Call.pv c1.calls_)),.pv (.str c1.partial_)],.var [.pv (.int .i64 m2.kind_),.pv (.int .i64 m2.tag_),.pv (.int .i64 m2.fid_),.pv (.int .i64 m2.newFid_),.pv (.int .i64 m2.authFid_),.pv (.int .i64 m2.oldTag_),.pv (.int .i64 m2.msize_),.pv (.str m2.version_),.pv (.str m2.user_),.pv (.str m2.attach_),.pv (.slice (List.map PV.str m2.names_)),.pv (.slice (List.map Qid.pv m2.qids_)),.pv (.int .i64 m2.qid_.type_),.pv (.int .i64 m2.qid_.vers_),.pv (.int .i64 m2.qid_.path_),.pv (.int .i64 m2.iounit_),.pv (.int .i64 m2.mode_),.pv (.int .i64 m2.perm_),.pv (.str m2.name_),.pv (.int .i64 m2.offset_),.pv (.int .i64 m2.count_),.pv (.str m2.data_),.pv (.int .i64 m2.stat_.type_),.pv (.int .i64 m2.stat_.dev_),.pv (.int .i64 m2.stat_.qid_.type_),.pv (.int .i64 m2.stat_.qid_.vers_),.pv (.int .i64 m2.stat_.qid_.path_),.pv (.int .i64 m2.stat_.mode_),.pv (.int .i64 m2.stat_.atime_),.pv (.int .i64 m2.stat_.mtime_),.pv (.int .i64 m2.stat_.length_),.pv (.str m2.stat_.name_),.pv (.str m2.stat_.uid_),.pv (.str m2.stat_.gid_),.pv (.str m2.stat_.muid_),.pv (.int .i64 m2.err_),.pv (.int .i64 m2.lease_),.pv (.int .i64 m2.term_),.pv (.str m2.session_)],.var [.pv (.bool false),.pv (.int .i64 0),.pv (.str []),.nils,.nils,.pv (.str [])]] 47 [.pv (.agg [.bool c1.up_,.int .i64 c1.msize_,.str c1.session_,.slice (List.map (PV.int .i64) c1.fids_),.slice (List.map Call.pv c1.calls_),.str c1.partial_])]=some (retAV [.agg [.pv (.bool up7),.pv (.int .i64 msize8),.pv (.str session9),.vec 3 (List.length r10),.vec 4 (List.length r11),.pv (.str partial12)]],[.var [.pv (.bool c1.up_),.pv (.int .i64 c1.msize_),.pv (.str c1.session_),.pv (.slice (List.map (PV.int .i64) c1.fids_)),.pv (.slice (List.map Call.pv c1.calls_)),.pv (.str c1.partial_)],.var [.pv (.int .i64 m2.kind_),.pv (.int .i64 m2.tag_),.pv (.int .i64 m2.fid_),.pv (.int .i64 m2.newFid_),.pv (.int .i64 m2.authFid_),.pv (.int .i64 m2.oldTag_),.pv (.int .i64 m2.msize_),.pv (.str m2.version_),.pv (.str m2.user_),.pv (.str m2.attach_),.pv (.slice (List.map PV.str m2.names_)),.pv (.slice (List.map Qid.pv m2.qids_)),.pv (.int .i64 m2.qid_.type_),.pv (.int .i64 m2.qid_.vers_),.pv (.int .i64 m2.qid_.path_),.pv (.int .i64 m2.iounit_),.pv (.int .i64 m2.mode_),.pv (.int .i64 m2.perm_),.pv (.str m2.name_),.pv (.int .i64 m2.offset_),.pv (.int .i64 m2.count_),.pv (.str m2.data_),.pv (.int .i64 m2.stat_.type_),.pv (.int .i64 m2.stat_.dev_),.pv (.int .i64 m2.stat_.qid_.type_),.pv (.int .i64 m2.stat_.qid_.vers_),.pv (.int .i64 m2.stat_.qid_.path_),.pv (.int .i64 m2.stat_.mode_),.pv (.int .i64 m2.stat_.atime_),.pv (.int .i64 m2.stat_.mtime_),.pv (.int .i64 m2.stat_.length_),.pv (.str m2.stat_.name_),.pv (.str m2.stat_.uid_),.pv (.str m2.stat_.gid_),.pv (.str m2.stat_.muid_),.pv (.int .i64 m2.err_),.pv (.int .i64 m2.lease_),.pv (.int .i64 m2.term_),.pv (.str m2.session_)],.var [.pv (.bool false),.pv (.int .i64 0),.pv (.str []),.nils,.nils,.pv (.str [])],.row 3 1 (List.map (PV.int .i64) r10) false,.row 122 40 (List.map Call.pv r11) false]):=ecall_eq rfl rfl rfl f14 rfl rfl rfl
 apply AW.rg hS [2,3,4,8]
 ·exact di1 (an pf_47 e15)
 refine AW.seq ?_
 apply AW.rg hS [2,3,4,8,9]
 ·exact di
 refine AW.seq ?_
 refine AW.block ?_
 refine AW.seq ?_
 apply AW.rg hS [2,3,4,8,9,18]
 ·exact di
 refine AW.iff_ h rfl rfl (fun hb16 h=>?_) (fun hb16 h=>?_)
 ·cases h
 refine AW.seq ?_
 replace h:=obs h;obtain⟨r17,q18,h⟩:=h
 have f19:=(hk 1 48 rfl).ret m2.kind_ q18 rfl rfl
 try dsimp only at f19
 refine AW.reg hS [(2,.ref 0 0),(3,.ref 1 0),(4,.ref 2 0),(8,.ref 5 0),(9,.pv (.bool (decide (m2.kind_=100)))),(23,.pv (.bool (!r17||decide (m2.kind_=108))))] [.var [.pv (.bool c1.up_),.pv (.int .i64 c1.msize_),.pv (.str c1.session_),.pv (.slice (List.map (PV.int .i64) c1.fids_)),.pv (.slice (List.map Call.pv c1.calls_)),.pv (.str c1.partial_)],.var [.pv (.int .i64 m2.kind_),.pv (.int .i64 m2.tag_),.pv (.int .i64 m2.fid_),.pv (.int .i64 m2.newFid_),.pv (.int .i64 m2.authFid_),.pv (.int .i64 m2.oldTag_),.pv (.int .i64 m2.msize_),.pv (.str m2.version_),.pv (.str m2.user_),.pv (.str m2.attach_),.pv (.slice (List.map PV.str m2.names_)),.pv (.slice (List.map Qid.pv m2.qids_)),.pv (.int .i64 m2.qid_.type_),.pv (.int .i64 m2.qid_.vers_),.pv (.int .i64 m2.qid_.path_),.pv (.int .i64 m2.iounit_),.pv (.int .i64 m2.mode_),.pv (.int .i64 m2.perm_),.pv (.str m2.name_),.pv (.int .i64 m2.offset_),.pv (.int .i64 m2.count_),.pv (.str m2.data_),.pv (.int .i64 m2.stat_.type_),.pv (.int .i64 m2.stat_.dev_),.pv (.int .i64 m2.stat_.qid_.type_),.pv (.int .i64 m2.stat_.qid_.vers_),.pv (.int .i64 m2.stat_.qid_.path_),.pv (.int .i64 m2.stat_.mode_),.pv (.int .i64 m2.stat_.atime_),.pv (.int .i64 m2.stat_.mtime_),.pv (.int .i64 m2.stat_.length_),.pv (.str m2.stat_.name_),.pv (.str m2.stat_.uid_),.pv (.str m2.stat_.gid_),.pv (.str m2.stat_.muid_),.pv (.int .i64 m2.err_),.pv (.int .i64 m2.lease_),.pv (.int .i64 m2.term_),.pv (.str m2.session_)],.var [.pv (.bool false),.pv (.int .i64 0),.pv (.str []),.nils,.nils,.pv (.str [])],.row 3 1 (List.map (PV.int .i64) r10) false,.row 122 40 (List.map Call.pv r11) false,.var [.pv (.bool up7),.pv (.int .i64 msize8),.pv (.str session9),.vec 3 (List.length r10),.vec 4 (List.length r11),.pv (.str partial12)]] ?_ ?_
 ·clear h hk hpf hS hX c
  exact dh1 (an pf_48 f19)
 refine AW.iff_ h rfl rfl (fun hb20 h=>?_) (fun hb20 h=>?_)
 ·cases h
 refine AW.seq ?_
 replace h:=obs h;obtain⟨r21,q22,h⟩:=h
 have f23:=(hk 2 49 rfl).ret c1.calls_ q22 rfl rfl
 try dsimp only at f23
 refine AW.reg hS [(2,.ref 0 0),(3,.ref 1 0),(4,.ref 2 0),(8,.ref 5 0),(9,.pv (.bool (decide (m2.kind_=100)))),(34,.pv (.bool (r21||(decide (m2.kind_=100)&&decide (0<(c1.calls_.length:Int))))))] [.var [.pv (.bool c1.up_),.pv (.int .i64 c1.msize_),.pv (.str c1.session_),.pv (.slice (List.map (PV.int .i64) c1.fids_)),.pv (.slice (List.map Call.pv c1.calls_)),.pv (.str c1.partial_)],.var [.pv (.int .i64 m2.kind_),.pv (.int .i64 m2.tag_),.pv (.int .i64 m2.fid_),.pv (.int .i64 m2.newFid_),.pv (.int .i64 m2.authFid_),.pv (.int .i64 m2.oldTag_),.pv (.int .i64 m2.msize_),.pv (.str m2.version_),.pv (.str m2.user_),.pv (.str m2.attach_),.pv (.slice (List.map PV.str m2.names_)),.pv (.slice (List.map Qid.pv m2.qids_)),.pv (.int .i64 m2.qid_.type_),.pv (.int .i64 m2.qid_.vers_),.pv (.int .i64 m2.qid_.path_),.pv (.int .i64 m2.iounit_),.pv (.int .i64 m2.mode_),.pv (.int .i64 m2.perm_),.pv (.str m2.name_),.pv (.int .i64 m2.offset_),.pv (.int .i64 m2.count_),.pv (.str m2.data_),.pv (.int .i64 m2.stat_.type_),.pv (.int .i64 m2.stat_.dev_),.pv (.int .i64 m2.stat_.qid_.type_),.pv (.int .i64 m2.stat_.qid_.vers_),.pv (.int .i64 m2.stat_.qid_.path_),.pv (.int .i64 m2.stat_.mode_),.pv (.int .i64 m2.stat_.atime_),.pv (.int .i64 m2.stat_.mtime_),.pv (.int .i64 m2.stat_.length_),.pv (.str m2.stat_.name_),.pv (.str m2.stat_.uid_),.pv (.str m2.stat_.gid_),.pv (.str m2.stat_.muid_),.pv (.int .i64 m2.err_),.pv (.int .i64 m2.lease_),.pv (.int .i64 m2.term_),.pv (.str m2.session_)],.var [.pv (.bool false),.pv (.int .i64 0),.pv (.str []),.nils,.nils,.pv (.str [])],.row 3 1 (List.map (PV.int .i64) r10) false,.row 122 40 (List.map Call.pv r11) false,.var [.pv (.bool up7),.pv (.int .i64 msize8),.pv (.str session9),.vec 3 (List.length r10),.vec 4 (List.length r11),.pv (.str partial12)]] ?_ ?_
 ·clear h hk hpf hS hX c
  exact dh1 (an pf_49 f23)
 refine AW.iff_ h rfl rfl (fun hb24 h=>?_) (fun hb24 h=>?_)
 ·cases h
 refine AW.seq ?_
 apply AW.rg hS [2,3,4,8,9,48]
 ·exact di
 refine AW.iff_ h rfl rfl (fun hb25 h=>?_) (fun hb25 h=>?_)
 ·cases h
 refine AW.skip ?_
 refine AW.seq ?_
 replace h:=obs h;obtain⟨r26,q27,h⟩:=h
 have f28:=(hk 3 50 rfl).ret m2 q27 rfl rfl
 try dsimp only at f28
 apply AW.rg hS [2,4,8,9,10]
 ·exact di1 (an pf_50 f28)
 refine AW.seq ?_
 apply AW.rg hS [2,4,8,9,10]
 ·exact di
 refine AW.seq ?_
 refine AW.seq ?_
 apply AW.rg hS [2,4,8,10,58]
 ·exact di
 refine AW.iff_ h rfl rfl (fun hb29 h=>?_) (fun hb29 h=>?_)
 ·replace h:=obs h;obtain⟨r30,q31,h⟩:=h
  have f32:=(hk 4 51 rfl).ret c1.calls_ q31 rfl rfl
  try dsimp only at f32
  apply AW.rg hS [2,4,8,10]
  ·exact di1 (an pf_51 f32)
  refine AW.seq ?_
  replace h:=obs h;obtain⟨⟨r33,r34⟩,q35,h⟩:=h
  dsimp only at h
  have f36:=(hk 5 52 rfl).ret (c1,Msg.mk r26.kind_ r30 r26.fid_ r26.newFid_ r26.authFid_ r26.oldTag_ r26.msize_ r26.version_ r26.user_ r26.attach_ r26.names_ r26.qids_ r26.qid_ r26.iounit_ r26.mode_ r26.perm_ r26.name_ r26.offset_ r26.count_ r26.data_ r26.stat_ r26.err_ r26.lease_ r26.term_ r26.session_) q35 rfl rfl
  try dsimp only at f36
  apply AW.rg hS [4,8,10,11,12]
  ·exact di1 (an pf_52 f36)
  refine AW.seq ?_
  refine AW.seq ?_
  apply AW.rg hS [4,8,10,11,70]
  ·exact di
  refine AW.iff_ h rfl rfl (fun hb37 h=>?_) (fun hb37 h=>?_)
  ·cases h
  refine AW.skip ?_
  refine AW.seq ?_
  replace h:=obs h;obtain⟨out38,q39,h⟩:=h
  have f40:=appO_f q39
  try simp only[List.length_cons,List.length_nil,List.length_replicate,Nat.zero_add,Nat.reduceAdd,Nat.reduceLeDiff,Nat.add_zero,Nat.reduceMul]at f40
  have f40m:=appO_m Call.pv q39
  try simp only[List.map_cons,List.map_nil,List.nil_append,oPV_none,oPV_some,Attr.pv_eq,P22_eq,Plumb.pv_eq,Token.pv_eq,P50_eq,Redir.pv_eq,P51_eq,Cmd.pv_eq,P46_eq,Word.pv_eq,P54_eq,Var.pv_eq,P324_eq,GEnv.pv_eq,GValue.pv_eq,P59_eq,Qid.pv_eq,P66_eq,Dir.pv_eq,Msg.pv_eq,Call.pv_eq,P60_eq,Client.pv_eq,S274.pv_eq,S276.pv_eq,P81_eq,Port.pv_eq,Pattern.pv_eq,P153_eq,Rule.pv_eq,P29_eq,P30_eq,Plumber.pv_eq]at f40m
  have f40n:=appO_n q39
  try simp only[List.length_cons,List.length_nil,Nat.zero_add]at f40n
  refine AW.reg hS [(4,.ref 2 0),(8,.ref 5 0),(10,.ref 6 0),(11,.pv (.str r33))] [.var [.pv (.bool c1.up_),.pv (.int .i64 c1.msize_),.pv (.str c1.session_),.pv (.slice (List.map (PV.int .i64) c1.fids_)),.pv (.slice (List.map Call.pv c1.calls_)),.pv (.str c1.partial_)],.var [.pv (.int .i64 m2.kind_),.pv (.int .i64 m2.tag_),.pv (.int .i64 m2.fid_),.pv (.int .i64 m2.newFid_),.pv (.int .i64 m2.authFid_),.pv (.int .i64 m2.oldTag_),.pv (.int .i64 m2.msize_),.pv (.str m2.version_),.pv (.str m2.user_),.pv (.str m2.attach_),.pv (.slice (List.map PV.str m2.names_)),.pv (.slice (List.map Qid.pv m2.qids_)),.pv (.int .i64 m2.qid_.type_),.pv (.int .i64 m2.qid_.vers_),.pv (.int .i64 m2.qid_.path_),.pv (.int .i64 m2.iounit_),.pv (.int .i64 m2.mode_),.pv (.int .i64 m2.perm_),.pv (.str m2.name_),.pv (.int .i64 m2.offset_),.pv (.int .i64 m2.count_),.pv (.str m2.data_),.pv (.int .i64 m2.stat_.type_),.pv (.int .i64 m2.stat_.dev_),.pv (.int .i64 m2.stat_.qid_.type_),.pv (.int .i64 m2.stat_.qid_.vers_),.pv (.int .i64 m2.stat_.qid_.path_),.pv (.int .i64 m2.stat_.mode_),.pv (.int .i64 m2.stat_.atime_),.pv (.int .i64 m2.stat_.mtime_),.pv (.int .i64 m2.stat_.length_),.pv (.str m2.stat_.name_),.pv (.str m2.stat_.uid_),.pv (.str m2.stat_.gid_),.pv (.str m2.stat_.muid_),.pv (.int .i64 m2.err_),.pv (.int .i64 m2.lease_),.pv (.int .i64 m2.term_),.pv (.str m2.session_)],.var [.pv (.bool false),.pv (.int .i64 0),.pv (.str []),.nils,.nils,.pv (.str [])],.row 3 1 (List.map (PV.int .i64) r10) false,.row 122 40 (List.map Call.pv out38) false,.var [.pv (.bool up7),.pv (.int .i64 msize8),.pv (.str session9),.vec 3 (List.length r10),.vec 4 (List.length out38),.pv (.str partial12)],.var [.pv (.int .i64 r26.kind_),.pv (.int .i64 r30),.pv (.int .i64 r26.fid_),.pv (.int .i64 r26.newFid_),.pv (.int .i64 r26.authFid_),.pv (.int .i64 r26.oldTag_),.pv (.int .i64 r26.msize_),.pv (.str r26.version_),.pv (.str r26.user_),.pv (.str r26.attach_),.pv (.slice (List.map PV.str r26.names_)),.pv (.slice (List.map Qid.pv r26.qids_)),.pv (.int .i64 r26.qid_.type_),.pv (.int .i64 r26.qid_.vers_),.pv (.int .i64 r26.qid_.path_),.pv (.int .i64 r26.iounit_),.pv (.int .i64 r26.mode_),.pv (.int .i64 r26.perm_),.pv (.str r26.name_),.pv (.int .i64 r26.offset_),.pv (.int .i64 r26.count_),.pv (.str r26.data_),.pv (.int .i64 r26.stat_.type_),.pv (.int .i64 r26.stat_.dev_),.pv (.int .i64 r26.stat_.qid_.type_),.pv (.int .i64 r26.stat_.qid_.vers_),.pv (.int .i64 r26.stat_.qid_.path_),.pv (.int .i64 r26.stat_.mode_),.pv (.int .i64 r26.stat_.atime_),.pv (.int .i64 r26.stat_.mtime_),.pv (.int .i64 r26.stat_.length_),.pv (.str r26.stat_.name_),.pv (.str r26.stat_.uid_),.pv (.str r26.stat_.gid_),.pv (.str r26.stat_.muid_),.pv (.int .i64 r26.err_),.pv (.int .i64 r26.lease_),.pv (.int .i64 r26.term_),.pv (.str r26.session_)]] ?_ ?_
  ·exact dk1 (an f40.1 (an f40m f40n))
  clear f40
  clear f40m
  clear f40n
  refine AW.seq ?_
  refine AW.weak (Weak.freeze 3 rfl) ?_
  refine AW.weak (σ':=⟨sl [(4,.ref 2 0),(8,.ref 5 0),(10,.ref 6 0),(11,.pv (.str r33))],84,[.var [.pv (.bool c1.up_),.pv (.int .i64 c1.msize_),.pv (.str c1.session_),.pv (.slice (List.map (PV.int .i64) c1.fids_)),.pv (.slice (List.map Call.pv c1.calls_)),.pv (.str c1.partial_)],.var [.pv (.int .i64 m2.kind_),.pv (.int .i64 m2.tag_),.pv (.int .i64 m2.fid_),.pv (.int .i64 m2.newFid_),.pv (.int .i64 m2.authFid_),.pv (.int .i64 m2.oldTag_),.pv (.int .i64 m2.msize_),.pv (.str m2.version_),.pv (.str m2.user_),.pv (.str m2.attach_),.pv (.slice (List.map PV.str m2.names_)),.pv (.slice (List.map Qid.pv m2.qids_)),.pv (.int .i64 m2.qid_.type_),.pv (.int .i64 m2.qid_.vers_),.pv (.int .i64 m2.qid_.path_),.pv (.int .i64 m2.iounit_),.pv (.int .i64 m2.mode_),.pv (.int .i64 m2.perm_),.pv (.str m2.name_),.pv (.int .i64 m2.offset_),.pv (.int .i64 m2.count_),.pv (.str m2.data_),.pv (.int .i64 m2.stat_.type_),.pv (.int .i64 m2.stat_.dev_),.pv (.int .i64 m2.stat_.qid_.type_),.pv (.int .i64 m2.stat_.qid_.vers_),.pv (.int .i64 m2.stat_.qid_.path_),.pv (.int .i64 m2.stat_.mode_),.pv (.int .i64 m2.stat_.atime_),.pv (.int .i64 m2.stat_.mtime_),.pv (.int .i64 m2.stat_.length_),.pv (.str m2.stat_.name_),.pv (.str m2.stat_.uid_),.pv (.str m2.stat_.gid_),.pv (.str m2.stat_.muid_),.pv (.int .i64 m2.err_),.pv (.int .i64 m2.lease_),.pv (.int .i64 m2.term_),.pv (.str m2.session_)],.var [.pv (.bool false),.pv (.int .i64 0),.pv (.str []),.nils,.nils,.pv (.str [])],.row 3 1 (List.map (PV.int .i64) r10) true,.row 122 40 (List.map Call.pv out38) false,.var [.pv (.bool up7),.pv (.int .i64 msize8),.pv (.str session9),.vec 3 (List.length r10),.vec 4 (List.length out38),.pv (.str partial12)],.var [.pv (.int .i64 r26.kind_),.pv (.int .i64 r30),.pv (.int .i64 r26.fid_),.pv (.int .i64 r26.newFid_),.pv (.int .i64 r26.authFid_),.pv (.int .i64 r26.oldTag_),.pv (.int .i64 r26.msize_),.pv (.str r26.version_),.pv (.str r26.user_),.pv (.str r26.attach_),.pv (.slice (List.map PV.str r26.names_)),.pv (.slice (List.map Qid.pv r26.qids_)),.pv (.int .i64 r26.qid_.type_),.pv (.int .i64 r26.qid_.vers_),.pv (.int .i64 r26.qid_.path_),.pv (.int .i64 r26.iounit_),.pv (.int .i64 r26.mode_),.pv (.int .i64 r26.perm_),.pv (.str r26.name_),.pv (.int .i64 r26.offset_),.pv (.int .i64 r26.count_),.pv (.str r26.data_),.pv (.int .i64 r26.stat_.type_),.pv (.int .i64 r26.stat_.dev_),.pv (.int .i64 r26.stat_.qid_.type_),.pv (.int .i64 r26.stat_.qid_.vers_),.pv (.int .i64 r26.stat_.qid_.path_),.pv (.int .i64 r26.stat_.mode_),.pv (.int .i64 r26.stat_.atime_),.pv (.int .i64 r26.stat_.mtime_),.pv (.int .i64 r26.stat_.length_),.pv (.str r26.stat_.name_),.pv (.str r26.stat_.uid_),.pv (.str r26.stat_.gid_),.pv (.str r26.stat_.muid_),.pv (.int .i64 r26.err_),.pv (.int .i64 r26.lease_),.pv (.int .i64 r26.term_),.pv (.str r26.session_)]]⟩) (Weak.of_eq (Weak.slots (L:=[(4,.ref 2 0),(8,.ref 5 0),(10,.ref 6 0),(11,.pv (.str r33))]) kp) (by first|rfl|(simp only[List.length_set,List.length_map];rfl))) ?_
  refine AW.weak (Weak.cellPV 5 3 (cs:=[.pv (.bool up7),.pv (.int .i64 msize8),.pv (.str session9),.vec 3 (List.length r10),.vec 4 (List.length out38),.pv (.str partial12)]) (a:=.vec 3 (List.length r10)) (p:=.slice (List.map (PV.int .i64) r10)) rfl rfl (by first|rfl|simp only[toPV,List.getElem?_cons_zero,List.getElem?_cons_succ,List.length_map,if_true,List.map_nil])) ?_
  refine AW.weak (σ':=⟨sl [(4,.ref 2 0),(8,.ref 5 0),(10,.ref 6 0),(11,.pv (.str r33))],84,[.var [.pv (.bool c1.up_),.pv (.int .i64 c1.msize_),.pv (.str c1.session_),.pv (.slice (List.map (PV.int .i64) c1.fids_)),.pv (.slice (List.map Call.pv c1.calls_)),.pv (.str c1.partial_)],.var [.pv (.int .i64 m2.kind_),.pv (.int .i64 m2.tag_),.pv (.int .i64 m2.fid_),.pv (.int .i64 m2.newFid_),.pv (.int .i64 m2.authFid_),.pv (.int .i64 m2.oldTag_),.pv (.int .i64 m2.msize_),.pv (.str m2.version_),.pv (.str m2.user_),.pv (.str m2.attach_),.pv (.slice (List.map PV.str m2.names_)),.pv (.slice (List.map Qid.pv m2.qids_)),.pv (.int .i64 m2.qid_.type_),.pv (.int .i64 m2.qid_.vers_),.pv (.int .i64 m2.qid_.path_),.pv (.int .i64 m2.iounit_),.pv (.int .i64 m2.mode_),.pv (.int .i64 m2.perm_),.pv (.str m2.name_),.pv (.int .i64 m2.offset_),.pv (.int .i64 m2.count_),.pv (.str m2.data_),.pv (.int .i64 m2.stat_.type_),.pv (.int .i64 m2.stat_.dev_),.pv (.int .i64 m2.stat_.qid_.type_),.pv (.int .i64 m2.stat_.qid_.vers_),.pv (.int .i64 m2.stat_.qid_.path_),.pv (.int .i64 m2.stat_.mode_),.pv (.int .i64 m2.stat_.atime_),.pv (.int .i64 m2.stat_.mtime_),.pv (.int .i64 m2.stat_.length_),.pv (.str m2.stat_.name_),.pv (.str m2.stat_.uid_),.pv (.str m2.stat_.gid_),.pv (.str m2.stat_.muid_),.pv (.int .i64 m2.err_),.pv (.int .i64 m2.lease_),.pv (.int .i64 m2.term_),.pv (.str m2.session_)],.var [.pv (.bool false),.pv (.int .i64 0),.pv (.str []),.nils,.nils,.pv (.str [])],.row 3 1 (List.map (PV.int .i64) r10) true,.row 122 40 (List.map Call.pv out38) false,.var [.pv (.bool up7),.pv (.int .i64 msize8),.pv (.str session9),.pv (.slice (List.map (PV.int .i64) r10)),.vec 4 (List.length out38),.pv (.str partial12)],.var [.pv (.int .i64 r26.kind_),.pv (.int .i64 r30),.pv (.int .i64 r26.fid_),.pv (.int .i64 r26.newFid_),.pv (.int .i64 r26.authFid_),.pv (.int .i64 r26.oldTag_),.pv (.int .i64 r26.msize_),.pv (.str r26.version_),.pv (.str r26.user_),.pv (.str r26.attach_),.pv (.slice (List.map PV.str r26.names_)),.pv (.slice (List.map Qid.pv r26.qids_)),.pv (.int .i64 r26.qid_.type_),.pv (.int .i64 r26.qid_.vers_),.pv (.int .i64 r26.qid_.path_),.pv (.int .i64 r26.iounit_),.pv (.int .i64 r26.mode_),.pv (.int .i64 r26.perm_),.pv (.str r26.name_),.pv (.int .i64 r26.offset_),.pv (.int .i64 r26.count_),.pv (.str r26.data_),.pv (.int .i64 r26.stat_.type_),.pv (.int .i64 r26.stat_.dev_),.pv (.int .i64 r26.stat_.qid_.type_),.pv (.int .i64 r26.stat_.qid_.vers_),.pv (.int .i64 r26.stat_.qid_.path_),.pv (.int .i64 r26.stat_.mode_),.pv (.int .i64 r26.stat_.atime_),.pv (.int .i64 r26.stat_.mtime_),.pv (.int .i64 r26.stat_.length_),.pv (.str r26.stat_.name_),.pv (.str r26.stat_.uid_),.pv (.str r26.stat_.gid_),.pv (.str r26.stat_.muid_),.pv (.int .i64 r26.err_),.pv (.int .i64 r26.lease_),.pv (.int .i64 r26.term_),.pv (.str r26.session_)]]⟩) (Weak.of_eq (Weak.slots (L:=[(4,.ref 2 0),(8,.ref 5 0),(10,.ref 6 0),(11,.pv (.str r33))]) ⟨rfl,rfl,rfl,rfl,trivial⟩) (by first|rfl|(simp only[List.length_set,List.length_map];rfl))) ?_
  refine AW.weak (Weak.freeze 4 rfl) ?_
  refine AW.weak (σ':=⟨sl [(4,.ref 2 0),(8,.ref 5 0),(10,.ref 6 0),(11,.pv (.str r33))],84,[.var [.pv (.bool c1.up_),.pv (.int .i64 c1.msize_),.pv (.str c1.session_),.pv (.slice (List.map (PV.int .i64) c1.fids_)),.pv (.slice (List.map Call.pv c1.calls_)),.pv (.str c1.partial_)],.var [.pv (.int .i64 m2.kind_),.pv (.int .i64 m2.tag_),.pv (.int .i64 m2.fid_),.pv (.int .i64 m2.newFid_),.pv (.int .i64 m2.authFid_),.pv (.int .i64 m2.oldTag_),.pv (.int .i64 m2.msize_),.pv (.str m2.version_),.pv (.str m2.user_),.pv (.str m2.attach_),.pv (.slice (List.map PV.str m2.names_)),.pv (.slice (List.map Qid.pv m2.qids_)),.pv (.int .i64 m2.qid_.type_),.pv (.int .i64 m2.qid_.vers_),.pv (.int .i64 m2.qid_.path_),.pv (.int .i64 m2.iounit_),.pv (.int .i64 m2.mode_),.pv (.int .i64 m2.perm_),.pv (.str m2.name_),.pv (.int .i64 m2.offset_),.pv (.int .i64 m2.count_),.pv (.str m2.data_),.pv (.int .i64 m2.stat_.type_),.pv (.int .i64 m2.stat_.dev_),.pv (.int .i64 m2.stat_.qid_.type_),.pv (.int .i64 m2.stat_.qid_.vers_),.pv (.int .i64 m2.stat_.qid_.path_),.pv (.int .i64 m2.stat_.mode_),.pv (.int .i64 m2.stat_.atime_),.pv (.int .i64 m2.stat_.mtime_),.pv (.int .i64 m2.stat_.length_),.pv (.str m2.stat_.name_),.pv (.str m2.stat_.uid_),.pv (.str m2.stat_.gid_),.pv (.str m2.stat_.muid_),.pv (.int .i64 m2.err_),.pv (.int .i64 m2.lease_),.pv (.int .i64 m2.term_),.pv (.str m2.session_)],.var [.pv (.bool false),.pv (.int .i64 0),.pv (.str []),.nils,.nils,.pv (.str [])],.row 3 1 (List.map (PV.int .i64) r10) true,.row 122 40 (List.map Call.pv out38) true,.var [.pv (.bool up7),.pv (.int .i64 msize8),.pv (.str session9),.pv (.slice (List.map (PV.int .i64) r10)),.vec 4 (List.length out38),.pv (.str partial12)],.var [.pv (.int .i64 r26.kind_),.pv (.int .i64 r30),.pv (.int .i64 r26.fid_),.pv (.int .i64 r26.newFid_),.pv (.int .i64 r26.authFid_),.pv (.int .i64 r26.oldTag_),.pv (.int .i64 r26.msize_),.pv (.str r26.version_),.pv (.str r26.user_),.pv (.str r26.attach_),.pv (.slice (List.map PV.str r26.names_)),.pv (.slice (List.map Qid.pv r26.qids_)),.pv (.int .i64 r26.qid_.type_),.pv (.int .i64 r26.qid_.vers_),.pv (.int .i64 r26.qid_.path_),.pv (.int .i64 r26.iounit_),.pv (.int .i64 r26.mode_),.pv (.int .i64 r26.perm_),.pv (.str r26.name_),.pv (.int .i64 r26.offset_),.pv (.int .i64 r26.count_),.pv (.str r26.data_),.pv (.int .i64 r26.stat_.type_),.pv (.int .i64 r26.stat_.dev_),.pv (.int .i64 r26.stat_.qid_.type_),.pv (.int .i64 r26.stat_.qid_.vers_),.pv (.int .i64 r26.stat_.qid_.path_),.pv (.int .i64 r26.stat_.mode_),.pv (.int .i64 r26.stat_.atime_),.pv (.int .i64 r26.stat_.mtime_),.pv (.int .i64 r26.stat_.length_),.pv (.str r26.stat_.name_),.pv (.str r26.stat_.uid_),.pv (.str r26.stat_.gid_),.pv (.str r26.stat_.muid_),.pv (.int .i64 r26.err_),.pv (.int .i64 r26.lease_),.pv (.int .i64 r26.term_),.pv (.str r26.session_)]]⟩) (Weak.of_eq (Weak.slots (L:=[(4,.ref 2 0),(8,.ref 5 0),(10,.ref 6 0),(11,.pv (.str r33))]) kp) (by first|rfl|(simp only[List.length_set,List.length_map];rfl))) ?_
  refine AW.weak (Weak.cellPV 5 4 (cs:=[.pv (.bool up7),.pv (.int .i64 msize8),.pv (.str session9),.pv (.slice (List.map (PV.int .i64) r10)),.vec 4 (List.length out38),.pv (.str partial12)]) (a:=.vec 4 (List.length out38)) (p:=.slice (List.map Call.pv out38)) rfl rfl (by first|rfl|simp only[toPV,List.getElem?_cons_zero,List.getElem?_cons_succ,List.length_map,if_true,List.map_nil])) ?_
  refine AW.weak (σ':=⟨sl [(4,.ref 2 0),(8,.ref 5 0),(10,.ref 6 0),(11,.pv (.str r33))],84,[.var [.pv (.bool c1.up_),.pv (.int .i64 c1.msize_),.pv (.str c1.session_),.pv (.slice (List.map (PV.int .i64) c1.fids_)),.pv (.slice (List.map Call.pv c1.calls_)),.pv (.str c1.partial_)],.var [.pv (.int .i64 m2.kind_),.pv (.int .i64 m2.tag_),.pv (.int .i64 m2.fid_),.pv (.int .i64 m2.newFid_),.pv (.int .i64 m2.authFid_),.pv (.int .i64 m2.oldTag_),.pv (.int .i64 m2.msize_),.pv (.str m2.version_),.pv (.str m2.user_),.pv (.str m2.attach_),.pv (.slice (List.map PV.str m2.names_)),.pv (.slice (List.map Qid.pv m2.qids_)),.pv (.int .i64 m2.qid_.type_),.pv (.int .i64 m2.qid_.vers_),.pv (.int .i64 m2.qid_.path_),.pv (.int .i64 m2.iounit_),.pv (.int .i64 m2.mode_),.pv (.int .i64 m2.perm_),.pv (.str m2.name_),.pv (.int .i64 m2.offset_),.pv (.int .i64 m2.count_),.pv (.str m2.data_),.pv (.int .i64 m2.stat_.type_),.pv (.int .i64 m2.stat_.dev_),.pv (.int .i64 m2.stat_.qid_.type_),.pv (.int .i64 m2.stat_.qid_.vers_),.pv (.int .i64 m2.stat_.qid_.path_),.pv (.int .i64 m2.stat_.mode_),.pv (.int .i64 m2.stat_.atime_),.pv (.int .i64 m2.stat_.mtime_),.pv (.int .i64 m2.stat_.length_),.pv (.str m2.stat_.name_),.pv (.str m2.stat_.uid_),.pv (.str m2.stat_.gid_),.pv (.str m2.stat_.muid_),.pv (.int .i64 m2.err_),.pv (.int .i64 m2.lease_),.pv (.int .i64 m2.term_),.pv (.str m2.session_)],.var [.pv (.bool false),.pv (.int .i64 0),.pv (.str []),.nils,.nils,.pv (.str [])],.row 3 1 (List.map (PV.int .i64) r10) true,.row 122 40 (List.map Call.pv out38) true,.var [.pv (.bool up7),.pv (.int .i64 msize8),.pv (.str session9),.pv (.slice (List.map (PV.int .i64) r10)),.pv (.slice (List.map Call.pv out38)),.pv (.str partial12)],.var [.pv (.int .i64 r26.kind_),.pv (.int .i64 r30),.pv (.int .i64 r26.fid_),.pv (.int .i64 r26.newFid_),.pv (.int .i64 r26.authFid_),.pv (.int .i64 r26.oldTag_),.pv (.int .i64 r26.msize_),.pv (.str r26.version_),.pv (.str r26.user_),.pv (.str r26.attach_),.pv (.slice (List.map PV.str r26.names_)),.pv (.slice (List.map Qid.pv r26.qids_)),.pv (.int .i64 r26.qid_.type_),.pv (.int .i64 r26.qid_.vers_),.pv (.int .i64 r26.qid_.path_),.pv (.int .i64 r26.iounit_),.pv (.int .i64 r26.mode_),.pv (.int .i64 r26.perm_),.pv (.str r26.name_),.pv (.int .i64 r26.offset_),.pv (.int .i64 r26.count_),.pv (.str r26.data_),.pv (.int .i64 r26.stat_.type_),.pv (.int .i64 r26.stat_.dev_),.pv (.int .i64 r26.stat_.qid_.type_),.pv (.int .i64 r26.stat_.qid_.vers_),.pv (.int .i64 r26.stat_.qid_.path_),.pv (.int .i64 r26.stat_.mode_),.pv (.int .i64 r26.stat_.atime_),.pv (.int .i64 r26.stat_.mtime_),.pv (.int .i64 r26.stat_.length_),.pv (.str r26.stat_.name_),.pv (.str r26.stat_.uid_),.pv (.str r26.stat_.gid_),.pv (.str r26.stat_.muid_),.pv (.int .i64 r26.err_),.pv (.int .i64 r26.lease_),.pv (.int .i64 r26.term_),.pv (.str r26.session_)]]⟩) (Weak.of_eq (Weak.slots (L:=[(4,.ref 2 0),(8,.ref 5 0),(10,.ref 6 0),(11,.pv (.str r33))]) ⟨rfl,rfl,rfl,rfl,trivial⟩) (by first|rfl|(simp only[List.length_set,List.length_map];rfl))) ?_
  apply AW.dgB mixed hS [(4,some 2),(8,some 5),(10,some 6),(81,some 6)] [4,5,6,7] rfl (ordB hpf (B:=[(4,some 2),(8,some 5),(10,some 6),(81,some 6)]) (by kernel_rfl))
  ·exact di
  refine AW.ret ?_
  cases h
  exact fin
 cases h
set_option maxHeartbeats 4000000 in
theorem g_F53(c:AllG env []):GoodH env (S53 F53):=by
 obtain⟨O,X,hS,hX,hpf,hk⟩:=orcs (pf:=pfn) c
 refine GH (fn:=Tryz.f53) fn_53 rfl rfl 55 rfl [] rfl ?_
 rintro(⟨s1,at2,width3⟩:Str×Int×Int) (r:Int×Int×Int) h m em
 refine GHs rfl rfl em rfl rfl rfl ?_
 clear em m
 replace h:F53 s1 at2 width3=some r:=h
 rw[F53]at h
 refine AW.seq ?_
 apply AW.rg hS [0,1,2]
 ·exact di
 refine AW.seq ?_
 refine AW.seq ?_
 refine AW.reg hS [(0,.pv (.str s1)),(1,.pv (.int .i64 at2)),(2,.pv (.int .i64 width3)),(26,.pv (.bool (((decide (width3<1)||decide (8<width3))||decide (at2<0))||decide ((s1.length:Int)<at2))))] [] ?_ ?_
 ·clear h hk hpf hS hX c
  exact dh
 refine AW.iff_ h rfl rfl (fun hb7 h=>?_) (fun hb7 h=>?_)
 ·cases h
 refine AW.skip ?_
 refine AW.seq ?_
 refine AW.seq ?_
 apply AW.rg hS [0,1,2,32]
 ·exact di
 refine AW.iff_ h rfl rfl (fun hb8 h=>?_) (fun hb8 h=>?_)
 ·cases h
 refine AW.skip ?_
 refine AW.seq ?_
 apply AW.rg hS [0,1,2,9]
 ·exact di
 refine AW.seq ?_
 refine AW.seq ?_
 apply AW.rg hS [0,1,2,9,10]
 ·exact di
 refine AW.block ?_
 refine AW.lp (α:=Nat×Int×Int) (fun(_,n9,i10)=>⟨sl [(0,.pv (.str s1)),(1,.pv (.int .i64 at2)),(2,.pv (.int .i64 width3)),(9,.pv (.int .u64 n9)),(10,.pv (.int .i64 i10))],55,[]⟩) (fun x=>iter (F53_b1 s1 at2 width3) x.1 x.2=some r) (fun x=>x.1) (BIG,(0,IntKind.wrap .i64 (width3-1))) (Weak.slots kp) h ?_
 clear h
 intro⟨n22,n9,i10⟩ h
 replace h:=iter_some h;obtain⟨m13,rfl,h⟩:=h
 rw[F53_b1]at h
 try dsimp only at h
 refine AW.st ?_
 refine AW.seq ?_
 refine AW.seq ?_
 apply AW.rg hS [0,1,2,9,10,36]
 ·exact di
 refine AW.iff_ h rfl rfl (fun hb14 h=>?_) (fun hb14 h=>?_)
 ·refine AW.skip ?_
  refine AW.seq ?_
  refine AW.block ?_
  replace h:=obs h;obtain⟨n15,q16,h⟩:=h
  have f17:=shlO_f q16
  try simp only[Int.reduceToNat]at f17
  replace h:=obs h;obtain⟨c18,q19,h⟩:=h
  have f20:=sidx_f q19
  apply AW.rg hS [0,1,2,9,10]
  ·simp -implicitDefEqProofs only[RUNS,qindex,Nat.reduceAdd,Nat.reduceLeDiff,Nat.reduceSub,reduceIte,Nat.reduceEqDiff,Nat.reduceLT,reduceCtorEq,Nat.reduceMul,Nat.reduceBEq,Int.reduceEq,Int.reduceToNat,Int.toNat_zero,Nat.sub_zero,if_true,if_false,eq_self,ne_eq,pick_nil,pick_cons,leavesK_some,TYS,f17.1,f17.2,f20.1,f20.2.1,f20.2.2,qconv_ii T_5 T_200];exact⟨rfl,rfl⟩
  apply AW.rg hS [0,1,2,9,10]
  ·exact di
  exact⟨(m13,(bits .or .u64 n15 (IntKind.wrap .u64 c18),IntKind.wrap .i64 (i10-1))),h,(Weak.norm (m:=0) (Nat.le_of_ble_eq_true rfl) kp hq rfl rfl),Nat.lt_succ_self _⟩
 refine AW.exit ?_
 refine AW.seq ?_
 refine AW.seq ?_
 apply AW.rg hS [1,2,9,49]
 ·exact di
 refine AW.iff_ h rfl rfl (fun hb21 h=>?_) (fun hb21 h=>?_)
 ·cases h
 refine AW.skip ?_
 refine AW.seq ?_
 apply AW.rg hS [6,7,8]
 ·simp -implicitDefEqProofs only[RUNS,qindex,Nat.reduceAdd,Nat.reduceLeDiff,Nat.reduceSub,reduceIte,Nat.reduceEqDiff,Nat.reduceLT,reduceCtorEq,Nat.reduceMul,Nat.reduceBEq,Int.reduceEq,Int.reduceToNat,Int.toNat_zero,Nat.sub_zero,if_true,if_false,eq_self,ne_eq,pick_nil,pick_cons,leavesK_some,TYS,qconv_ii T_200 T_3];exact⟨rfl,rfl⟩
 refine AW.ret ?_
 cases h
 exact fin
end Go.Abs.U54
