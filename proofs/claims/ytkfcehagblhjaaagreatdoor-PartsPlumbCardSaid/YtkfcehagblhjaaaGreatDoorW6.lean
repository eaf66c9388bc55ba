import Derived.Test.YtkfcehagblhjaaaGreatDoorD1
set_option linter.unusedVariables false
set_option linter.unusedSimpArgs false
set_option linter.defProp false
set_option maxRecDepth 8000
namespace Go.Abs.U54
open Go.RowKit Go.Proofs
set_option maxHeartbeats 4000000 in
theorem g_F27(c:AllG env [SL_Compare]):GoodH env (S27 F27):=by
 obtain⟨O,X,hS,hX,hpf,hk⟩:=orcs (pf:=pfn) c
 have pf_71:O.pf 71=true:=pft hpf 71 rfl
 refine GH (fn:=Tryz.f27) fn_27 rfl rfl 8 rfl [] rfl ?_
 rintro(⟨a1,b2⟩:Str×Str) (r:Int) h m em
 refine GHs rfl rfl em rfl rfl rfl ?_
 clear em m
 replace h:F27 a1 b2=some r:=h
 rw[F27]at h
 refine AW.seq ?_
 apply AW.rg hS [0,1]
 ·exact di
 refine AW.seq ?_
 replace h:=obs h;obtain⟨n4,q5,h⟩:=h
 have f6:=(hk 0 71 rfl).ret (a1,b2) q5 rfl rfl
 try dsimp only at f6
 apply AW.rg hS [4]
 ·exact di1 (an pf_71 f6)
 refine AW.ret ?_
 cases h
 exact fin
set_option maxHeartbeats 4000000 in
theorem g_F26(c:AllG env [(S27 F27)]):GoodH env (S26 F26):=by
 obtain⟨O,X,hS,hX,hpf,hk⟩:=orcs (pf:=pfn) c
 have pf_27:O.pf 27=true:=pft hpf 27 rfl
 refine GH (fn:=Tryz.f26) fn_26 rfl rfl 10 rfl [] rfl ?_
 rintro(⟨a1,b2⟩:Port×Port) (r:Int) h m em
 refine GHs rfl rfl em rfl rfl rfl ?_
 clear em m
 replace h:F26 a1 b2=some r:=h
 rw[F26]at h
 refine AW.seq ?_
 apply AW.rg hS [2,3]
 ·exact di
 refine AW.seq ?_
 replace h:=obs h;obtain⟨r4,q5,h⟩:=h
 have f6:=(hk 0 27 rfl).ret (a1.name_,b2.name_) q5 rfl rfl
 try dsimp only at f6
 apply AW.rg hS [4]
 ·exact di1 (an pf_27 f6)
 refine AW.ret ?_
 cases h
 exact fin
set_option maxHeartbeats 4000000 in
theorem g_F135(c:AllG env [(S26 F26)]):GoodH env (S135 F135):=by
 obtain⟨O,X,hS,hX,hpf,hk⟩:=orcs (pf:=pfn) c
 have pf_26:O.pf 26=true:=pft hpf 26 rfl
 refine GH (fn:=Tryz.f135) fn_135 rfl rfl 53 rfl [] rfl ?_
 rintro(⟨a1,b2,l3⟩:Int×Int×(List Port)) (r:(List Port)) h m em
 refine GHs rfl rfl em rfl rfl rfl ?_
 clear em m
 replace h:F135 a1 b2 l3=some r:=h
 rw[F135]at h
 refine AW.seq ?_
 apply AW.rg hS [0,1,2,3,8]
 ·exact di
 refine AW.block ?_
 refine AW.lp (α:=Nat×Int×(List Port)) (fun(_,i5,l6)=>⟨sl [(0,.vec 0 (List.length l6)),(1,.pv (.int .i64 a1)),(2,.pv (.int .i64 b2)),(3,.fn 26 []),(8,.pv (.int .i64 i5))],53,[.row 83 3 (List.map Port.pv l6) false]⟩) (fun x=>iter (F135_b2 b2 a1) x.1 x.2=some r) (fun x=>x.1) (BIG,(IntKind.wrap .i64 (a1+1),l3)) (Weak.slots kp) h ?_
 clear h
 intro⟨n36,i5,l6⟩ h
 replace h:=iter_some h;obtain⟨m9,rfl,h⟩:=h
 rw[F135_b2]at h
 try dsimp only at h
 refine AW.st ?_
 refine AW.seq ?_
 refine AW.seq ?_
 apply AW.rg hS [0,1,2,3,8,14]
 ·exact di
 refine AW.iff_ h rfl rfl (fun hb10 h=>?_) (fun hb10 h=>?_)
 ·refine AW.skip ?_
  refine AW.seq ?_
  refine AW.block ?_
  refine AW.seq ?_
  apply AW.rg hS [0,1,2,3,8,9]
  ·exact di
  refine AW.block ?_
  refine AW.lp (α:=Nat×Int×(List Port)) (fun(_,j11,l12)=>⟨sl [(0,.vec 0 (List.length l12)),(1,.pv (.int .i64 a1)),(2,.pv (.int .i64 b2)),(3,.fn 26 []),(8,.pv (.int .i64 i5)),(9,.pv (.int .i64 j11))],53,[.row 83 3 (List.map Port.pv l12) false]⟩) (fun x=>iter (F135_b3 a1 (iter (F135_b2 b2 a1) m9) i5) x.1 x.2=some r) (fun x=>x.1) (BIG,(i5,l6)) (Weak.slots kp) h ?_
  clear h
  intro⟨n35,j11,l12⟩ h
  replace h:=iter_some h;obtain⟨m15,rfl,h⟩:=h
  rw[F135_b3]at h
  try dsimp only at h
  refine AW.st ?_
  refine AW.seq ?_
  refine AW.seq ?_
  replace h:=obs h;obtain⟨u16,q17,h⟩:=h
  have f18:=lidx_g (guardO_t q17)
  replace h:=obs h;obtain⟨u19,q20,h⟩:=h
  have f21:=lidx_g (guardO_t q20)
  replace h:=obs h;obtain⟨r22,q23,h⟩:=h
  replace q23:=guardO_t q23
  have f24:=fun hg=>(hk 0 26 rfl).ret (u16,u19) (q23 hg) rfl rfl
  try dsimp only at f24
  refine AW.dreg mixed hS (ordp hpf (by kernel_rfl)) [(0,.vec 0 (List.length l12)),(1,.pv (.int .i64 a1)),(2,.pv (.int .i64 b2)),(3,.fn 26 []),(8,.pv (.int .i64 i5)),(9,.pv (.int .i64 j11)),(34,.pv (.bool (decide (a1<j11)&&decide (r22<0))))] [.row 83 3 (List.map Port.pv l12) false] ?_ ?_
  ·clear h hk hpf hS hX c
   exact dh1 (an f18.1 (an f18.2.1 (an f18.2.2 (an f21.1 (an f21.2.1 (an f21.2.2 (an pf_26 f24)))))))
  refine AW.iff_ h rfl rfl (fun hb25 h=>?_) (fun hb25 h=>?_)
  ·refine AW.skip ?_
   refine AW.seq ?_
   refine AW.block ?_
   replace h:=obs h;obtain⟨u26,q27,h⟩:=h
   have f28:=lidx_f q27
   replace h:=obs h;obtain⟨u29,q30,h⟩:=h
   have f31:=lidx_f q30
   replace h:=obs h;obtain⟨u32,q33,h⟩:=h
   have f34:=lidx_f q33
   have f34m:(List.map Port.pv (List.set l12 (Int.toNat j11) u26))[Int.toNat (IntKind.wrap .i64 (j11-1))]?=some (Port.pv u32):=by rw[List.getElem?_map,f34.2.1];rfl
   try simp only[List.map_set,oPV_none,oPV_some,Attr.pv_eq,P22_eq,Plumb.pv_eq,Token.pv_eq,P50_eq,Redir.pv_eq,P51_eq,Cmd.pv_eq,P46_eq,Word.pv_eq,P54_eq,Var.pv_eq,P324_eq,GEnv.pv_eq,GValue.pv_eq,P59_eq,Qid.pv_eq,P66_eq,Dir.pv_eq,Msg.pv_eq,Call.pv_eq,P60_eq,Client.pv_eq,S274.pv_eq,S276.pv_eq,P81_eq,Port.pv_eq,Pattern.pv_eq,P153_eq,Rule.pv_eq,P29_eq,P30_eq,Plumber.pv_eq]at f34m
   refine AW.dregB mixed hS [(45,none),(49,none),(51,none),(52,none)] rfl (ordB hpf (B:=[(45,none),(49,none),(51,none),(52,none)]) (by kernel_rfl)) [(0,.vec 0 (List.length (List.set (List.set l12 (Int.toNat j11) u26) (Int.toNat (IntKind.wrap .i64 (j11-1))) u29))),(1,.pv (.int .i64 a1)),(2,.pv (.int .i64 b2)),(3,.fn 26 []),(8,.pv (.int .i64 i5)),(9,.pv (.int .i64 j11))] [.row 83 3 (List.map Port.pv (List.set (List.set l12 (Int.toNat j11) u26) (Int.toNat (IntKind.wrap .i64 (j11-1))) u29)) false] ?_ ?_
   ·exact dk1 (an f28.1 (an f28.2.1 (an f28.2.2 (an f31.1 (an f31.2.1 (an f31.2.2 (an f34.1 (an f34.2.1 (an f34.2.2 f34m)))))))))
   apply AW.rg hS [0,1,2,3,8,9]
   ·exact di
   exact⟨(m15,(IntKind.wrap .i64 (j11-1),List.set (List.set l12 (Int.toNat j11) u26) (Int.toNat (IntKind.wrap .i64 (j11-1))) u29)),h,(Weak.norm (m:=1) (Nat.le_of_ble_eq_true rfl) kp hq rfl rfl),Nat.lt_succ_self _⟩
  refine AW.exit ?_
  apply AW.rg hS [0,1,2,3,8]
  ·exact di
  exact⟨(m9,(IntKind.wrap .i64 (i5+1),l12)),h,(Weak.norm (m:=1) (Nat.le_of_ble_eq_true rfl) kp hq rfl rfl),Nat.lt_succ_self _⟩
 refine AW.exit ?_
 cases h
 exact fin
set_option maxHeartbeats 4000000 in
theorem g_F69(c:AllG env [(S135 F135)]):GoodH env (S69 F69):=by
 obtain⟨O,X,hS,hX,hpf,hk⟩:=orcs (pf:=pfn) c
 have pf_135:O.pf 135=false:=pft hpf 135 rfl
 refine GH (fn:=Tryz.f69) fn_69 rfl rfl 148 rfl [] rfl ?_
 rintro(⟨a1,b2,limit3,l4⟩:Int×Int×Int×(List Port)) (r:(List Port)) h m em
 refine GHs rfl rfl em rfl rfl rfl ?_
 clear em m
 replace h:F69 a1 b2 limit3 l4=some r:=h
 rw[F69]at h
 refine AW.seq ?_
 apply AW.rg hS [0,1,2,4]
 ·exact di
 refine AW.seq ?_
 apply AW.rg hS [0,1,2,4]
 ·exact di
 refine AW.block ?_
 refine AW.lp (α:=Nat×Unit) (fun(_,_)=>⟨sl [(0,.vec 0 (List.length l4)),(1,.pv (.int .i64 a1)),(2,.pv (.int .i64 b2)),(4,.fn 26 [])],148,[.row 83 3 (List.map Port.pv l4) false]⟩) (fun x=>iter (F69_b1 b2 a1 l4) x.1 x.2=some r) (fun x=>x.1) (BIG,()) (Weak.slots kp) h ?_
 clear h
 intro⟨n17,_⟩ h
 replace h:=iter_some h;obtain⟨m8,rfl,h⟩:=h
 rw[F69_b1]at h
 try dsimp only at h
 refine AW.st ?_
 refine AW.block ?_
 refine AW.seq ?_
 apply AW.rg hS [0,1,2,4,12]
 ·exact di
 refine AW.seq ?_
 refine AW.seq ?_
 apply AW.rg hS [0,1,2,4,25]
 ·exact di
 refine AW.iff_ h rfl rfl (fun hb9 h=>?_) (fun hb9 h=>?_)
 ·refine AW.seq ?_
  replace h:=obs h;obtain⟨o10,q11,h⟩:=h
  have f12:=(hk 0 135 rfl).ret (a1,b2,l4) q11 rfl rfl
  try dsimp only at f12
  replace h:=obs h;obtain⟨u13,q14,h⟩:=h
  have f15:=sameO_f q14
  have e16:ecall O [.row 83 3 (List.map Port.pv l4) false] 135 [.vec 0 (List.length l4),.pv (.int .i64 a1),.pv (.int .i64 b2),.fn 26 []]=some (retAV [],[.row 83 3 (List.map Port.pv o10) false]):=ecall_eq rfl rfl rfl f12 rfl rfl rfl
  try simp only[f15]at e16
  refine AW.reg hS [] [.row 83 3 (List.map Port.pv o10) false] ?_ ?_
  ·exact dk1 (an f15 (an pf_135 e16))
  refine AW.ret ?_
  cases h
  exact fin
 cases h
set_option maxHeartbeats 4000000 in
theorem g_F25(c:AllG env [(S70 F70),(S69 F69)]):GoodH env (S25 F25):=by
 obtain⟨O,X,hS,hX,hpf,hk⟩:=orcs (pf:=pfn) c
 have pf_69:O.pf 69=false:=pft hpf 69 rfl
 have pf_70:O.pf 70=true:=pft hpf 70 rfl
 refine GH (fn:=Tryz.f25) fn_25 rfl rfl 14 rfl [] rfl ?_
 rintro(l1:(List Port)) (r:(List Port)) h m em
 refine GHs rfl rfl em rfl rfl rfl ?_
 clear em m
 replace h:F25 l1=some r:=h
 rw[F25]at h
 refine AW.seq ?_
 apply AW.rg hS [0,1,4]
 ·exact di
 replace h:=obs h;obtain⟨r3,q4,h⟩:=h
 have f5:=(hk 0 70 rfl).ret (IntKind.wrap .u64 (l1.length:Int)) q4 rfl rfl
 try dsimp only at f5
 replace h:=obs h;obtain⟨o6,q7,h⟩:=h
 have f8:=(hk 1 69 rfl).ret (0,(l1.length:Int),r3,l1) q7 rfl rfl
 try dsimp only at f8
 replace h:=obs h;obtain⟨u9,q10,h⟩:=h
 have f11:=sameO_f q10
 have e12:ecall O [.row 83 3 (List.map Port.pv l1) false] 69 [.vec 0 (List.length l1),.pv (.int .i64 0),.pv (.int .i64 (l1.length:Int)),.pv (.int .i64 r3),.fn 26 []]=some (retAV [],[.row 83 3 (List.map Port.pv o6) false]):=ecall_eq rfl rfl rfl f8 rfl rfl rfl
 try simp only[f11]at e12
 refine AW.reg hS [] [.row 83 3 (List.map Port.pv o6) false] ?_ ?_
 ·simp -implicitDefEqProofs only[RUNS,qindex,Nat.reduceAdd,Nat.reduceLeDiff,Nat.reduceSub,reduceIte,Nat.reduceEqDiff,Nat.reduceLT,reduceCtorEq,Nat.reduceMul,Nat.reduceBEq,Int.reduceEq,Int.reduceToNat,Int.toNat_zero,Nat.sub_zero,if_true,if_false,eq_self,ne_eq,TYS,pf_70,f5,f11,pf_69,e12,qconv_ii T_3 T_152]<;>(try simp only[List.length_take,List.length_drop,List.length_map])
 cases h
 exact fin
set_option maxHeartbeats 4000000 in
theorem g_F6(c:AllG env [(S23 F23),(S24 F24),(S25 F25)]):GoodH env (S6 F6):=by
 obtain⟨O,X,hS,hX,hpf,hk⟩:=orcs (pf:=pfn) c
 have pf_23:O.pf 23=true:=pft hpf 23 rfl
 have pf_24:O.pf 24=true:=pft hpf 24 rfl
 have pf_25:O.pf 25=false:=pft hpf 25 rfl
 refine GH (fn:=Tryz.f6) fn_6 rfl rfl 40 rfl [] rfl ?_
 rintro(ports1:(List Str)) (r:Plumber×Int) h m em
 refine GHs rfl rfl em rfl rfl rfl ?_
 clear em m
 replace h:F6 ports1=some r:=h
 rw[F6]at h
 refine AW.seq ?_
 apply AW.rg hS [0,2]
 ·exact di
 refine AW.seq ?_
 refine AW.seq ?_
 apply AW.rg hS [0,2,9]
 ·exact di
 refine AW.iff_ h rfl rfl (fun hb4 h=>?_) (fun hb4 h=>?_)
 ·cases h
 refine AW.skip ?_
 refine AW.seq ?_
 refine AW.after ?_
 refine AW.reg hS [(0,.pv (.slice (List.map PV.str ports1))),(2,.ref 0 0),(4,.ref 1 0)] [.var [.nils,.nils],.var [.nils,.nils]] ?_ ?_
 ·exact dk
 refine⟨⟨sl [(0,.pv (.slice (List.map PV.str ports1))),(2,.ref 0 0),(4,.ref 1 0)],40,[.var [.nils,.nils],.var [.nils,.vec 2 (List.length ([]:List Port))],.row 83 3 (List.map Port.pv ([]:List Port)) false]⟩,(Weak.trans (Weak.ownC (σ:=⟨sl [(0,.pv (.slice (List.map PV.str ports1))),(2,.ref 0 0),(4,.ref 1 0)],40,[.var [.nils,.nils],.var [.nils,.nils]]⟩) 1 1 83 3 (by decide) (cs:=[.nils,.nils]) rfl rfl false) (Weak.slots (L:=[(0,.pv (.slice (List.map PV.str ports1))),(2,.ref 0 0),(4,.ref 1 0)]) ⟨rfl,rfl,rfl,trivial⟩)),?_⟩
 refine AW.seq ?_
 refine AW.seq ?_
 apply AW.rg hS [0,2,4,11,12,13]
 ·exact di
 refine AW.block ?_
 refine AW.lp (α:=Nat×Int×(List Port)) (fun(_,i5,l6)=>⟨sl [(0,.pv (.slice (List.map PV.str ports1))),(2,.ref 0 0),(4,.ref 1 0),(11,.pv (.slice (List.map PV.str ports1))),(12,.pv (.int .i64 (ports1.length:Int))),(13,.pv (.int .i64 i5))],40,[.var [.nils,.nils],.var [.nils,.vec 2 (List.length l6)],.row 83 3 (List.map Port.pv l6) false]⟩) (fun x=>iter (F6_b1 ports1) x.1 x.2=some r) (fun x=>x.1) (BIG,(0,([]:List Port))) (Weak.slots kp) h ?_
 clear h
 intro⟨n35,i5,l6⟩ h
 replace h:=iter_some h;obtain⟨m9,rfl,h⟩:=h
 rw[F6_b1]at h
 try dsimp only at h
 refine AW.st ?_
 refine AW.seq ?_
 apply AW.rg hS [0,2,4,11,12,13,14]
 ·exact di
 refine AW.seq ?_
 refine AW.iff_ h rfl rfl (fun hb10 h=>?_) (fun hb10 h=>?_)
 ·refine AW.skip ?_
  refine AW.seq ?_
  refine AW.block ?_
  refine AW.seq ?_
  replace h:=obs h;obtain⟨w11,q12,h⟩:=h
  have f13:=lidx_f q12
  apply AW.rg hS [0,2,4,5,6,11,12,13]
  ·exact di1 (an f13.1 f13.2.1)
  refine AW.seq ?_
  refine AW.seq ?_
  replace h:=obs h;obtain⟨r14,q15,h⟩:=h
  have f16:=(hk 0 23 rfl).ret w11 q15 rfl rfl
  try dsimp only at f16
  apply AW.rg hS [0,2,4,5,6,11,12,13,20]
  ·exact di1 (an pf_23 f16)
  refine AW.iff_ h rfl rfl (fun hb17 h=>?_) (fun hb17 h=>?_)
  ·cases h
  refine AW.skip ?_
  refine AW.seq ?_
  refine AW.seq ?_
  replace h:=obs h;obtain⟨l18,q19,h⟩:=h
  have f20:=lslicek_f q19
  try simp only[Int.toNat_natCast,Int.toNat_zero,Int.reduceToNat,Nat.sub_zero,List.drop_zero,List.length_map]at f20
  have f20l:=f20.2.2.1
  have f20m:=lslice_m PV.str q19
  try simp only[Int.toNat_natCast,Int.toNat_zero,Int.reduceToNat,Nat.sub_zero,List.drop_zero,List.length_map]at f20l f20m
  replace h:=obs h;obtain⟨r21,q22,h⟩:=h
  have f23:=(hk 1 24 rfl).ret (l18,w11) q22 rfl rfl
  try dsimp only at f23
  apply AW.rg hS [0,2,4,6,11,12,13,26]
  ·exact di1 (an f20.1 (an f20.2.1 (an f20l (an f20.2.2.2 (an f20m (an pf_24 f23))))))
  clear f20 f20l f20m
  refine AW.iff_ h rfl rfl (fun hb24 h=>?_) (fun hb24 h=>?_)
  ·cases h
  refine AW.skip ?_
  replace h:=obs h;obtain⟨out25,q26,h⟩:=h
  have f27:=appO_f q26
  try simp only[List.length_cons,List.length_nil,List.length_replicate,Nat.zero_add,Nat.reduceAdd,Nat.reduceLeDiff,Nat.add_zero,Nat.reduceMul]at f27
  have f27m:=appO_m Port.pv q26
  try simp only[List.map_cons,List.map_nil,List.nil_append,oPV_none,oPV_some,Attr.pv_eq,P22_eq,Plumb.pv_eq,Token.pv_eq,P50_eq,Redir.pv_eq,P51_eq,Cmd.pv_eq,P46_eq,Word.pv_eq,P54_eq,Var.pv_eq,P324_eq,GEnv.pv_eq,GValue.pv_eq,P59_eq,Qid.pv_eq,P66_eq,Dir.pv_eq,Msg.pv_eq,Call.pv_eq,P60_eq,Client.pv_eq,S274.pv_eq,S276.pv_eq,P81_eq,Port.pv_eq,Pattern.pv_eq,P153_eq,Rule.pv_eq,P29_eq,P30_eq,Plumber.pv_eq]at f27m
  have f27n:=appO_n q26
  try simp only[List.length_cons,List.length_nil,Nat.zero_add]at f27n
  refine AW.reg hS [(0,.pv (.slice (List.map PV.str ports1))),(2,.ref 0 0),(4,.ref 1 0),(11,.pv (.slice (List.map PV.str ports1))),(12,.pv (.int .i64 (ports1.length:Int))),(13,.pv (.int .i64 i5))] [.var [.nils,.nils],.var [.nils,.vec 2 (List.length out25)],.row 83 3 (List.map Port.pv out25) false] ?_ ?_
  ·exact dk1 (an f27.1 (an f27m f27n))
  clear f27
  clear f27m
  clear f27n
  apply AW.rg hS [0,2,4,11,12,13]
  ·exact di
  exact⟨(m9,(IntKind.wrap .i64 (i5+1),out25)),h,(Weak.norm (m:=3) (Nat.le_of_ble_eq_true rfl) kp hq rfl rfl),Nat.lt_succ_self _⟩
 refine AW.exit ?_
 refine AW.seq ?_
 replace h:=obs h;obtain⟨o28,q29,h⟩:=h
 have f30:=(hk 2 25 rfl).ret l6 q29 rfl rfl
 try dsimp only at f30
 replace h:=obs h;obtain⟨u31,q32,h⟩:=h
 have f33:=sameO_f q32
 have e34:ecall O [.var [.nils,.nils],.var [.nils,.vec 2 (List.length l6)],.row 83 3 (List.map Port.pv l6) false] 25 [.vec 2 (List.length l6),.fn 26 []]=some (retAV [],[.var [.nils,.nils],.var [.nils,.vec 2 (List.length l6)],.row 83 3 (List.map Port.pv o28) false]):=ecall_eq rfl rfl rfl f30 rfl rfl rfl
 try simp only[f33]at e34
 refine AW.reg hS [(2,.ref 0 0),(4,.ref 1 0)] [.var [.nils,.nils],.var [.nils,.vec 2 (List.length o28)],.row 83 3 (List.map Port.pv o28) false] ?_ ?_
 ·exact dk1 (an f33 (an pf_25 e34))
 refine AW.seq ?_
 refine AW.weak (Weak.cellPV 1 0 (cs:=[.nils,.vec 2 (List.length o28)]) (a:=.nils) (p:=.slice (List.map Rule.pv ([]:List Rule))) rfl rfl (by first|rfl|simp only[toPV,List.getElem?_cons_zero,List.getElem?_cons_succ,List.length_map,if_true,List.map_nil])) ?_
 refine AW.weak (σ':=⟨sl [(2,.ref 0 0),(4,.ref 1 0)],40,[.var [.nils,.nils],.var [.pv (.slice (List.map Rule.pv ([]:List Rule))),.vec 2 (List.length o28)],.row 83 3 (List.map Port.pv o28) false]⟩) (Weak.of_eq (Weak.slots (L:=[(2,.ref 0 0),(4,.ref 1 0)]) ⟨rfl,rfl,trivial⟩) (by first|rfl|(simp only[List.length_set,List.length_map];rfl))) ?_
 refine AW.weak (Weak.freeze 2 rfl) ?_
 refine AW.weak (σ':=⟨sl [(2,.ref 0 0),(4,.ref 1 0)],40,[.var [.nils,.nils],.var [.pv (.slice (List.map Rule.pv ([]:List Rule))),.vec 2 (List.length o28)],.row 83 3 (List.map Port.pv o28) true]⟩) (Weak.of_eq (Weak.slots (L:=[(2,.ref 0 0),(4,.ref 1 0)]) kp) (by first|rfl|(simp only[List.length_set,List.length_map];rfl))) ?_
 refine AW.weak (Weak.cellPV 1 1 (cs:=[.pv (.slice (List.map Rule.pv ([]:List Rule))),.vec 2 (List.length o28)]) (a:=.vec 2 (List.length o28)) (p:=.slice (List.map Port.pv o28)) rfl rfl (by first|rfl|simp only[toPV,List.getElem?_cons_zero,List.getElem?_cons_succ,List.length_map,if_true,List.map_nil])) ?_
 refine AW.weak (σ':=⟨sl [(2,.ref 0 0),(4,.ref 1 0)],40,[.var [.nils,.nils],.var [.pv (.slice (List.map Rule.pv ([]:List Rule))),.pv (.slice (List.map Port.pv o28))],.row 83 3 (List.map Port.pv o28) true]⟩) (Weak.of_eq (Weak.slots (L:=[(2,.ref 0 0),(4,.ref 1 0)]) ⟨rfl,rfl,trivial⟩) (by first|rfl|(simp only[List.length_set,List.length_map];rfl))) ?_
 apply AW.rg hS [2,3]
 ·exact di
 refine AW.ret ?_
 cases h
 exact fin
set_option maxHeartbeats 4000000 in
theorem g_F28(c:AllG env []):GoodH env (S28 F28):=by
 obtain⟨O,X,hS,hX,hpf,hk⟩:=orcs (pf:=pfn) c
 refine GH (fn:=Tryz.f28) fn_28 rfl rfl 15 rfl [] rfl ?_
 rintro(⟨p1,id2⟩:Plumber×Int) (r:Bool) h m em
 refine GHs rfl rfl em rfl rfl rfl ?_
 clear em m
 replace h:F28 p1 id2=some r:=h
 rw[F28]at h
 refine AW.seq ?_
 apply AW.rg hS [1,2]
 ·exact di
 refine AW.seq ?_
 refine AW.reg hS [(4,.pv (.bool (decide (1≤id2)&&decide (id2<IntKind.wrap .i64 (4+(p1.ports_.length:Int))))))] [.var [.pv (.slice (List.map Rule.pv p1.rules_)),.pv (.slice (List.map Port.pv p1.ports_))]] ?_ ?_
 ·clear h hk hpf hS hX c
  exact dh
 refine AW.ret ?_
 cases h
 exact fin
set_option maxHeartbeats 4000000 in
theorem g_F30(c:AllG env []):GoodH env (S30 F30):=by
 obtain⟨O,X,hS,hX,hpf,hk⟩:=orcs (pf:=pfn) c
 refine GH (fn:=Tryz.f30) fn_30 rfl rfl 8 rfl [] rfl ?_
 rintro(⟨x1,x2⟩:Port×Str) (r:Bool) h m em
 refine GHs rfl rfl em rfl rfl rfl ?_
 clear em m
 replace h:F30 x1 x2=some r:=h
 rw[F30]at h
 refine AW.seq ?_
 apply AW.rg hS [1,2]
 ·exact di
 refine AW.seq ?_
 apply AW.rg hS [3]
 ·exact di
 refine AW.ret ?_
 cases h
 exact fin
set_option maxHeartbeats 4000000 in
theorem g_F29(c:AllG env [(S30 F30)]):GoodH env (S29 F29):=by
 obtain⟨O,X,hS,hX,hpf,hk⟩:=orcs (pf:=pfn) c
 have pf_30:O.pf 30=false:=pft hpf 30 rfl
 refine GH (fn:=Tryz.f29) fn_29 rfl rfl 19 rfl [] rfl ?_
 rintro(⟨s1,x2⟩:(List Port)×Str) (r:Int) h m em
 refine GHs rfl rfl em rfl rfl rfl ?_
 clear em m
 replace h:F29 s1 x2=some r:=h
 rw[F29]at h
 refine AW.seq ?_
 apply AW.rg hS [0,1]
 ·exact di
 refine AW.seq ?_
 refine AW.seq ?_
 apply AW.rg hS [0,1,7,8]
 ·exact di
 refine AW.block ?_
 refine AW.lp (α:=Nat×Unit) (fun(_,_)=>⟨sl [(0,.pv (.slice (List.map Port.pv s1))),(1,.fn 30 [0]),(7,.pv (.int .i64 (s1.length:Int))),(8,.pv (.int .i64 0))],19,[.var [.pv (.str x2)]]⟩) (fun x=>iter (F29_b1 s1 x2) x.1 x.2=some r) (fun x=>x.1) (BIG,()) (Weak.slots kp) h ?_
 clear h
 intro⟨n16,_⟩ h
 replace h:=iter_some h;obtain⟨m6,rfl,h⟩:=h
 rw[F29_b1]at h
 try dsimp only at h
 refine AW.st ?_
 refine AW.seq ?_
 apply AW.rg hS [0,1,8,9]
 ·exact di
 refine AW.seq ?_
 refine AW.iff_ h rfl rfl (fun hb7 h=>?_) (fun hb7 h=>?_)
 ·refine AW.skip ?_
  refine AW.seq ?_
  refine AW.block ?_
  refine AW.seq ?_
  apply AW.rg hS [0,1,5]
  ·exact di
  refine AW.seq ?_
  replace h:=obs h;obtain⟨u8,q9,h⟩:=h
  have f10:=lidx_f q9
  try simp only[Int.toNat_natCast,Int.toNat_zero,Int.reduceToNat,Nat.sub_zero,List.drop_zero,List.length_map]at f10
  replace h:=obs h;obtain⟨r11,q12,h⟩:=h
  have f13:=(hk 0 30 rfl).ret (u8,x2) q12 rfl rfl
  try dsimp only at f13
  have e14:ecall O [.var [.pv (.str x2)]] 30 [.pv (.agg [.str u8.name_,oPV Plumb.pv u8.queue_,.int .i64 u8.opens_]),.ref 0 0]=some (retAV [.pv (.bool r11)],[.var [.pv (.str x2)]]):=ecall_eq rfl rfl rfl f13 rfl rfl rfl
  apply AW.rg hS [5,16]
  ·exact di1 (an f10.1 (an f10.2.1 (an pf_30 e14)))
  refine AW.iff_ h rfl rfl (fun hb15 h=>?_) (fun hb15 h=>?_)
  ·refine AW.seq ?_
   apply AW.rg hS [4]
   ·exact di
   refine AW.ret ?_
   cases h
   exact fin
  cases h
 cases h
set_option maxHeartbeats 4000000 in
theorem g_F7(c:AllG env [(S28 F28),(S29 F29)]):GoodH env (S7 F7):=by
 obtain⟨O,X,hS,hX,hpf,hk⟩:=orcs (pf:=pfn) c
 have pf_28:O.pf 28=true:=pft hpf 28 rfl
 have pf_29:O.pf 29=false:=pft hpf 29 rfl
 refine GH (fn:=Tryz.f7) fn_7 rfl rfl 32 rfl [] rfl ?_
 rintro(⟨p1,id2,name3⟩:Plumber×Int×Str) (r:Int×Int) h m em
 refine GHs rfl rfl em rfl rfl rfl ?_
 clear em m
 replace h:F7 p1 id2 name3=some r:=h
 rw[F7]at h
 refine AW.seq ?_
 apply AW.rg hS [1,3,5]
 ·exact di
 refine AW.seq ?_
 refine AW.block ?_
 refine AW.seq ?_
 replace h:=obs h;obtain⟨r6,q7,h⟩:=h
 have f8:=(hk 0 28 rfl).ret (p1,id2) q7 rfl rfl
 try dsimp only at f8
 apply AW.rg hS [1,3,5,9]
 ·exact di1 (an pf_28 f8)
 refine AW.iff_ h rfl rfl (fun hb9 h=>?_) (fun hb9 h=>?_)
 ·cases h
 refine AW.seq ?_
 apply AW.rg hS [3,5,14]
 ·exact di
 refine AW.iff_ h rfl rfl (fun hb10 h=>?_) (fun hb10 h=>?_)
 ·cases h
 refine AW.skip ?_
 refine AW.seq ?_
 refine AW.seq ?_
 apply AW.rg hS [3,5,17]
 ·exact di
 refine AW.block ?_
 refine AW.seq ?_
 apply AW.rg hS [3,5,17,18]
 ·exact di
 refine AW.iff_ h rfl rfl (fun hb11 h=>?_) (fun hb11 h=>?_)
 ·cases h
 refine AW.seq ?_
 apply AW.rg hS [3,5,17,20]
 ·exact di
 refine AW.iff_ h rfl rfl (fun hb12 h=>?_) (fun hb12 h=>?_)
 ·cases h
 refine AW.seq ?_
 apply AW.rg hS [3,5,22]
 ·exact di
 refine AW.iff_ h rfl rfl (fun hb13 h=>?_) (fun hb13 h=>?_)
 ·cases h
 refine AW.skip ?_
 refine AW.seq ?_
 replace h:=obs h;obtain⟨r14,q15,h⟩:=h
 have f16:=(hk 1 29 rfl).ret (p1.ports_,name3) q15 rfl rfl
 try dsimp only at f16
 have e17:ecall O [.var [.pv (.slice (List.map Rule.pv p1.rules_)),.pv (.slice (List.map Port.pv p1.ports_))],.var [.pv (.str name3)]] 29 [.pv (.slice (List.map Port.pv p1.ports_)),.fn 30 [1]]=some (retAV [.pv (.int .i64 r14)],[.var [.pv (.slice (List.map Rule.pv p1.rules_)),.pv (.slice (List.map Port.pv p1.ports_))],.var [.pv (.str name3)]]):=ecall_eq rfl rfl rfl f16 rfl rfl rfl
 apply AW.rg hS [8]
 ·exact di1 (an pf_29 e17)
 refine AW.seq ?_
 refine AW.seq ?_
 apply AW.rg hS [8,29]
 ·exact di
 refine AW.iff_ h rfl rfl (fun hb18 h=>?_) (fun hb18 h=>?_)
 ·cases h
 refine AW.skip ?_
 refine AW.seq ?_
 apply AW.rg hS [6,7]
 ·exact di
 refine AW.ret ?_
 cases h
 exact fin
set_option maxHeartbeats 4000000 in
theorem g_F73(c:AllG env [SL_CloneA]):GoodH env (S73 F73):=by
 obtain⟨O,X,hS,hX,hpf,hk⟩:=orcs (pf:=pfn) c
 have pf_146:O.pf 146=false:=pft hpf 146 rfl
 refine GH (fn:=Tryz.f73) fn_73 rfl rfl 8 rfl [] rfl ?_
 rintro(m1:Plumb) (r:Plumb) h m em
 refine GHs rfl rfl em rfl rfl rfl ?_
 clear em m
 replace h:F73 m1=some r:=h
 rw[F73]at h
 refine AW.seq ?_
 apply AW.rg hS [1,2]
 ·exact di
 refine AW.seq ?_
 replace h:=obs h;obtain⟨l3,q4,h⟩:=h
 have f5:=(hk 0 146 rfl).ret m1.attrs_ q4 rfl rfl
 try dsimp only at f5
 have e6:ecall O [.var [.pv (.str m1.src_),.pv (.str m1.dst_),.pv (.str m1.dir_),.pv (.str m1.type_),.pv (.slice (List.map Attr.pv m1.attrs_)),.pv (.str m1.data_)],.var [.pv (.str []),.pv (.str []),.pv (.str []),.pv (.str []),.nils,.pv (.str [])]] 146 [.pv (.slice (List.map Attr.pv m1.attrs_))]=some (retAV [.vec 2 (List.length l3)],[.var [.pv (.str m1.src_),.pv (.str m1.dst_),.pv (.str m1.dir_),.pv (.str m1.type_),.pv (.slice (List.map Attr.pv m1.attrs_)),.pv (.str m1.data_)],.var [.pv (.str []),.pv (.str []),.pv (.str []),.pv (.str []),.nils,.pv (.str [])],.row 137 3 (List.map Attr.pv l3) false]):=ecall_eq rfl rfl rfl f5 rfl rfl rfl
 apply AW.rg hS [1,2]
 ·exact di1 (an pf_146 e6)
 refine AW.seq ?_
 refine AW.weak (Weak.freeze 2 rfl) ?_
 refine AW.weak (σ':=⟨sl [(1,.ref 0 0),(2,.ref 1 0)],8,[.var [.pv (.str m1.src_),.pv (.str m1.dst_),.pv (.str m1.dir_),.pv (.str m1.type_),.vec 2 (List.length l3),.pv (.str m1.data_)],.var [.pv (.str []),.pv (.str []),.pv (.str []),.pv (.str []),.nils,.pv (.str [])],.row 137 3 (List.map Attr.pv l3) true]⟩) (Weak.of_eq (Weak.slots (L:=[(1,.ref 0 0),(2,.ref 1 0)]) kp) (by first|rfl|(simp only[List.length_set,List.length_map];rfl))) ?_
 refine AW.weak (Weak.cellPV 0 4 (cs:=[.pv (.str m1.src_),.pv (.str m1.dst_),.pv (.str m1.dir_),.pv (.str m1.type_),.vec 2 (List.length l3),.pv (.str m1.data_)]) (a:=.vec 2 (List.length l3)) (p:=.slice (List.map Attr.pv l3)) rfl rfl (by first|rfl|simp only[toPV,List.getElem?_cons_zero,List.getElem?_cons_succ,List.length_map,if_true,List.map_nil])) ?_
 refine AW.weak (σ':=⟨sl [(1,.ref 0 0),(2,.ref 1 0)],8,[.var [.pv (.str m1.src_),.pv (.str m1.dst_),.pv (.str m1.dir_),.pv (.str m1.type_),.pv (.slice (List.map Attr.pv l3)),.pv (.str m1.data_)],.var [.pv (.str []),.pv (.str []),.pv (.str []),.pv (.str []),.nils,.pv (.str [])],.row 137 3 (List.map Attr.pv l3) true]⟩) (Weak.of_eq (Weak.slots (L:=[(1,.ref 0 0),(2,.ref 1 0)]) ⟨rfl,rfl,trivial⟩) (by first|rfl|(simp only[List.length_set,List.length_map];rfl))) ?_
 apply AW.rg hS [2]
 ·exact di
 refine AW.ret ?_
 cases h
 exact fin
set_option maxHeartbeats 4000000 in
theorem g_F31(c:AllG env [(S73 F73)]):GoodH env (S31 F31):=by
 obtain⟨O,X,hS,hX,hpf,hk⟩:=orcs (pf:=pfn) c
 have pf_73:O.pf 73=true:=pft hpf 73 rfl
 refine GH (fn:=Tryz.f31) fn_31 rfl rfl 64 rfl [3] rfl ?_
 rintro(p1:Plumber) (r:(List Port)) h m em
 refine GHs rfl rfl em rfl rfl rfl ?_
 clear em m
 replace h:F31 p1=some r:=h
 rw[F31]at h
 refine AW.seq ?_
 apply AW.rg hS [1,2]
 ·exact di
 refine AW.seq ?_
 refine AW.after ?_
 refine AW.reg hS [(1,.ref 0 0),(2,.ref 1 0),(3,.ref 2 0)] [.var [.pv (.slice (List.map Rule.pv p1.rules_)),.pv (.slice (List.map Port.pv p1.ports_))],.var [.nils,.nils],.var [.nils,.nils]] ?_ ?_
 ·exact dk
 refine⟨⟨sl [(1,.ref 0 0),(2,.ref 1 0),(3,.ref 2 0)],64,[.var [.pv (.slice (List.map Rule.pv p1.rules_)),.pv (.slice (List.map Port.pv p1.ports_))],.var [.nils,.nils],.var [.nils,.vec 3 (List.length ([]:List Port))],.row 83 3 (List.map Port.pv ([]:List Port)) false]⟩,(Weak.trans (Weak.ownC (σ:=⟨sl [(1,.ref 0 0),(2,.ref 1 0),(3,.ref 2 0)],64,[.var [.pv (.slice (List.map Rule.pv p1.rules_)),.pv (.slice (List.map Port.pv p1.ports_))],.var [.nils,.nils],.var [.nils,.nils]]⟩) 2 1 83 3 (by decide) (cs:=[.nils,.nils]) rfl rfl false) (Weak.slots (L:=[(1,.ref 0 0),(2,.ref 1 0),(3,.ref 2 0)]) ⟨rfl,rfl,rfl,trivial⟩)),?_⟩
 refine AW.seq ?_
 refine AW.seq ?_
 apply AW.rg hS [1,2,3,14,15]
 ·exact di
 refine AW.block ?_
 refine AW.lp (α:=Nat×Unit) (fun(_,_)=>⟨sl [(1,.ref 0 0),(2,.ref 1 0),(3,.ref 2 0),(14,.pv (.int .i64 (p1.rules_.length:Int))),(15,.pv (.int .i64 0))],64,[.var [.pv (.slice (List.map Rule.pv p1.rules_)),.pv (.slice (List.map Port.pv p1.ports_))],.var [.nils,.nils],.var [.nils,.vec 3 (List.length ([]:List Port))],.row 83 3 (List.map Port.pv ([]:List Port)) false]⟩) (fun x=>iter (F31_b1 p1) x.1 x.2=some r) (fun x=>x.1) (BIG,()) (Weak.slots kp) h ?_
 clear h
 intro⟨n57,_⟩ h
 replace h:=iter_some h;obtain⟨m5,rfl,h⟩:=h
 rw[F31_b1]at h
 try dsimp only at h
 refine AW.st ?_
 refine AW.seq ?_
 apply AW.rg hS [1,2,3,16]
 ·exact di
 refine AW.seq ?_
 refine AW.iff_ h rfl rfl (fun hb6 h=>?_) (fun hb6 h=>?_)
 ·cases h
 refine AW.exit ?_
 refine AW.seq ?_
 refine AW.seq ?_
 apply AW.rg hS [2,3,30,31,32]
 ·exact di
 refine AW.block ?_
 refine AW.lp (α:=Nat×Int×(List Port)) (fun(_,i7,l8)=>⟨sl [(2,.ref 1 0),(3,.ref 2 0),(30,.pv (.slice (List.map Port.pv p1.ports_))),(31,.pv (.int .i64 (p1.ports_.length:Int))),(32,.pv (.int .i64 i7))],64,[.var [.pv (.slice (List.map Rule.pv p1.rules_)),.pv (.slice (List.map Port.pv p1.ports_))],.var [.nils,.nils],.var [.nils,.vec 3 (List.length l8)],.row 83 3 (List.map Port.pv l8) false]⟩) (fun x=>iter (F31_b3 p1) x.1 x.2=some r) (fun x=>x.1) (BIG,(0,([]:List Port))) (Weak.slots kp) h ?_
 clear h
 intro⟨n56,i7,l8⟩ h
 replace h:=iter_some h;obtain⟨m11,rfl,h⟩:=h
 rw[F31_b3]at h
 try dsimp only at h
 refine AW.st ?_
 refine AW.seq ?_
 apply AW.rg hS [2,3,30,31,32,33]
 ·exact di
 refine AW.seq ?_
 refine AW.iff_ h rfl rfl (fun hb12 h=>?_) (fun hb12 h=>?_)
 ·refine AW.skip ?_
  refine AW.seq ?_
  refine AW.block ?_
  refine AW.seq ?_
  replace h:=obs h;obtain⟨u13,q14,h⟩:=h
  have f15:=lidx_f q14
  apply AW.rg hS [2,3,7,30,31,32]
  ·exact di1 (an f15.1 f15.2.1)
  refine AW.seq ?_
  apply AW.rg hS [2,3,7,8,30,31,32]
  ·exact di
  refine AW.seq ?_
  refine AW.seq ?_
  apply AW.rg hS [2,3,8,30,31,32,42,43,44]
  ·simp -implicitDefEqProofs only[RUNS,qindex,Nat.reduceAdd,Nat.reduceLeDiff,Nat.reduceSub,reduceIte,Nat.reduceEqDiff,Nat.reduceLT,reduceCtorEq,Nat.reduceMul,Nat.reduceBEq,Int.reduceEq,Int.reduceToNat,Int.toNat_zero,Nat.sub_zero,if_true,if_false,eq_self,ne_eq,pick_nil,pick_cons,leavesK_some,TYS,qlen_o T_81];exact⟨rfl,rfl⟩
  refine AW.block ?_
  refine AW.lp1 (α:=Nat×Int×Str×Str×Str×Str×(List Attr)×Str×(List Plumb)) (fun(_,i16,x17,x18,x19,x20,x21,x22,l23)=>⟨sl [(2,.ref 1 0),(3,.ref 2 0),(8,.ref 5 0),(30,.pv (.slice (List.map Port.pv p1.ports_))),(31,.pv (.int .i64 (p1.ports_.length:Int))),(32,.pv (.int .i64 i7)),(42,.pv (oPV Plumb.pv u13.queue_)),(43,.pv (.int .i64 ((u13.queue_.getD []).length:Int))),(44,.pv (.int .i64 i16))],64,[.var [.pv (.slice (List.map Rule.pv p1.rules_)),.pv (.slice (List.map Port.pv p1.ports_))],.var [.nils,.nils],.var [.nils,.vec 3 (List.length l8)],.row 83 3 (List.map Port.pv l8) false,.var [.pv (.str u13.name_),.pv (oPV Plumb.pv u13.queue_),.pv (.int .i64 u13.opens_)],.var [.pv (.str u13.name_),.vec 7 (List.length l23),.pv (.int .i64 u13.opens_)],.var [.pv (.str x17),.pv (.str x18),.pv (.str x19),.pv (.str x20),.pv (.slice (List.map Attr.pv x21)),.pv (.str x22)],.row 24 6 (List.map Plumb.pv l23) true]⟩) (fun x=>iter (F31_b4 u13 l8 (iter (F31_b3 p1) m11) i7) x.1 x.2=some r) (fun x=>x.1) ?_ ?_
  ·refine AW.seq ?_
   apply AW.rg hS [2,3,8,30,31,32,42,43,44,45]
   ·exact di
   refine AW.seq ?_
   refine AW.iff_ h rfl rfl (fun hb42 h=>?_) (fun hb42 h=>?_)
   ·refine AW.skip ?_
    refine AW.seq ?_
    refine AW.block ?_
    refine AW.seq ?_
    replace h:=obs h;obtain⟨u43,q44,h⟩:=h
    have f45:=lidx_f q44
    try simp only[Int.toNat_natCast,Int.toNat_zero,Int.reduceToNat,Nat.sub_zero,List.drop_zero,List.length_map]at f45
    have f46:=oPV_idx (f:=Plumb.pv) f45.2.1
    refine AW.reg hS [(2,.ref 1 0),(3,.ref 2 0),(8,.ref 5 0),(10,.ref 6 0),(30,.pv (.slice (List.map Port.pv p1.ports_))),(31,.pv (.int .i64 (p1.ports_.length:Int))),(32,.pv (.int .i64 i7)),(42,.pv (oPV Plumb.pv u13.queue_)),(43,.pv (.int .i64 ((u13.queue_.getD []).length:Int))),(44,.pv (.int .i64 0))] [.var [.pv (.slice (List.map Rule.pv p1.rules_)),.pv (.slice (List.map Port.pv p1.ports_))],.var [.nils,.nils],.var [.nils,.vec 3 (List.length l8)],.row 83 3 (List.map Port.pv l8) false,.var [.pv (.str u13.name_),.pv (oPV Plumb.pv u13.queue_),.pv (.int .i64 u13.opens_)],.var [.pv (.str u13.name_),.pv (.snil),.pv (.int .i64 u13.opens_)],.var [.pv (.str u43.src_),.pv (.str u43.dst_),.pv (.str u43.dir_),.pv (.str u43.type_),.pv (.slice (List.map Attr.pv u43.attrs_)),.pv (.str u43.data_)]] ?_ ?_
    ·exact dk1 (an f46 (an f45.1 f45.2.1))
    replace h:=obs h;obtain⟨r47,q48,h⟩:=h
    have f49:=(hk 0 73 rfl).ret u43 q48 rfl rfl
    try dsimp only at f49
    replace h:=obs h;obtain⟨out50,q51,h⟩:=h
    have f52:=appO_f q51
    try simp only[List.length_cons,List.length_nil,List.length_replicate,Nat.zero_add,Nat.reduceAdd,Nat.reduceLeDiff,Nat.add_zero,Nat.reduceMul]at f52
    have f52m:=appO_m Plumb.pv q51
    try simp only[List.map_cons,List.map_nil,List.nil_append,oPV_none,oPV_some,Attr.pv_eq,P22_eq,Plumb.pv_eq,Token.pv_eq,P50_eq,Redir.pv_eq,P51_eq,Cmd.pv_eq,P46_eq,Word.pv_eq,P54_eq,Var.pv_eq,P324_eq,GEnv.pv_eq,GValue.pv_eq,P59_eq,Qid.pv_eq,P66_eq,Dir.pv_eq,Msg.pv_eq,Call.pv_eq,P60_eq,Client.pv_eq,S274.pv_eq,S276.pv_eq,P81_eq,Port.pv_eq,Pattern.pv_eq,P153_eq,Rule.pv_eq,P29_eq,P30_eq,Plumber.pv_eq]at f52m
    have f52n:=appO_n q51
    try simp only[List.length_cons,List.length_nil,Nat.zero_add]at f52n
    refine AW.dregB mixed hS [(8,some 5),(10,some 6),(48,some 5),(54,some 5)] rfl (ordB hpf (B:=[(8,some 5),(10,some 6),(48,some 5),(54,some 5)]) (by kernel_rfl)) [(2,.ref 1 0),(3,.ref 2 0),(8,.ref 5 0),(30,.pv (.slice (List.map Port.pv p1.ports_))),(31,.pv (.int .i64 (p1.ports_.length:Int))),(32,.pv (.int .i64 i7)),(42,.pv (oPV Plumb.pv u13.queue_)),(43,.pv (.int .i64 ((u13.queue_.getD []).length:Int))),(44,.pv (.int .i64 0))] [.var [.pv (.slice (List.map Rule.pv p1.rules_)),.pv (.slice (List.map Port.pv p1.ports_))],.var [.nils,.nils],.var [.nils,.vec 3 (List.length l8)],.row 83 3 (List.map Port.pv l8) false,.var [.pv (.str u13.name_),.pv (oPV Plumb.pv u13.queue_),.pv (.int .i64 u13.opens_)],.var [.pv (.str u13.name_),.vec 7 (List.length out50),.pv (.int .i64 u13.opens_)],.var [.pv (.str u43.src_),.pv (.str u43.dst_),.pv (.str u43.dir_),.pv (.str u43.type_),.pv (.slice (List.map Attr.pv u43.attrs_)),.pv (.str u43.data_)],.row 24 6 (List.map Plumb.pv out50) true] ?_ ?_
    ·exact dk1 (an pf_73 (an f49 (an f52.1 (an f52m f52n))))
    clear f52
    clear f52m
    clear f52n
    apply AW.rg hS [2,3,8,30,31,32,42,43,44]
    ·exact di
    exact⟨(BIG,(IntKind.wrap .i64 (0+1),u43.src_,u43.dst_,u43.dir_,u43.type_,u43.attrs_,u43.data_,out50)),h,(Weak.norm (m:=8) (Nat.le_of_ble_eq_true rfl) kp hq rfl rfl)⟩
   refine AW.exit ?_
   replace h:=obs h;obtain⟨out53,q54,h⟩:=h
   have f55:=appO_f q54
   try simp only[List.length_cons,List.length_nil,List.length_replicate,Nat.zero_add,Nat.reduceAdd,Nat.reduceLeDiff,Nat.add_zero,Nat.reduceMul]at f55
   have f55m:=appO_m Port.pv q54
   try simp only[List.map_cons,List.map_nil,List.nil_append,oPV_none,oPV_some,Attr.pv_eq,P22_eq,Plumb.pv_eq,Token.pv_eq,P50_eq,Redir.pv_eq,P51_eq,Cmd.pv_eq,P46_eq,Word.pv_eq,P54_eq,Var.pv_eq,P324_eq,GEnv.pv_eq,GValue.pv_eq,P59_eq,Qid.pv_eq,P66_eq,Dir.pv_eq,Msg.pv_eq,Call.pv_eq,P60_eq,Client.pv_eq,S274.pv_eq,S276.pv_eq,P81_eq,Port.pv_eq,Pattern.pv_eq,P153_eq,Rule.pv_eq,P29_eq,P30_eq,Plumber.pv_eq]at f55m
   have f55n:=appO_n q54
   try simp only[List.length_cons,List.length_nil,Nat.zero_add]at f55n
   refine AW.reg hS [(2,.ref 1 0),(3,.ref 2 0),(30,.pv (.slice (List.map Port.pv p1.ports_))),(31,.pv (.int .i64 (p1.ports_.length:Int))),(32,.pv (.int .i64 i7))] [.var [.pv (.slice (List.map Rule.pv p1.rules_)),.pv (.slice (List.map Port.pv p1.ports_))],.var [.nils,.nils],.var [.nils,.vec 3 (List.length out53)],.row 83 3 (List.map Port.pv out53) false,.var [.pv (.str u13.name_),.pv (oPV Plumb.pv u13.queue_),.pv (.int .i64 u13.opens_)],.var [.pv (.str u13.name_),.pv (.snil),.pv (.int .i64 u13.opens_)]] ?_ ?_
   ·exact dk1 (an f55.1 (an f55m f55n))
   clear f55
   clear f55m
   clear f55n
   apply AW.rg hS [2,3,30,31,32]
   ·exact di
   exact⟨(m11,(IntKind.wrap .i64 (i7+1),out53)),h,(Weak.norm (m:=4) (Nat.le_of_ble_eq_true rfl) kp hq rfl rfl),Nat.lt_succ_self _⟩
  clear h
  intro⟨n41,i16,x17,x18,x19,x20,x21,x22,l23⟩ h
  replace h:=iter_some h;obtain⟨m26,rfl,h⟩:=h
  rw[F31_b4]at h
  try dsimp only at h
  refine AW.st ?_
  refine AW.seq ?_
  apply AW.rg hS [2,3,8,30,31,32,42,43,44,45]
  ·exact di
  refine AW.seq ?_
  refine AW.iff_ h rfl rfl (fun hb27 h=>?_) (fun hb27 h=>?_)
  ·refine AW.skip ?_
   refine AW.seq ?_
   refine AW.block ?_
   refine AW.seq ?_
   replace h:=obs h;obtain⟨u28,q29,h⟩:=h
   have f30:=lidx_f q29
   have f31:=oPV_idx (f:=Plumb.pv) f30.2.1
   refine AW.reg hS [(2,.ref 1 0),(3,.ref 2 0),(8,.ref 5 0),(10,.ref 8 0),(30,.pv (.slice (List.map Port.pv p1.ports_))),(31,.pv (.int .i64 (p1.ports_.length:Int))),(32,.pv (.int .i64 i7)),(42,.pv (oPV Plumb.pv u13.queue_)),(43,.pv (.int .i64 ((u13.queue_.getD []).length:Int))),(44,.pv (.int .i64 i16))] [.var [.pv (.slice (List.map Rule.pv p1.rules_)),.pv (.slice (List.map Port.pv p1.ports_))],.var [.nils,.nils],.var [.nils,.vec 3 (List.length l8)],.row 83 3 (List.map Port.pv l8) false,.var [.pv (.str u13.name_),.pv (oPV Plumb.pv u13.queue_),.pv (.int .i64 u13.opens_)],.var [.pv (.str u13.name_),.vec 7 (List.length l23),.pv (.int .i64 u13.opens_)],.var [.pv (.str x17),.pv (.str x18),.pv (.str x19),.pv (.str x20),.pv (.slice (List.map Attr.pv x21)),.pv (.str x22)],.row 24 6 (List.map Plumb.pv l23) true,.var [.pv (.str u28.src_),.pv (.str u28.dst_),.pv (.str u28.dir_),.pv (.str u28.type_),.pv (.slice (List.map Attr.pv u28.attrs_)),.pv (.str u28.data_)]] ?_ ?_
   ·exact dk1 (an f31 (an f30.1 f30.2.1))
   replace h:=obs h;obtain⟨r32,q33,h⟩:=h
   have f34:=(hk 0 73 rfl).ret u28 q33 rfl rfl
   try dsimp only at f34
   replace h:=obs h;obtain⟨out35,q36,h⟩:=h
   have f37:=appO_f q36
   try simp only[List.length_cons,List.length_nil,List.length_replicate,Nat.zero_add,Nat.reduceAdd,Nat.reduceLeDiff,Nat.add_zero,Nat.reduceMul]at f37
   have f37m:=appO_m Plumb.pv q36
   try simp only[List.map_cons,List.map_nil,List.nil_append,oPV_none,oPV_some,Attr.pv_eq,P22_eq,Plumb.pv_eq,Token.pv_eq,P50_eq,Redir.pv_eq,P51_eq,Cmd.pv_eq,P46_eq,Word.pv_eq,P54_eq,Var.pv_eq,P324_eq,GEnv.pv_eq,GValue.pv_eq,P59_eq,Qid.pv_eq,P66_eq,Dir.pv_eq,Msg.pv_eq,Call.pv_eq,P60_eq,Client.pv_eq,S274.pv_eq,S276.pv_eq,P81_eq,Port.pv_eq,Pattern.pv_eq,P153_eq,Rule.pv_eq,P29_eq,P30_eq,Plumber.pv_eq]at f37m
   have f37n:=appO_n q36
   try simp only[List.length_cons,List.length_nil,Nat.zero_add]at f37n
   refine AW.dregB mixed hS [(8,some 5),(10,some 8),(48,some 5),(54,some 5)] rfl (ordB hpf (B:=[(8,some 5),(10,some 8),(48,some 5),(54,some 5)]) (by kernel_rfl)) [(2,.ref 1 0),(3,.ref 2 0),(8,.ref 5 0),(30,.pv (.slice (List.map Port.pv p1.ports_))),(31,.pv (.int .i64 (p1.ports_.length:Int))),(32,.pv (.int .i64 i7)),(42,.pv (oPV Plumb.pv u13.queue_)),(43,.pv (.int .i64 ((u13.queue_.getD []).length:Int))),(44,.pv (.int .i64 i16))] [.var [.pv (.slice (List.map Rule.pv p1.rules_)),.pv (.slice (List.map Port.pv p1.ports_))],.var [.nils,.nils],.var [.nils,.vec 3 (List.length l8)],.row 83 3 (List.map Port.pv l8) false,.var [.pv (.str u13.name_),.pv (oPV Plumb.pv u13.queue_),.pv (.int .i64 u13.opens_)],.var [.pv (.str u13.name_),.vec 7 (List.length out35),.pv (.int .i64 u13.opens_)],.var [.pv (.str x17),.pv (.str x18),.pv (.str x19),.pv (.str x20),.pv (.slice (List.map Attr.pv x21)),.pv (.str x22)],.row 24 6 (List.map Plumb.pv out35) true,.var [.pv (.str u28.src_),.pv (.str u28.dst_),.pv (.str u28.dir_),.pv (.str u28.type_),.pv (.slice (List.map Attr.pv u28.attrs_)),.pv (.str u28.data_)]] ?_ ?_
   ·exact dk1 (an pf_73 (an f34 (an f37.1 (an f37m f37n))))
   clear f37
   clear f37m
   clear f37n
   apply AW.rg hS [2,3,8,30,31,32,42,43,44]
   ·exact di
   exact⟨(m26,(IntKind.wrap .i64 (i16+1),x17,x18,x19,x20,x21,x22,out35)),h,(Weak.norm (m:=8) (Nat.le_of_ble_eq_true rfl) kp hq rfl rfl),Nat.lt_succ_self _⟩
  refine AW.exit ?_
  replace h:=obs h;obtain⟨out38,q39,h⟩:=h
  have f40:=appO_f q39
  try simp only[List.length_cons,List.length_nil,List.length_replicate,Nat.zero_add,Nat.reduceAdd,Nat.reduceLeDiff,Nat.add_zero,Nat.reduceMul]at f40
  have f40m:=appO_m Port.pv q39
  try simp only[List.map_cons,List.map_nil,List.nil_append,oPV_none,oPV_some,Attr.pv_eq,P22_eq,Plumb.pv_eq,Token.pv_eq,P50_eq,Redir.pv_eq,P51_eq,Cmd.pv_eq,P46_eq,Word.pv_eq,P54_eq,Var.pv_eq,P324_eq,GEnv.pv_eq,GValue.pv_eq,P59_eq,Qid.pv_eq,P66_eq,Dir.pv_eq,Msg.pv_eq,Call.pv_eq,P60_eq,Client.pv_eq,S274.pv_eq,S276.pv_eq,P81_eq,Port.pv_eq,Pattern.pv_eq,P153_eq,Rule.pv_eq,P29_eq,P30_eq,Plumber.pv_eq]at f40m
  have f40n:=appO_n q39
  try simp only[List.length_cons,List.length_nil,Nat.zero_add]at f40n
  refine AW.reg hS [(2,.ref 1 0),(3,.ref 2 0),(30,.pv (.slice (List.map Port.pv p1.ports_))),(31,.pv (.int .i64 (p1.ports_.length:Int))),(32,.pv (.int .i64 i7))] [.var [.pv (.slice (List.map Rule.pv p1.rules_)),.pv (.slice (List.map Port.pv p1.ports_))],.var [.nils,.nils],.var [.nils,.vec 3 (List.length out38)],.row 83 3 (List.map Port.pv out38) false,.var [.pv (.str u13.name_),.pv (oPV Plumb.pv u13.queue_),.pv (.int .i64 u13.opens_)],.var [.pv (.str u13.name_),.vec 7 (List.length l23),.pv (.int .i64 u13.opens_)],.var [.pv (.str x17),.pv (.str x18),.pv (.str x19),.pv (.str x20),.pv (.slice (List.map Attr.pv x21)),.pv (.str x22)],.row 24 6 (List.map Plumb.pv l23) true] ?_ ?_
  ·exact dk1 (an f40.1 (an f40m f40n))
  clear f40
  clear f40m
  clear f40n
  apply AW.rg hS [2,3,30,31,32]
  ·exact di
  exact⟨(m11,(IntKind.wrap .i64 (i7+1),out38)),h,(Weak.norm (m:=4) (Nat.le_of_ble_eq_true rfl) kp hq rfl rfl),Nat.lt_succ_self _⟩
 refine AW.exit ?_
 refine AW.seq ?_
 apply AW.rg hS [2]
 ·exact di
 refine AW.ret ?_
 cases h
 exact fin
set_option maxHeartbeats 4000000 in
theorem g_F32(c:AllG env []):GoodH env (S32 F32):=by
 obtain⟨O,X,hS,hX,hpf,hk⟩:=orcs (pf:=pfn) c
 refine GH (fn:=Tryz.f32) fn_32 rfl rfl 24 rfl [] rfl ?_
 rintro(⟨id1,base2⟩:Int×Int) (r:Bool) h m em
 refine GHs rfl rfl em rfl rfl rfl ?_
 clear em m
 replace h:F32 id1 base2=some r:=h
 rw[F32]at h
 refine AW.seq ?_
 apply AW.rg hS [0,1]
 ·exact di
 refine AW.seq ?_
 refine AW.seq ?_
 apply AW.rg hS [1,5]
 ·exact di
 refine AW.block ?_
 refine AW.seq ?_
 apply AW.rg hS [1,5,6]
 ·exact di
 refine AW.iff_ h rfl rfl (fun hb4 h=>?_) (fun hb4 h=>?_)
 ·cases h
 refine AW.seq ?_
 apply AW.rg hS [1,18]
 ·exact di
 refine AW.iff_ h rfl rfl (fun hb5 h=>?_) (fun hb5 h=>?_)
 ·cases h
 refine AW.skip ?_
 refine AW.seq ?_
 apply AW.rg hS [4]
 ·exact di
 refine AW.ret ?_
 cases h
 exact fin
set_option maxHeartbeats 4000000 in
theorem g_F8(c:AllG env [(S31 F31),(S28 F28),(S32 F32)]):GoodH env (S8 F8):=by
 obtain⟨O,X,hS,hX,hpf,hk⟩:=orcs (pf:=pfn) c
 have pf_28:O.pf 28=true:=pft hpf 28 rfl
 have pf_31:O.pf 31=false:=pft hpf 31 rfl
 have pf_32:O.pf 32=true:=pft hpf 32 rfl
 refine GH (fn:=Tryz.f8) fn_8 rfl rfl 76 rfl [] rfl ?_
 rintro(⟨p1,id2,mode3⟩:Plumber×Int×Int) (r:Plumber×Int) h m em
 refine GHs rfl rfl em rfl rfl rfl ?_
 clear em m
 replace h:F8 p1 id2 mode3=some r:=h
 rw[F8]at h
 refine AW.seq ?_
 apply AW.rg hS [1,2,3,6]
 ·exact di
 refine AW.seq ?_
 replace h:=obs h;obtain⟨r6,q7,h⟩:=h
 have f8:=(hk 0 31 rfl).ret p1 q7 rfl rfl
 try dsimp only at f8
 have e9:ecall O [.var [.pv (.slice (List.map Rule.pv p1.rules_)),.pv (.slice (List.map Port.pv p1.ports_))],.var [.nils,.nils]] 31 [.pv (.agg [.slice (List.map Rule.pv p1.rules_),.slice (List.map Port.pv p1.ports_)])]=some (retAV [.agg [.nils,.vec 2 (List.length r6)]],[.var [.pv (.slice (List.map Rule.pv p1.rules_)),.pv (.slice (List.map Port.pv p1.ports_))],.var [.nils,.nils],.row 83 3 (List.map Port.pv r6) false]):=ecall_eq rfl rfl rfl f8 rfl rfl rfl
 apply AW.rg hS [1,2,3,6,8]
 ·exact di1 (an pf_31 e9)
 refine AW.seq ?_
 apply AW.rg hS [1,2,3,6,8,9]
 ·exact di
 refine AW.seq ?_
 refine AW.block ?_
 refine AW.seq ?_
 replace h:=obs h;obtain⟨r10,q11,h⟩:=h
 have f12:=(hk 1 28 rfl).ret (p1,id2) q11 rfl rfl
 try dsimp only at f12
 apply AW.rg hS [1,2,6,8,9,14]
 ·exact di1 (an pf_28 f12)
 refine AW.iff_ h rfl rfl (fun hb13 h=>?_) (fun hb13 h=>?_)
 ·cases h
 refine AW.seq ?_
 refine AW.reg hS [(1,.pv (.int .i64 id2)),(2,.pv (.int .i64 mode3)),(6,.ref 1 0),(8,.ref 3 0),(9,.pv (.int .i64 (bits .andNot .i64 mode3 80))),(20,.pv (.bool (decide (bits .andNot .i64 mode3 80<0)||decide (3<bits .andNot .i64 mode3 80))))] [.var [.pv (.slice (List.map Rule.pv p1.rules_)),.pv (.slice (List.map Port.pv p1.ports_))],.var [.nils,.nils],.row 83 3 (List.map Port.pv r6) false,.var [.nils,.vec 2 (List.length r6)]] ?_ ?_
 ·clear h hk hpf hS hX c
  exact dh
 refine AW.iff_ h rfl rfl (fun hb14 h=>?_) (fun hb14 h=>?_)
 ·cases h
 refine AW.seq ?_
 refine AW.reg hS [(1,.pv (.int .i64 id2)),(2,.pv (.int .i64 mode3)),(6,.ref 1 0),(8,.ref 3 0),(9,.pv (.int .i64 (bits .andNot .i64 mode3 80))),(28,.pv (.bool (decide (id2=1)&&!decide (mode3=0))))] [.var [.pv (.slice (List.map Rule.pv p1.rules_)),.pv (.slice (List.map Port.pv p1.ports_))],.var [.nils,.nils],.row 83 3 (List.map Port.pv r6) false,.var [.nils,.vec 2 (List.length r6)]] ?_ ?_
 ·clear h hk hpf hS hX c
  exact dh
 refine AW.iff_ h rfl rfl (fun hb15 h=>?_) (fun hb15 h=>?_)
 ·cases h
 refine AW.seq ?_
 apply AW.rg hS [1,2,6,8,9,36]
 ·exact di
 refine AW.iff_ h rfl rfl (fun hb16 h=>?_) (fun hb16 h=>?_)
 ·cases h
 refine AW.seq ?_
 replace h:=obs h;obtain⟨r17,q18,h⟩:=h
 replace q18:=guardO_t q18
 have f19:=fun hg=>(hk 2 32 rfl).ret (id2,bits .andNot .i64 mode3 80) (q18 hg) rfl rfl
 try dsimp only at f19
 refine AW.reg hS [(1,.pv (.int .i64 id2)),(6,.ref 1 0),(8,.ref 3 0),(40,.pv (.bool (!decide (bits .and .i64 mode3 64=0)||!r17)))] [.var [.pv (.slice (List.map Rule.pv p1.rules_)),.pv (.slice (List.map Port.pv p1.ports_))],.var [.nils,.nils],.row 83 3 (List.map Port.pv r6) false,.var [.nils,.vec 2 (List.length r6)]] ?_ ?_
 ·clear h hk hpf hS hX c
  exact dh1 (an pf_32 f19)
 refine AW.iff_ h rfl rfl (fun hb20 h=>?_) (fun hb20 h=>?_)
 ·cases h
 refine AW.seq ?_
 apply AW.rg hS [1,6,8,51]
 ·exact di
 refine AW.iff_ h rfl rfl (fun hb21 h=>?_) (fun hb21 h=>?_)
 ·cases h
 refine AW.seq ?_
 replace h:=obs h;obtain⟨u22,q23,h⟩:=h
 have f24:=lidx_f q23
 apply AW.rg hS [1,6,8,55]
 ·exact di1 (an f24.1 (an f24.2.1 f24.2.2))
 refine AW.iff_ h rfl rfl (fun hb25 h=>?_) (fun hb25 h=>?_)
 ·cases h
 refine AW.skip ?_
 refine AW.seq ?_
 refine AW.reg hS [(6,.ref 1 0),(8,.ref 3 0)] [.var [.pv (.slice (List.map Rule.pv p1.rules_)),.pv (.slice (List.map Port.pv p1.ports_))],.var [.nils,.nils],.row 83 3 (List.map Port.pv (List.set r6 (Int.toNat (IntKind.wrap .i64 (id2-4))) (Port.mk u22.name_ u22.queue_ (IntKind.wrap .i64 (u22.opens_+1))))) false,.var [.nils,.vec 2 (List.length (List.set r6 (Int.toNat (IntKind.wrap .i64 (id2-4))) (Port.mk u22.name_ u22.queue_ (IntKind.wrap .i64 (u22.opens_+1)))))]] ?_ ?_
 ·exact dk1 (an f24.1 (an f24.2.1 f24.2.2))
 refine AW.seq ?_
 refine AW.weak (Weak.cellPV 3 0 (cs:=[.nils,.vec 2 (List.length (List.set r6 (Int.toNat (IntKind.wrap .i64 (id2-4))) (Port.mk u22.name_ u22.queue_ (IntKind.wrap .i64 (u22.opens_+1)))))]) (a:=.nils) (p:=.slice (List.map Rule.pv ([]:List Rule))) rfl rfl (by first|rfl|simp only[toPV,List.getElem?_cons_zero,List.getElem?_cons_succ,List.length_map,if_true,List.map_nil])) ?_
 refine AW.weak (σ':=⟨sl [(6,.ref 1 0),(8,.ref 3 0)],76,[.var [.pv (.slice (List.map Rule.pv p1.rules_)),.pv (.slice (List.map Port.pv p1.ports_))],.var [.nils,.nils],.row 83 3 (List.map Port.pv (List.set r6 (Int.toNat (IntKind.wrap .i64 (id2-4))) (Port.mk u22.name_ u22.queue_ (IntKind.wrap .i64 (u22.opens_+1))))) false,.var [.pv (.slice (List.map Rule.pv ([]:List Rule))),.vec 2 (List.length (List.set r6 (Int.toNat (IntKind.wrap .i64 (id2-4))) (Port.mk u22.name_ u22.queue_ (IntKind.wrap .i64 (u22.opens_+1)))))]]⟩) (Weak.of_eq (Weak.slots (L:=[(6,.ref 1 0),(8,.ref 3 0)]) ⟨rfl,rfl,trivial⟩) (by first|rfl|(simp only[List.length_set,List.length_map];rfl))) ?_
 refine AW.weak (Weak.freeze 2 rfl) ?_
 refine AW.weak (σ':=⟨sl [(6,.ref 1 0),(8,.ref 3 0)],76,[.var [.pv (.slice (List.map Rule.pv p1.rules_)),.pv (.slice (List.map Port.pv p1.ports_))],.var [.nils,.nils],.row 83 3 (List.map Port.pv (List.set r6 (Int.toNat (IntKind.wrap .i64 (id2-4))) (Port.mk u22.name_ u22.queue_ (IntKind.wrap .i64 (u22.opens_+1))))) true,.var [.pv (.slice (List.map Rule.pv ([]:List Rule))),.vec 2 (List.length (List.set r6 (Int.toNat (IntKind.wrap .i64 (id2-4))) (Port.mk u22.name_ u22.queue_ (IntKind.wrap .i64 (u22.opens_+1)))))]]⟩) (Weak.of_eq (Weak.slots (L:=[(6,.ref 1 0),(8,.ref 3 0)]) kp) (by first|rfl|(simp only[List.length_set,List.length_map];rfl))) ?_
 refine AW.weak (Weak.cellPV 3 1 (cs:=[.pv (.slice (List.map Rule.pv ([]:List Rule))),.vec 2 (List.length (List.set r6 (Int.toNat (IntKind.wrap .i64 (id2-4))) (Port.mk u22.name_ u22.queue_ (IntKind.wrap .i64 (u22.opens_+1)))))]) (a:=.vec 2 (List.length (List.set r6 (Int.toNat (IntKind.wrap .i64 (id2-4))) (Port.mk u22.name_ u22.queue_ (IntKind.wrap .i64 (u22.opens_+1)))))) (p:=.slice (List.map Port.pv (List.set r6 (Int.toNat (IntKind.wrap .i64 (id2-4))) (Port.mk u22.name_ u22.queue_ (IntKind.wrap .i64 (u22.opens_+1)))))) rfl rfl (by first|rfl|simp only[toPV,List.getElem?_cons_zero,List.getElem?_cons_succ,List.length_map,if_true,List.map_nil])) ?_
 refine AW.weak (σ':=⟨sl [(6,.ref 1 0),(8,.ref 3 0)],76,[.var [.pv (.slice (List.map Rule.pv p1.rules_)),.pv (.slice (List.map Port.pv p1.ports_))],.var [.nils,.nils],.row 83 3 (List.map Port.pv (List.set r6 (Int.toNat (IntKind.wrap .i64 (id2-4))) (Port.mk u22.name_ u22.queue_ (IntKind.wrap .i64 (u22.opens_+1))))) true,.var [.pv (.slice (List.map Rule.pv ([]:List Rule))),.pv (.slice (List.map Port.pv (List.set r6 (Int.toNat (IntKind.wrap .i64 (id2-4))) (Port.mk u22.name_ u22.queue_ (IntKind.wrap .i64 (u22.opens_+1))))))]]⟩) (Weak.of_eq (Weak.slots (L:=[(6,.ref 1 0),(8,.ref 3 0)]) ⟨rfl,rfl,trivial⟩) (by first|rfl|(simp only[List.length_set,List.length_map];rfl))) ?_
 apply AW.rg hS [6,7]
 ·exact di
 refine AW.ret ?_
 cases h
 exact fin
set_option maxHeartbeats 4000000 in
theorem g_F84(c:AllG env []):GoodH env (S84 F84):=by
 obtain⟨O,X,hS,hX,hpf,hk⟩:=orcs (pf:=pfn) c
 refine GH (fn:=Tryz.f84) fn_84 rfl rfl 9 rfl [] rfl ?_
 rintro(c1:Int) (r:Bool) h m em
 refine GHs rfl rfl em rfl rfl rfl ?_
 clear em m
 replace h:F84 c1=some r:=h
 rw[F84]at h
 refine AW.seq ?_
 apply AW.rg hS [0]
 ·exact di
 refine AW.seq ?_
 refine AW.reg hS [(2,.pv (.bool (decide (c1=32)||decide (c1=9))))] [] ?_ ?_
 ·clear h hk hpf hS hX c
  exact dh
 refine AW.ret ?_
 cases h
 exact fin
set_option maxHeartbeats 4000000 in
theorem g_F156(c:AllG env [SL_WriteByte,SL_String]):GoodH env (S156 F156):=by
 obtain⟨O,X,hS,hX,hpf,hk⟩:=orcs (pf:=pfn) c
 have pf_65:O.pf 65=false:=pft hpf 65 rfl
 have pf_226:O.pf 226=false:=pft hpf 226 rfl
 refine GH (fn:=Tryz.f156) fn_156 rfl rfl 39 rfl [] rfl ?_
 rintro(s1:Str) (r:Str×Int×Bool) h m em
 refine GHs rfl rfl em rfl rfl rfl ?_
 clear em m
 replace h:F156 s1=some r:=h
 rw[F156]at h
 refine AW.seq ?_
 apply AW.rg hS [0]
 ·exact di
 refine AW.seq ?_
 apply AW.rg hS [0,5]
 ·exact di
 refine AW.seq ?_
 refine AW.seq ?_
 apply AW.rg hS [0,5,6]
 ·exact di
 refine AW.block ?_
 refine AW.lp (α:=Nat×Int×Str) (fun(_,i5,b6)=>⟨sl [(0,.pv (.str s1)),(5,.ref 0 0),(6,.pv (.int .i64 i5))],39,[.bld b6]⟩) (fun x=>iter (F156_b1 s1) x.1 x.2=some r) (fun x=>x.1) (BIG,(0,[])) (Weak.slots kp) h ?_
 clear h
 intro⟨n31,i5,b6⟩ h
 replace h:=iter_some h;obtain⟨m9,rfl,h⟩:=h
 rw[F156_b1]at h
 try dsimp only at h
 refine AW.st ?_
 refine AW.seq ?_
 refine AW.seq ?_
 apply AW.rg hS [0,5,6,10]
 ·exact di
 refine AW.iff_ h rfl rfl (fun hb10 h=>?_) (fun hb10 h=>?_)
 ·refine AW.skip ?_
  refine AW.seq ?_
  refine AW.block ?_
  refine AW.seq ?_
  refine AW.seq ?_
  replace h:=obs h;obtain⟨c11,q12,h⟩:=h
  have f13:=sidx_f q12
  apply AW.rg hS [0,5,6,16]
  ·exact di1 (an f13.1 (an f13.2.1 f13.2.2))
  refine AW.iff_ h rfl rfl (fun hb14 h=>?_) (fun hb14 h=>?_)
  ·refine AW.seq ?_
   replace h:=obs h;obtain⟨d15,q16,h⟩:=h
   have f17:=(hk 0 226 rfl).ret (b6,c11) q16 rfl rfl
   try dsimp only at f17
   have e18:ecall O [.bld b6] 226 [.ref 0 0,.pv (.int .u8 c11)]=some (retAV [.pv (.nil)],[.bld d15]):=ecall_eq rfl rfl rfl f17 rfl rfl rfl
   apply AW.rg hS [0,5,6]
   ·exact di1 (an f13.1 (an f13.2.1 (an f13.2.2 (an pf_226 e18))))
   refine AW.exit ?_
   apply AW.rg hS [0,5,6]
   ·exact di
   exact⟨(m9,(IntKind.wrap .i64 (i5+1),d15)),h,(Weak.norm (m:=1) (Nat.le_of_ble_eq_true rfl) kp hq rfl rfl),Nat.lt_succ_self _⟩
  refine AW.skip ?_
  refine AW.seq ?_
  refine AW.seq ?_
  replace h:=obs h;obtain⟨c19,q20,h⟩:=h
  have f21:=sidx_g (guardO_t q20)
  refine AW.reg hS [(0,.pv (.str s1)),(5,.ref 0 0),(6,.pv (.int .i64 i5)),(32,.pv (.bool (decide (IntKind.wrap .i64 (i5+1)=(s1.length:Int))||!decide (c19=39))))] [.bld b6] ?_ ?_
  ·clear h hk hpf hS hX c
   exact dh1 (an f21.1 (an f21.2.1 f21.2.2))
  refine AW.iff_ h rfl rfl (fun hb22 h=>?_) (fun hb22 h=>?_)
  ·refine AW.seq ?_
   replace h:=obs h;obtain⟨s23,q24,h⟩:=h
   have f25:=(hk 1 65 rfl).ret b6 q24 rfl rfl
   try dsimp only at f25
   have e26:ecall O [.bld b6] 65 [.ref 0 0]=some (retAV [.pv (.str s23)],[.gone]):=ecall_eq rfl rfl rfl f25 rfl rfl rfl
   apply AW.rg hS [2,3,4]
   ·exact di1 (an pf_65 e26)
   refine AW.ret ?_
   cases h
   exact fin
  refine AW.skip ?_
  refine AW.seq ?_
  replace h:=obs h;obtain⟨d27,q28,h⟩:=h
  have f29:=(hk 0 226 rfl).ret (b6,39) q28 rfl rfl
  try dsimp only at f29
  have e30:ecall O [.bld b6] 226 [.ref 0 0,.pv (.int .u8 39)]=some (retAV [.pv (.nil)],[.bld d27]):=ecall_eq rfl rfl rfl f29 rfl rfl rfl
  apply AW.rg hS [0,5,6]
  ·exact di1 (an pf_226 e30)
  apply AW.rg hS [0,5,6]
  ·exact di
  apply AW.rg hS [0,5,6]
  ·exact di
  exact⟨(m9,(IntKind.wrap .i64 ((IntKind.wrap .i64 (i5+1))+1),d27)),h,(Weak.norm (m:=1) (Nat.le_of_ble_eq_true rfl) kp hq rfl rfl),Nat.lt_succ_self _⟩
 cases h
set_option maxHeartbeats 4000000 in
theorem g_F85(c:AllG env [(S131 F131),(S75 F75),(S156 F156),SL_SContains,(S84 F84)]):GoodH env (S85 F85):=by
 obtain⟨O,X,hS,hX,hpf,hk⟩:=orcs (pf:=pfn) c
 have pf_59:O.pf 59=true:=pft hpf 59 rfl
 have pf_75:O.pf 75=true:=pft hpf 75 rfl
 have pf_84:O.pf 84=true:=pft hpf 84 rfl
 have pf_131:O.pf 131=true:=pft hpf 131 rfl
 have pf_156:O.pf 156=true:=pft hpf 156 rfl
 refine GH (fn:=Tryz.f85) fn_85 rfl rfl 77 rfl [] rfl ?_
 rintro(s1:Str) (r:Attr×Int×Int) h m em
 refine GHs rfl rfl em rfl rfl rfl ?_
 clear em m
 replace h:F85 s1=some r:=h
 rw[F85]at h
 refine AW.seq ?_
 apply AW.rg hS [0,2]
 ·exact di
 refine AW.seq ?_
 replace h:=obs h;obtain⟨r5,q6,h⟩:=h
 have f7:=(hk 0 131 rfl).ret (s1,([32,9,61,63,39]:Str)) q6 rfl rfl
 try dsimp only at f7
 try simp only[List.map_cons,List.map_nil,oPV_none,oPV_some,Attr.pv_eq,P22_eq,Plumb.pv_eq,Token.pv_eq,P50_eq,Redir.pv_eq,P51_eq,Cmd.pv_eq,P46_eq,Word.pv_eq,P54_eq,Var.pv_eq,P324_eq,GEnv.pv_eq,GValue.pv_eq,P59_eq,Qid.pv_eq,P66_eq,Dir.pv_eq,Msg.pv_eq,Call.pv_eq,P60_eq,Client.pv_eq,S274.pv_eq,S276.pv_eq,P81_eq,Port.pv_eq,Pattern.pv_eq,P153_eq,Rule.pv_eq,P29_eq,P30_eq,Plumber.pv_eq]at f7
 apply AW.rg hS [0,2,5]
 ·exact di1 (an pf_131 f7)
 refine AW.seq ?_
 replace h:=obs h;obtain⟨t8,q9,h⟩:=h
 have f10:=sslice_f q9
 try simp only[Int.toNat_natCast,Int.toNat_zero,Int.reduceToNat,Nat.sub_zero,List.drop_zero,List.length_map]at f10
 have f10e:=f10.2.2.2.2
 try simp only[Int.toNat_natCast,Int.toNat_zero,Int.reduceToNat,Nat.sub_zero,List.drop_zero,List.length_map]at f10e
 have f10l:=f10.2.2.1
 try simp only[Int.toNat_natCast,Int.toNat_zero,Int.reduceToNat,Nat.sub_zero,List.drop_zero,List.length_map]at f10l
 apply AW.rg hS [0,2,5,6]
 ·exact di1 (an f10.1 (an f10.2.1 (an f10l (an f10.2.2.2.1 f10e))))
 refine AW.seq ?_
 replace h:=obs h;obtain⟨t11,q12,h⟩:=h
 have f13:=sslice_f q12
 try simp only[Int.toNat_natCast,Int.toNat_zero,Int.reduceToNat,Nat.sub_zero,List.drop_zero,List.length_map]at f13
 have f13e:=f13.2.2.2.2
 try simp only[Int.toNat_natCast,Int.toNat_zero,Int.reduceToNat,Nat.sub_zero,List.drop_zero,List.length_map]at f13e
 have f13l:=f13.2.2.1
 try simp only[Int.toNat_natCast,Int.toNat_zero,Int.reduceToNat,Nat.sub_zero,List.drop_zero,List.length_map]at f13l
 apply AW.rg hS [0,2,5,6,7]
 ·exact di1 (an f13.1 (an f13.2.1 (an f13l (an f13.2.2.2.1 f13e))))
 refine AW.seqJ (α:=Int×Str) (fun(n14,x15)=>⟨sl [(0,.pv (.str s1)),(2,.ref 0 0),(5,.pv (.int .i64 n14)),(6,.ref 1 0)],77,[.var [.pv (.str []),.pv (.str []),.pv (.bool false)],.var [.pv (.str t8),.pv (.str x15),.pv (.bool false)]]⟩) (fun x=>F85_j1 s1 t8 x=some r) ?_ ?_
 ·intro⟨n14,x15⟩ h
  rw[F85_j1]at h
  try dsimp only at h
  refine AW.st ?_
  refine AW.seq ?_
  refine AW.seq ?_
  replace h:=obs h;obtain⟨c16,q17,h⟩:=h
  have f18:=sidx_g (guardO_t q17)
  replace h:=obs h;obtain⟨r19,q20,h⟩:=h
  replace q20:=guardO_t q20
  have f21:=fun hg=>(hk 4 84 rfl).ret c16 (q20 hg) rfl rfl
  try dsimp only at f21
  refine AW.reg hS [(2,.ref 0 0),(5,.pv (.int .i64 n14)),(6,.ref 1 0),(73,.pv (.bool (decide (n14<(s1.length:Int))&&!r19)))] [.var [.pv (.str []),.pv (.str []),.pv (.bool false)],.var [.pv (.str t8),.pv (.str x15),.pv (.bool false)]] ?_ ?_
  ·clear h hk hpf hS hX c
   exact dh1 (an f18.1 (an f18.2.1 (an f18.2.2 (an pf_84 f21))))
  refine AW.iff_ h rfl rfl (fun hb22 h=>?_) (fun hb22 h=>?_)
  ·cases h
  refine AW.skip ?_
  refine AW.seq ?_
  apply AW.rg hS [2,3,4]
  ·exact di
  refine AW.ret ?_
  cases h
  exact fin
 refine AW.block ?_
 refine AW.seq ?_
 replace h:=obs h;obtain⟨r23,q24,h⟩:=h
 have f25:=(hk 1 75 rfl).ret (t11,([63]:Str)) q24 rfl rfl
 try dsimp only at f25
 try simp only[List.map_cons,List.map_nil,oPV_none,oPV_some,Attr.pv_eq,P22_eq,Plumb.pv_eq,Token.pv_eq,P50_eq,Redir.pv_eq,P51_eq,Cmd.pv_eq,P46_eq,Word.pv_eq,P54_eq,Var.pv_eq,P324_eq,GEnv.pv_eq,GValue.pv_eq,P59_eq,Qid.pv_eq,P66_eq,Dir.pv_eq,Msg.pv_eq,Call.pv_eq,P60_eq,Client.pv_eq,S274.pv_eq,S276.pv_eq,P81_eq,Port.pv_eq,Pattern.pv_eq,P153_eq,Rule.pv_eq,P29_eq,P30_eq,Plumber.pv_eq]at f25
 apply AW.rg hS [0,2,5,6,7,22]
 ·exact di1 (an pf_75 f25)
 refine AW.iff_ h rfl rfl (fun hb26 h=>?_) (fun hb26 h=>?_)
 ·cases h
 refine AW.seq ?_
 replace h:=obs h;obtain⟨r27,q28,h⟩:=h
 have f29:=(hk 1 75 rfl).ret (t11,([61,39]:Str)) q28 rfl rfl
 try dsimp only at f29
 try simp only[List.map_cons,List.map_nil,oPV_none,oPV_some,Attr.pv_eq,P22_eq,Plumb.pv_eq,Token.pv_eq,P50_eq,Redir.pv_eq,P51_eq,Cmd.pv_eq,P46_eq,Word.pv_eq,P54_eq,Var.pv_eq,P324_eq,GEnv.pv_eq,GValue.pv_eq,P59_eq,Qid.pv_eq,P66_eq,Dir.pv_eq,Msg.pv_eq,Call.pv_eq,P60_eq,Client.pv_eq,S274.pv_eq,S276.pv_eq,P81_eq,Port.pv_eq,Pattern.pv_eq,P153_eq,Rule.pv_eq,P29_eq,P30_eq,Plumber.pv_eq]at f29
 apply AW.rg hS [0,2,5,6,7,28]
 ·exact di1 (an pf_75 f29)
 refine AW.iff_ h rfl rfl (fun hb30 h=>?_) (fun hb30 h=>?_)
 ·refine AW.seq ?_
  replace h:=obs h;obtain⟨t31,q32,h⟩:=h
  have f33:=sslice_f q32
  try simp only[Int.toNat_natCast,Int.toNat_zero,Int.reduceToNat,Nat.sub_zero,List.drop_zero,List.length_map]at f33
  have f33e:=f33.2.2.2.2
  try simp only[Int.toNat_natCast,Int.toNat_zero,Int.reduceToNat,Nat.sub_zero,List.drop_zero,List.length_map]at f33e
  have f33l:=f33.2.2.1
  try simp only[Int.toNat_natCast,Int.toNat_zero,Int.reduceToNat,Nat.sub_zero,List.drop_zero,List.length_map]at f33l
  replace h:=obs h;obtain⟨⟨r34,r35,r36⟩,q37,h⟩:=h
  dsimp only at h
  have f38:=(hk 2 156 rfl).ret t31 q37 rfl rfl
  try dsimp only at f38
  apply AW.rg hS [0,2,5,6,8,9,10]
  ·exact di1 (an f33.1 (an f33.2.1 (an f33l (an f33.2.2.2.1 (an f33e (an pf_156 f38))))))
  refine AW.seq ?_
  refine AW.seq ?_
  apply AW.rg hS [0,2,5,6,8,9,39]
  ·exact di
  refine AW.iff_ h rfl rfl (fun hb39 h=>?_) (fun hb39 h=>?_)
  ·cases h
  refine AW.skip ?_
  refine AW.seq ?_
  apply AW.rg hS [0,2,5,6,9]
  ·exact di
  apply AW.rg hS [0,2,5,6]
  ·exact di
  exact⟨(IntKind.wrap .i64 (r5+(IntKind.wrap .i64 (2+r35))),r34),h,(Weak.norm (m:=2) (Nat.le_of_ble_eq_true rfl) kp hq rfl rfl)⟩
 refine AW.seq ?_
 replace h:=obs h;obtain⟨r40,q41,h⟩:=h
 have f42:=(hk 1 75 rfl).ret (t11,([61]:Str)) q41 rfl rfl
 try dsimp only at f42
 try simp only[List.map_cons,List.map_nil,oPV_none,oPV_some,Attr.pv_eq,P22_eq,Plumb.pv_eq,Token.pv_eq,P50_eq,Redir.pv_eq,P51_eq,Cmd.pv_eq,P46_eq,Word.pv_eq,P54_eq,Var.pv_eq,P324_eq,GEnv.pv_eq,GValue.pv_eq,P59_eq,Qid.pv_eq,P66_eq,Dir.pv_eq,Msg.pv_eq,Call.pv_eq,P60_eq,Client.pv_eq,S274.pv_eq,S276.pv_eq,P81_eq,Port.pv_eq,Pattern.pv_eq,P153_eq,Rule.pv_eq,P29_eq,P30_eq,Plumber.pv_eq]at f42
 apply AW.rg hS [0,2,5,6,7,47]
 ·exact di1 (an pf_75 f42)
 refine AW.iff_ h rfl rfl (fun hb43 h=>?_) (fun hb43 h=>?_)
 ·refine AW.seq ?_
  replace h:=obs h;obtain⟨r44,q45,h⟩:=h
  have f46:=(hk 0 131 rfl).ret (t11,([32,9]:Str)) q45 rfl rfl
  try dsimp only at f46
  try simp only[List.map_cons,List.map_nil,oPV_none,oPV_some,Attr.pv_eq,P22_eq,Plumb.pv_eq,Token.pv_eq,P50_eq,Redir.pv_eq,P51_eq,Cmd.pv_eq,P46_eq,Word.pv_eq,P54_eq,Var.pv_eq,P324_eq,GEnv.pv_eq,GValue.pv_eq,P59_eq,Qid.pv_eq,P66_eq,Dir.pv_eq,Msg.pv_eq,Call.pv_eq,P60_eq,Client.pv_eq,S274.pv_eq,S276.pv_eq,P81_eq,Port.pv_eq,Pattern.pv_eq,P153_eq,Rule.pv_eq,P29_eq,P30_eq,Plumber.pv_eq]at f46
  apply AW.rg hS [0,2,5,6,7,11]
  ·exact di1 (an pf_131 f46)
  refine AW.seq ?_
  replace h:=obs h;obtain⟨t47,q48,h⟩:=h
  have f49:=sslice_f q48
  try simp only[Int.toNat_natCast,Int.toNat_zero,Int.reduceToNat,Nat.sub_zero,List.drop_zero,List.length_map]at f49
  have f49e:=f49.2.2.2.2
  try simp only[Int.toNat_natCast,Int.toNat_zero,Int.reduceToNat,Nat.sub_zero,List.drop_zero,List.length_map]at f49e
  have f49l:=f49.2.2.1
  try simp only[Int.toNat_natCast,Int.toNat_zero,Int.reduceToNat,Nat.sub_zero,List.drop_zero,List.length_map]at f49l
  apply AW.rg hS [0,2,5,6,11]
  ·exact di1 (an f49.1 (an f49.2.1 (an f49l (an f49.2.2.2.1 f49e))))
  refine AW.seq ?_
  refine AW.seq ?_
  replace h:=obs h;obtain⟨ok50,q51,h⟩:=h
  have f52:=(hk 3 59 rfl).ret (t47,([39]:Str)) q51 rfl rfl
  try dsimp only at f52
  try simp only[List.map_cons,List.map_nil,oPV_none,oPV_some,Attr.pv_eq,P22_eq,Plumb.pv_eq,Token.pv_eq,P50_eq,Redir.pv_eq,P51_eq,Cmd.pv_eq,P46_eq,Word.pv_eq,P54_eq,Var.pv_eq,P324_eq,GEnv.pv_eq,GValue.pv_eq,P59_eq,Qid.pv_eq,P66_eq,Dir.pv_eq,Msg.pv_eq,Call.pv_eq,P60_eq,Client.pv_eq,S274.pv_eq,S276.pv_eq,P81_eq,Port.pv_eq,Pattern.pv_eq,P153_eq,Rule.pv_eq,P29_eq,P30_eq,Plumber.pv_eq]at f52
  apply AW.rg hS [0,2,5,6,11,58]
  ·exact di1 (an pf_59 f52)
  refine AW.iff_ h rfl rfl (fun hb53 h=>?_) (fun hb53 h=>?_)
  ·cases h
  refine AW.skip ?_
  apply AW.rg hS [0,2,5,6]
  ·exact di
  exact⟨(IntKind.wrap .i64 (r5+r44),t47),h,(Weak.norm (m:=2) (Nat.le_of_ble_eq_true rfl) kp hq rfl rfl)⟩
 cases h
set_option maxHeartbeats 4000000 in
theorem g_F37(c:AllG env [(S84 F84),(S85 F85),(S86 F86)]):GoodH env (S37 F37):=by
 obtain⟨O,X,hS,hX,hpf,hk⟩:=orcs (pf:=pfn) c
 have pf_84:O.pf 84=true:=pft hpf 84 rfl
 have pf_85:O.pf 85=true:=pft hpf 85 rfl
 have pf_86:O.pf 86=true:=pft hpf 86 rfl
 refine GH (fn:=Tryz.f37) fn_37 rfl rfl 45 rfl [] rfl ?_
 rintro(s1:Str) (r:(List Attr)×Int×Int) h m em
 refine GHs rfl rfl em rfl rfl rfl ?_
 clear em m
 replace h:F37 s1=some r:=h
 rw[F37]at h
 refine AW.seq ?_
 apply AW.rg hS [0]
 ·exact di
 refine AW.seq ?_
 refine AW.reg hS [(0,.pv (.str s1)),(5,.nils)] [] ?_ ?_
 ·exact dk
 refine AW.weak (Weak.own 5 137 3 (by decide) rfl) ?_
 refine AW.weak (Weak.slots (L:=[(0,.pv (.str s1)),(5,.vec 0 (List.length ([]:List Attr)))]) ⟨rfl,rfl,trivial⟩) ?_
 refine AW.seq ?_
 refine AW.seq ?_
 apply AW.rg hS [0,5,6]
 ·exact di
 refine AW.block ?_
 refine AW.lp (α:=Nat×Int×(List Attr)) (fun(_,i5,l6)=>⟨sl [(0,.pv (.str s1)),(5,.vec 0 (List.length l6)),(6,.pv (.int .i64 i5))],45,[.row 137 3 (List.map Attr.pv l6) true]⟩) (fun x=>iter (F37_b1 s1) x.1 x.2=some r) (fun x=>x.1) (BIG,(0,([]:List Attr))) (Weak.slots kp) h ?_
 clear h
 intro⟨n34,i5,l6⟩ h
 replace h:=iter_some h;obtain⟨m9,rfl,h⟩:=h
 rw[F37_b1]at h
 try dsimp only at h
 refine AW.st ?_
 refine AW.seq ?_
 refine AW.seq ?_
 apply AW.rg hS [0,5,6,13]
 ·exact di
 refine AW.iff_ h rfl rfl (fun hb10 h=>?_) (fun hb10 h=>?_)
 ·refine AW.skip ?_
  refine AW.block ?_
  refine AW.seq ?_
  refine AW.seq ?_
  replace h:=obs h;obtain⟨c11,q12,h⟩:=h
  have f13:=sidx_f q12
  replace h:=obs h;obtain⟨r14,q15,h⟩:=h
  have f16:=(hk 0 84 rfl).ret c11 q15 rfl rfl
  try dsimp only at f16
  apply AW.rg hS [0,5,6,17]
  ·exact di1 (an f13.1 (an f13.2.1 (an f13.2.2 (an pf_84 f16))))
  refine AW.iff_ h rfl rfl (fun hb17 h=>?_) (fun hb17 h=>?_)
  ·refine AW.seq ?_
   apply AW.rg hS [0,5,6]
   ·exact di
   refine AW.exit ?_
   exact⟨(m9,(IntKind.wrap .i64 (i5+1),l6)),h,(Weak.norm (m:=1) (Nat.le_of_ble_eq_true rfl) kp hq rfl rfl),Nat.lt_succ_self _⟩
  refine AW.skip ?_
  refine AW.seq ?_
  replace h:=obs h;obtain⟨t18,q19,h⟩:=h
  have f20:=sslice_f q19
  try simp only[Int.toNat_natCast,Int.toNat_zero,Int.reduceToNat,Nat.sub_zero,List.drop_zero,List.length_map]at f20
  have f20e:=f20.2.2.2.2
  try simp only[Int.toNat_natCast,Int.toNat_zero,Int.reduceToNat,Nat.sub_zero,List.drop_zero,List.length_map]at f20e
  have f20l:=f20.2.2.1
  try simp only[Int.toNat_natCast,Int.toNat_zero,Int.reduceToNat,Nat.sub_zero,List.drop_zero,List.length_map]at f20l
  replace h:=obs h;obtain⟨⟨r21,r22,r23⟩,q24,h⟩:=h
  dsimp only at h
  have f25:=(hk 1 85 rfl).ret t18 q24 rfl rfl
  try dsimp only at f25
  apply AW.rg hS [0,5,6,7,8,9]
  ·exact di1 (an f20.1 (an f20.2.1 (an f20l (an f20.2.2.2.1 (an f20e (an pf_85 f25))))))
  refine AW.seq ?_
  refine AW.seq ?_
  apply AW.rg hS [0,5,6,7,8,29]
  ·exact di
  refine AW.iff_ h rfl rfl (fun hb26 h=>?_) (fun hb26 h=>?_)
  ·replace h:=obs h;obtain⟨r27,q28,h⟩:=h
   have f29:=(hk 2 86 rfl).ret (l6,r21) q28 rfl rfl
   try dsimp only at f29
   apply AW.rg hS [0,5,6,7,8,9]
   ·exact di1 (an pf_86 f29)
   refine AW.seq ?_
   refine AW.seq ?_
   apply AW.rg hS [0,5,6,7,8,34]
   ·exact di
   refine AW.iff_ h rfl rfl (fun hb30 h=>?_) (fun hb30 h=>?_)
   ·cases h
   refine AW.skip ?_
   refine AW.seq ?_
   replace h:=obs h;obtain⟨out31,q32,h⟩:=h
   have f33:=appO_f q32
   try simp only[List.length_cons,List.length_nil,List.length_replicate,Nat.zero_add,Nat.reduceAdd,Nat.reduceLeDiff,Nat.add_zero,Nat.reduceMul]at f33
   have f33m:=appO_m Attr.pv q32
   try simp only[List.map_cons,List.map_nil,List.nil_append,oPV_none,oPV_some,Attr.pv_eq,P22_eq,Plumb.pv_eq,Token.pv_eq,P50_eq,Redir.pv_eq,P51_eq,Cmd.pv_eq,P46_eq,Word.pv_eq,P54_eq,Var.pv_eq,P324_eq,GEnv.pv_eq,GValue.pv_eq,P59_eq,Qid.pv_eq,P66_eq,Dir.pv_eq,Msg.pv_eq,Call.pv_eq,P60_eq,Client.pv_eq,S274.pv_eq,S276.pv_eq,P81_eq,Port.pv_eq,Pattern.pv_eq,P153_eq,Rule.pv_eq,P29_eq,P30_eq,Plumber.pv_eq]at f33m
   have f33n:=appO_n q32
   try simp only[List.length_cons,List.length_nil,Nat.zero_add]at f33n
   refine AW.reg hS [(0,.pv (.str s1)),(5,.vec 0 (List.length out31)),(6,.pv (.int .i64 i5)),(8,.pv (.int .i64 r22))] [.row 137 3 (List.map Attr.pv out31) true,.var [.pv (.str r21.name_),.pv (.str r21.value_),.pv (.bool r21.query_)]] ?_ ?_
   ·exact dk1 (an f33.1 (an f33m f33n))
   clear f33
   clear f33m
   clear f33n
   apply AW.rg hS [0,5,6]
   ·exact di
   exact⟨(m9,(IntKind.wrap .i64 (i5+r22),out31)),h,(Weak.norm (m:=1) (Nat.le_of_ble_eq_true rfl) kp hq rfl rfl),Nat.lt_succ_self _⟩
  cases h
 refine AW.exit ?_
 refine AW.seq ?_
 apply AW.rg hS [2,3,4]
 ·exact di
 refine AW.ret ?_
 cases h
 exact fin
set_option maxHeartbeats 4000000 in
theorem g_F87(c:AllG env []):GoodH env (S87 F87):=by
 obtain⟨O,X,hS,hX,hpf,hk⟩:=orcs (pf:=pfn) c
 refine GH (fn:=Tryz.f87) fn_87 rfl rfl 24 rfl [] rfl ?_
 rintro(c1:Int) (r:Int) h m em
 refine GHs rfl rfl em rfl rfl rfl ?_
 clear em m
 replace h:F87 c1=some r:=h
 rw[F87]at h
 refine AW.seq ?_
 apply AW.rg hS [0]
 ·exact di
 refine AW.seq ?_
 refine AW.block ?_
 refine AW.seq ?_
 refine AW.reg hS [(0,.pv (.int .u8 c1)),(3,.pv (.bool (decide (48≤c1)&&decide (c1≤57))))] [] ?_ ?_
 ·clear h hk hpf hS hX c
  exact dh
 refine AW.iff_ h rfl rfl (fun hb3 h=>?_) (fun hb3 h=>?_)
 ·refine AW.seq ?_
  apply AW.rg hS [2]
  ·simp -implicitDefEqProofs only[RUNS,qindex,Nat.reduceAdd,Nat.reduceLeDiff,Nat.reduceSub,reduceIte,Nat.reduceEqDiff,Nat.reduceLT,reduceCtorEq,Nat.reduceMul,Nat.reduceBEq,Int.reduceEq,Int.reduceToNat,Int.toNat_zero,Nat.sub_zero,if_true,if_false,eq_self,ne_eq,pick_nil,pick_cons,leavesK_some,TYS,qconv_ii T_5 T_3];exact⟨rfl,rfl⟩
  refine AW.ret ?_
  cases h
  exact fin
 cases h
set_option maxHeartbeats 4000000 in
theorem g_F38(c:AllG env [(S66 F66),(S87 F87)]):GoodH env (S38 F38):=by
 obtain⟨O,X,hS,hX,hpf,hk⟩:=orcs (pf:=pfn) c
 have pf_66:O.pf 66=true:=pft hpf 66 rfl
 have pf_87:O.pf 87=true:=pft hpf 87 rfl
 refine GH (fn:=Tryz.f38) fn_38 rfl rfl 63 rfl [] rfl ?_
 rintro(⟨s1,base2,most3⟩:Str×Int×Int) (r:Int×Int) h m em
 refine GHs rfl rfl em rfl rfl rfl ?_
 clear em m
 replace h:F38 s1 base2 most3=some r:=h
 rw[F38]at h
 refine AW.seq ?_
 apply AW.rg hS [0,1,2]
 ·exact di
 refine AW.seq ?_
 refine AW.seq ?_
 replace h:=obs h;obtain⟨r6,q7,h⟩:=h
 have f8:=(hk 0 66 rfl).ret base2 q7 rfl rfl
 try dsimp only at f8
 refine AW.reg hS [(0,.pv (.str s1)),(1,.pv (.int .i64 base2)),(2,.pv (.int .i64 most3)),(17,.pv (.bool (!r6||decide (most3<0))))] [] ?_ ?_
 ·clear h hk hpf hS hX c
  exact dh1 (an pf_66 f8)
 refine AW.iff_ h rfl rfl (fun hb9 h=>?_) (fun hb9 h=>?_)
 ·cases h
 refine AW.skip ?_
 refine AW.seq ?_
 refine AW.seq ?_
 replace h:=obs h;obtain⟨c10,q11,h⟩:=h
 have f12:=sidx_g (guardO_t q11)
 try simp only[Int.toNat_natCast,Int.toNat_zero,Int.reduceToNat,Nat.sub_zero,List.drop_zero,List.length_map]at f12
 refine AW.reg hS [(0,.pv (.str s1)),(1,.pv (.int .i64 base2)),(2,.pv (.int .i64 most3)),(29,.pv (.bool (decide (s1=[])||(decide (1<(s1.length:Int))&&decide (c10=48)))))] [] ?_ ?_
 ·clear h hk hpf hS hX c
  exact dh1 (an f12.1 (an f12.2.1 f12.2.2))
 refine AW.iff_ h rfl rfl (fun hb13 h=>?_) (fun hb13 h=>?_)
 ·cases h
 refine AW.skip ?_
 refine AW.seq ?_
 apply AW.rg hS [0,1,2,8]
 ·exact di
 refine AW.seq ?_
 refine AW.seq ?_
 apply AW.rg hS [0,1,2,8,31,32]
 ·exact di
 refine AW.block ?_
 refine AW.lp (α:=Nat×Int×Int) (fun(_,n14,i15)=>⟨sl [(0,.pv (.str s1)),(1,.pv (.int .i64 base2)),(2,.pv (.int .i64 most3)),(8,.pv (.int .i64 n14)),(31,.pv (.int .i64 (s1.length:Int))),(32,.pv (.int .i64 i15))],63,[]⟩) (fun x=>iter (F38_b1 s1 base2 most3) x.1 x.2=some r) (fun x=>x.1) (BIG,(0,0)) (Weak.slots kp) h ?_
 clear h
 intro⟨n30,n14,i15⟩ h
 replace h:=iter_some h;obtain⟨m18,rfl,h⟩:=h
 rw[F38_b1]at h
 try dsimp only at h
 refine AW.st ?_
 refine AW.seq ?_
 apply AW.rg hS [0,1,2,8,31,32,33]
 ·exact di
 refine AW.seq ?_
 refine AW.iff_ h rfl rfl (fun hb19 h=>?_) (fun hb19 h=>?_)
 ·refine AW.skip ?_
  refine AW.seq ?_
  refine AW.block ?_
  refine AW.seq ?_
  apply AW.rg hS [0,1,2,8,9,31,32]
  ·exact di
  refine AW.seq ?_
  replace h:=obs h;obtain⟨c20,q21,h⟩:=h
  have f22:=sidx_f q21
  replace h:=obs h;obtain⟨r23,q24,h⟩:=h
  have f25:=(hk 1 87 rfl).ret c20 q24 rfl rfl
  try dsimp only at f25
  apply AW.rg hS [0,1,2,8,10,31,32]
  ·exact di1 (an f22.1 (an f22.2.1 (an f22.2.2 (an pf_87 f25))))
  refine AW.seq ?_
  refine AW.seq ?_
  replace h:=obs h;obtain⟨n26,q27,h⟩:=h
  have f28:=quoO_g (guardO_t q27)
  refine AW.reg hS [(0,.pv (.str s1)),(1,.pv (.int .i64 base2)),(2,.pv (.int .i64 most3)),(8,.pv (.int .i64 n14)),(10,.pv (.int .i64 r23)),(31,.pv (.int .i64 (s1.length:Int))),(32,.pv (.int .i64 i15)),(55,.pv (.bool ((decide (base2≤r23)||decide (n26<n14))||decide (most3<r23))))] [] ?_ ?_
  ·clear h hk hpf hS hX c
   exact dh1 (an f28.1 f28.2)
  refine AW.iff_ h rfl rfl (fun hb29 h=>?_) (fun hb29 h=>?_)
  ·cases h
  refine AW.skip ?_
  apply AW.rg hS [0,1,2,8,31,32]
  ·exact di
  apply AW.rg hS [0,1,2,8,31,32]
  ·exact di
  exact⟨(m18,(IntKind.wrap .i64 ((IntKind.wrap .i64 (n14 * base2))+r23),IntKind.wrap .i64 (i15+1))),h,(Weak.norm (m:=0) (Nat.le_of_ble_eq_true rfl) kp hq rfl rfl),Nat.lt_succ_self _⟩
 refine AW.exit ?_
 refine AW.seq ?_
 apply AW.rg hS [6,7]
 ·exact di
 refine AW.ret ?_
 cases h
 exact fin
end Go.Abs.U54
