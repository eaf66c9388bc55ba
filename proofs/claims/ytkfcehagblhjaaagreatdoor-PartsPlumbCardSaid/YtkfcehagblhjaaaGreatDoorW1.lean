import Derived.Test.YtkfcehagblhjaaaGreatDoorD1
set_option linter.unusedVariables false
set_option linter.unusedSimpArgs false
set_option linter.defProp false
set_option maxRecDepth 8000
namespace Go.Abs.U54
open Go.RowKit Go.Proofs
set_option maxHeartbeats 4000000 in
theorem g_F43(c:AllG env [SL_IndexByte]):GoodH env (S43 F43):=by
 obtain⟨O,X,hS,hX,hpf,hk⟩:=orcs (pf:=pfn) c
 have pf_90:O.pf 90=true:=pft hpf 90 rfl
 refine GH (fn:=Tryz.f43) fn_43 rfl rfl 22 rfl [] rfl ?_
 rintro(s1:Str) (r:Bool) h m em
 refine GHs rfl rfl em rfl rfl rfl ?_
 clear em m
 replace h:F43 s1=some r:=h
 rw[F43]at h
 refine AW.seq ?_
 apply AW.rg hS [0]
 ·exact di
 refine AW.seq ?_
 refine AW.seq ?_
 replace h:=obs h;obtain⟨c3,q4,h⟩:=h
 have f5:=sidx_g (guardO_t q4)
 try simp only[Int.toNat_natCast,Int.toNat_zero,Int.reduceToNat,Nat.sub_zero,List.drop_zero,List.length_map]at f5
 replace h:=obs h;obtain⟨n6,q7,h⟩:=h
 replace q7:=guardO_t q7
 have f8:=fun hg=>(hk 0 90 rfl).ret (([35,33,64]:Str),c3) (q7 hg) rfl rfl
 try dsimp only at f8
 try simp only[List.map_cons,List.map_nil,oPV_none,oPV_some,Attr.pv_eq,P22_eq,Plumb.pv_eq,Token.pv_eq,P50_eq,Redir.pv_eq,P51_eq,Cmd.pv_eq,P46_eq,Word.pv_eq,P54_eq,Var.pv_eq,P324_eq,GEnv.pv_eq,GValue.pv_eq,P59_eq,Qid.pv_eq,P66_eq,Dir.pv_eq,Msg.pv_eq,Call.pv_eq,P60_eq,Client.pv_eq,S274.pv_eq,S276.pv_eq,P81_eq,Port.pv_eq,Pattern.pv_eq,P153_eq,Rule.pv_eq,P29_eq,P30_eq,Plumber.pv_eq]at f8
 refine AW.reg hS [(0,.pv (.str s1)),(11,.pv (.bool (decide (s1=[])||decide (0≤n6))))] [] ?_ ?_
 ·clear h hk hpf hS hX c
  exact dh1 (an f5.1 (an f5.2.1 (an f5.2.2 (an pf_90 f8))))
 refine AW.iff_ h rfl rfl (fun hb9 h=>?_) (fun hb9 h=>?_)
 ·cases h
 refine AW.skip ?_
 refine AW.seq ?_
 refine AW.seq ?_
 refine AW.reg hS [(0,.pv (.str s1)),(13,.ref 0 0)] [.iter s1 0] ?_ ?_
 ·simp -implicitDefEqProofs only[RUNS,qindex,Nat.reduceAdd,Nat.reduceLeDiff,Nat.reduceSub,reduceIte,Nat.reduceEqDiff,Nat.reduceLT,reduceCtorEq,Nat.reduceMul,Nat.reduceBEq,Int.reduceEq,Int.reduceToNat,Int.toNat_zero,Nat.sub_zero,if_true,if_false,eq_self,ne_eq,TYS,erange_str T_9]<;>(try simp only[List.length_take,List.length_drop,List.length_map])
 refine AW.block ?_
 refine AW.lp (α:=Nat×Nat) (fun(_,p10)=>⟨sl [(0,.pv (.str s1)),(13,.ref 0 0)],22,[.iter s1 p10]⟩) (fun x=>iter (F43_b1 s1) x.1 x.2=some r) (fun x=>x.1) (BIG,0) (Weak.slots kp) h ?_
 clear h
 intro⟨n23,p10⟩ h
 replace h:=iter_some h;obtain⟨m13,rfl,h⟩:=h
 rw[F43_b1]at h
 try dsimp only at h
 refine AW.st ?_
 refine AW.seq ?_
 refine AW.cases (decide (p10<s1.length)) (fun hsp4=>?_) (fun hsp4=>?_)
 ·replace h:=bif_t hsp4 h
  have f14:=enext_t (H:=[.iter s1 p10]) (l:=0) rfl (of_decide_eq_true hsp4)
  refine AW.reg hS [(0,.pv (.str s1)),(13,.ref 0 0),(14,.tup [.pv (.bool true),.pv (.int .i64 (p10:Int)),.pv (.int .i32 (runeC s1 p10))]),(15,.pv (.bool true))] [.iter s1 (runeN s1 p10)] ?_ ?_
  ·exact dk1 f14
  refine AW.seq ?_
  refine AW.cond (b:=true) rfl (fun _=>?_) (fun hb=>absurd hb (by decide))
  refine AW.skip ?_
  refine AW.block ?_
  refine AW.seq ?_
  apply AW.rg hS [0,3,13]
  ·exact di
  refine AW.seq ?_
  replace h:=obs h;obtain⟨c16,q17,h⟩:=h
  have f18:=sidx_f q17
  try simp only[Int.toNat_natCast,Int.toNat_zero,Int.reduceToNat,Nat.sub_zero,List.drop_zero,List.length_map]at f18
  replace h:=obs h;obtain⟨n19,q20,h⟩:=h
  have f21:=(hk 0 90 rfl).ret (([32,9,10,59,38,124,40,41,123,125,60,62,61,94,96,36,39,92,42,63,91]:Str),c16) q20 rfl rfl
  try dsimp only at f21
  try simp only[List.map_cons,List.map_nil,oPV_none,oPV_some,Attr.pv_eq,P22_eq,Plumb.pv_eq,Token.pv_eq,P50_eq,Redir.pv_eq,P51_eq,Cmd.pv_eq,P46_eq,Word.pv_eq,P54_eq,Var.pv_eq,P324_eq,GEnv.pv_eq,GValue.pv_eq,P59_eq,Qid.pv_eq,P66_eq,Dir.pv_eq,Msg.pv_eq,Call.pv_eq,P60_eq,Client.pv_eq,S274.pv_eq,S276.pv_eq,P81_eq,Port.pv_eq,Pattern.pv_eq,P153_eq,Rule.pv_eq,P29_eq,P30_eq,Plumber.pv_eq]at f21
  apply AW.rg hS [0,13,21]
  ·exact di1 (an f18.1 (an f18.2.1 (an f18.2.2 (an pf_90 f21))))
  refine AW.iff_ h rfl rfl (fun hb22 h=>?_) (fun hb22 h=>?_)
  ·refine AW.seq ?_
   apply AW.rg hS [2]
   ·exact di
   refine AW.ret ?_
   cases h
   exact fin
  refine AW.skip ?_
  exact⟨(m13,runeN s1 p10),h,(Weak.norm (m:=1) (Nat.le_of_ble_eq_true rfl) kp hq rfl rfl),Nat.lt_succ_self _⟩
 replace h:=bif_f hsp4 h
 have f14:=enext_f (H:=[.iter s1 p10]) (l:=0) rfl (of_decide_eq_false hsp4)
 refine AW.reg hS [(0,.pv (.str s1)),(13,.ref 0 0),(14,.tup [.pv (.bool false)]),(15,.pv (.bool false))] [.iter s1 p10] ?_ ?_
 ·exact dk1 f14
 refine AW.seq ?_
 refine AW.cond (b:=false) rfl (fun hb=>absurd hb (by decide)) (fun _=>?_)
 cases h
set_option maxHeartbeats 4000000 in
theorem g_F14(c:AllG env [(S43 F43),SL_ReplaceAll]):GoodH env (S14 F14):=by
 obtain⟨O,X,hS,hX,hpf,hk⟩:=orcs (pf:=pfn) c
 have pf_43:O.pf 43=true:=pft hpf 43 rfl
 have pf_44:O.pf 44=true:=pft hpf 44 rfl
 refine GH (fn:=Tryz.f14) fn_14 rfl rfl 10 rfl [] rfl ?_
 rintro(s1:Str) (r:Str) h m em
 refine GHs rfl rfl em rfl rfl rfl ?_
 clear em m
 replace h:F14 s1=some r:=h
 rw[F14]at h
 refine AW.seq ?_
 apply AW.rg hS [0]
 ·exact di
 refine AW.seq ?_
 refine AW.seq ?_
 replace h:=obs h;obtain⟨r3,q4,h⟩:=h
 have f5:=(hk 0 43 rfl).ret s1 q4 rfl rfl
 try dsimp only at f5
 apply AW.rg hS [0,4]
 ·exact di1 (an pf_43 f5)
 refine AW.iff_ h rfl rfl (fun hb6 h=>?_) (fun hb6 h=>?_)
 ·cases h
 refine AW.skip ?_
 refine AW.seq ?_
 replace h:=obs h;obtain⟨t7,q8,h⟩:=h
 have f9:=(hk 1 44 rfl).ret (s1,([39]:Str),([39,39]:Str)) q8 rfl rfl
 try dsimp only at f9
 try simp only[List.map_cons,List.map_nil,oPV_none,oPV_some,Attr.pv_eq,P22_eq,Plumb.pv_eq,Token.pv_eq,P50_eq,Redir.pv_eq,P51_eq,Cmd.pv_eq,P46_eq,Word.pv_eq,P54_eq,Var.pv_eq,P324_eq,GEnv.pv_eq,GValue.pv_eq,P59_eq,Qid.pv_eq,P66_eq,Dir.pv_eq,Msg.pv_eq,Call.pv_eq,P60_eq,Client.pv_eq,S274.pv_eq,S276.pv_eq,P81_eq,Port.pv_eq,Pattern.pv_eq,P153_eq,Rule.pv_eq,P29_eq,P30_eq,Plumber.pv_eq]at f9
 replace h:=obs h;obtain⟨s10,q11,h⟩:=h
 have f12:=catO_f q11
 try simp only[List.length_cons,List.length_nil,List.length_replicate,Nat.zero_add,Nat.reduceAdd,Nat.reduceLeDiff,Nat.add_zero,Nat.reduceMul]at f12
 replace h:=obs h;obtain⟨s13,q14,h⟩:=h
 have f15:=catO_f q14
 try simp only[List.length_cons,List.length_nil,List.length_replicate,Nat.zero_add,Nat.reduceAdd,Nat.reduceLeDiff,Nat.add_zero,Nat.reduceMul]at f15
 apply AW.rg hS [2]
 ·exact di1 (an pf_44 (an f9 (an f12.1 (an f12.2 (an f15.1 f15.2)))))
 refine AW.ret ?_
 cases h
 exact fin
set_option maxHeartbeats 4000000 in
theorem g_F149(c:AllG env []):GoodH env (S149 F149):=by
 obtain⟨O,X,hS,hX,hpf,hk⟩:=orcs (pf:=pfn) c
 refine GH (fn:=Tryz.f149) fn_149 rfl rfl 18 rfl [] rfl ?_
 rintro(⟨s1,prefix2⟩:Str×Str) (r:Bool) h m em
 refine GHs rfl rfl em rfl rfl rfl ?_
 clear em m
 replace h:F149 s1 prefix2=some r:=h
 rw[F149]at h
 refine AW.seq ?_
 apply AW.rg hS [0,1]
 ·exact di
 refine AW.seq ?_
 replace h:=obs h;obtain⟨t4,q5,h⟩:=h
 have f6:=sslice_g (guardO_t q5)
 try simp only[Int.toNat_natCast,Int.toNat_zero,Int.reduceToNat,Nat.sub_zero,List.drop_zero,List.length_map]at f6
 have f6e:=f6.2.2.2.2
 try simp only[Int.toNat_natCast,Int.toNat_zero,Int.reduceToNat,Nat.sub_zero,List.drop_zero,List.length_map]at f6e
 have f6l:=f6.2.2.1
 try simp only[Int.toNat_natCast,Int.toNat_zero,Int.reduceToNat,Nat.sub_zero,List.drop_zero,List.length_map]at f6l
 refine AW.reg hS [(4,.pv (.bool (decide ((prefix2.length:Int)≤(s1.length:Int))&&decide (t4=prefix2))))] [] ?_ ?_
 ·clear h hk hpf hS hX c
  exact dh1 (an f6.1 (an f6.2.1 (an f6l (an f6.2.2.2.1 f6e))))
 refine AW.ret ?_
 cases h
 exact fin
set_option maxHeartbeats 4000000 in
theorem g_F75(c:AllG env [(S149 F149)]):GoodH env (S75 F75):=by
 obtain⟨O,X,hS,hX,hpf,hk⟩:=orcs (pf:=pfn) c
 have pf_149:O.pf 149=true:=pft hpf 149 rfl
 refine GH (fn:=Tryz.f75) fn_75 rfl rfl 8 rfl [] rfl ?_
 rintro(⟨s1,prefix2⟩:Str×Str) (r:Bool) h m em
 refine GHs rfl rfl em rfl rfl rfl ?_
 clear em m
 replace h:F75 s1 prefix2=some r:=h
 rw[F75]at h
 refine AW.seq ?_
 apply AW.rg hS [0,1]
 ·exact di
 refine AW.seq ?_
 replace h:=obs h;obtain⟨r4,q5,h⟩:=h
 have f6:=(hk 0 149 rfl).ret (s1,prefix2) q5 rfl rfl
 try dsimp only at f6
 apply AW.rg hS [4]
 ·exact di1 (an pf_149 f6)
 refine AW.ret ?_
 cases h
 exact fin
set_option maxHeartbeats 4000000 in
theorem g_F89x1(c:AllG env []):GoodH env (S89x1 F89x1):=by
 obtain⟨O,X,hS,hX,hpf,hk⟩:=orcs (pf:=pfn) c
 refine GH (fn:=Tryz.f89) fn_89 rfl rfl 12 rfl [] rfl ?_
 rintro(⟨x1,x2,x3,x4,x5,l6⟩:Str×Int×Int×Int×Int×(List Token)) (r:Str) h m em
 refine GHs rfl rfl em rfl rfl rfl ?_
 clear em m
 replace h:F89x1 x1 x2 x3 x4 x5 l6=some r:=h
 rw[F89x1]at h
 refine AW.seq ?_
 apply AW.rg hS [0]
 ·exact di
 refine AW.seq ?_
 replace h:=obs h;obtain⟨t8,q9,h⟩:=h
 have f10:=sslice_f q9
 try simp only[Int.toNat_natCast,Int.toNat_zero,Int.reduceToNat,Nat.sub_zero,List.drop_zero,List.length_map]at f10
 have f10e:=f10.2.2.2.2
 try simp only[Int.toNat_natCast,Int.toNat_zero,Int.reduceToNat,Nat.sub_zero,List.drop_zero,List.length_map]at f10e
 have f10l:=f10.2.2.1
 try simp only[Int.toNat_natCast,Int.toNat_zero,Int.reduceToNat,Nat.sub_zero,List.drop_zero,List.length_map]at f10l
 apply AW.dgk mixed hS [2] (ordp hpf (by kernel_rfl))
 ·exact di1 (an f10.1 (an f10.2.1 (an f10l (an f10.2.2.2.1 f10e))))
 refine AW.ret ?_
 cases h
 exact fin
set_option maxHeartbeats 4000000 in
theorem g_F88x1(c:AllG env [(S89x1 F89x1),(S75 F75)]):GoodH env (S88x1 F88x1):=by
 obtain⟨O,X,hS,hX,hpf,hk⟩:=orcs (pf:=pfn) c
 have pf_75:O.pf 75=true:=pft hpf 75 rfl
 have pf_89:O.pf 89=false:=pft hpf 89 rfl
 refine GH (fn:=Tryz.f88) fn_88 rfl rfl 29 rfl [] rfl ?_
 rintro(⟨x1,x2,x3,x4,x5,l6⟩:Str×Int×Int×Int×Int×(List Token)) (r:Int) h m em
 refine GHs rfl rfl em rfl rfl rfl ?_
 clear em m
 replace h:F88x1 x1 x2 x3 x4 x5 l6=some r:=h
 rw[F88x1]at h
 refine AW.block ?_
 refine AW.lp (α:=Nat×Int) (fun(_,x8)=>⟨sl [(0,.ref 0 0)],29,[.var [.pv (.str x1),.pv (.int .i64 x8),.vec 1 (List.length l6),.nils,.pv (.int .i64 x3),.pv (.int .i64 x4),.pv (.int .i64 x5)],.row 238 4 (List.map Token.pv l6) true]⟩) (fun x=>iter (F88x1_b1 x1 x3 x4 x5 l6) x.1 x.2=some r) (fun x=>x.1) (BIG,x2) (Weak.slots kp) h ?_
 clear h
 intro⟨n27,x8⟩ h
 replace h:=iter_some h;obtain⟨m11,rfl,h⟩:=h
 rw[F88x1_b1]at h
 try dsimp only at h
 refine AW.st ?_
 refine AW.block ?_
 refine AW.seq ?_
 replace h:=obs h;obtain⟨r12,q13,h⟩:=h
 have f14:=(hk 0 89 rfl).ret (x1,x8,x3,x4,x5,l6) q13 rfl rfl
 try dsimp only at f14
 have e15:ecall O [.var [.pv (.str x1),.pv (.int .i64 x8),.vec 1 (List.length l6),.nils,.pv (.int .i64 x3),.pv (.int .i64 x4),.pv (.int .i64 x5)],.row 238 4 (List.map Token.pv l6) true] 89 [.ref 0 0]=some (retAV [.pv (.str r12)],[.var [.pv (.str x1),.pv (.int .i64 x8),.vec 1 (List.length l6),.nils,.pv (.int .i64 x3),.pv (.int .i64 x4),.pv (.int .i64 x5)],.row 238 4 (List.map Token.pv l6) true]):=ecall_eq rfl rfl rfl f14 rfl rfl rfl
 apply AW.rg hS [0,2]
 ·exact di1 (an pf_89 e15)
 refine AW.block ?_
 refine AW.seq ?_
 replace h:=obs h;obtain⟨r16,q17,h⟩:=h
 have f18:=(hk 1 75 rfl).ret (r12,([32]:Str)) q17 rfl rfl
 try dsimp only at f18
 try simp only[List.map_cons,List.map_nil,oPV_none,oPV_some,Attr.pv_eq,P22_eq,Plumb.pv_eq,Token.pv_eq,P50_eq,Redir.pv_eq,P51_eq,Cmd.pv_eq,P46_eq,Word.pv_eq,P54_eq,Var.pv_eq,P324_eq,GEnv.pv_eq,GValue.pv_eq,P59_eq,Qid.pv_eq,P66_eq,Dir.pv_eq,Msg.pv_eq,Call.pv_eq,P60_eq,Client.pv_eq,S274.pv_eq,S276.pv_eq,P81_eq,Port.pv_eq,Pattern.pv_eq,P153_eq,Rule.pv_eq,P29_eq,P30_eq,Plumber.pv_eq]at f18
 replace h:=obs h;obtain⟨r19,q20,h⟩:=h
 replace q20:=guardO_t q20
 have f21:=fun hg=>(hk 1 75 rfl).ret (r12,([9]:Str)) (q20 hg) rfl rfl
 try dsimp only at f21
 try simp only[List.map_cons,List.map_nil,oPV_none,oPV_some,Attr.pv_eq,P22_eq,Plumb.pv_eq,Token.pv_eq,P50_eq,Redir.pv_eq,P51_eq,Cmd.pv_eq,P46_eq,Word.pv_eq,P54_eq,Var.pv_eq,P324_eq,GEnv.pv_eq,GValue.pv_eq,P59_eq,Qid.pv_eq,P66_eq,Dir.pv_eq,Msg.pv_eq,Call.pv_eq,P60_eq,Client.pv_eq,S274.pv_eq,S276.pv_eq,P81_eq,Port.pv_eq,Pattern.pv_eq,P153_eq,Rule.pv_eq,P29_eq,P30_eq,Plumber.pv_eq]at f21
 refine AW.reg hS [(0,.ref 0 0),(2,.pv (.str r12)),(5,.pv (.bool (r16||r19)))] [.var [.pv (.str x1),.pv (.int .i64 x8),.vec 1 (List.length l6),.nils,.pv (.int .i64 x3),.pv (.int .i64 x4),.pv (.int .i64 x5)],.row 238 4 (List.map Token.pv l6) true] ?_ ?_
 ·clear h hk hpf hS hX c
  exact dh1 (an pf_75 (an f18 f21))
 refine AW.iff_ h rfl rfl (fun hb22 h=>?_) (fun hb22 h=>?_)
 ·apply AW.rg hS [0]
  ·exact di
  exact⟨(m11,IntKind.wrap .i64 (x8+1)),h,(Weak.norm (m:=2) (Nat.le_of_ble_eq_true rfl) kp hq rfl rfl),Nat.lt_succ_self _⟩
 refine AW.seq ?_
 replace h:=obs h;obtain⟨r23,q24,h⟩:=h
 have f25:=(hk 1 75 rfl).ret (r12,([92,10]:Str)) q24 rfl rfl
 try dsimp only at f25
 try simp only[List.map_cons,List.map_nil,oPV_none,oPV_some,Attr.pv_eq,P22_eq,Plumb.pv_eq,Token.pv_eq,P50_eq,Redir.pv_eq,P51_eq,Cmd.pv_eq,P46_eq,Word.pv_eq,P54_eq,Var.pv_eq,P324_eq,GEnv.pv_eq,GValue.pv_eq,P59_eq,Qid.pv_eq,P66_eq,Dir.pv_eq,Msg.pv_eq,Call.pv_eq,P60_eq,Client.pv_eq,S274.pv_eq,S276.pv_eq,P81_eq,Port.pv_eq,Pattern.pv_eq,P153_eq,Rule.pv_eq,P29_eq,P30_eq,Plumber.pv_eq]at f25
 apply AW.rg hS [19]
 ·exact di1 (an pf_75 f25)
 refine AW.iff_ h rfl rfl (fun hb26 h=>?_) (fun hb26 h=>?_)
 ·cases h
 refine AW.ret ?_
 cases h
 exact fin
set_option maxHeartbeats 4000000 in
theorem g_F164x1(c:AllG env []):GoodH env (S164x1 F164x1):=by
 obtain⟨O,X,hS,hX,hpf,hk⟩:=orcs (pf:=pfn) c
 refine GH (fn:=Tryz.f164) fn_164 rfl rfl 34 rfl [] rfl ?_
 rintro(⟨x1,x2,x3,x4,x5,l6⟩:Str×Int×Int×Int×Int×(List Token)) (r:Bool) h m em
 refine GHs rfl rfl em rfl rfl rfl ?_
 clear em m
 replace h:F164x1 x1 x2 x3 x4 x5 l6=some r:=h
 rw[F164x1]at h
 refine AW.seq ?_
 apply AW.rg hS [0]
 ·exact di
 refine AW.seq ?_
 apply AW.rg hS [0,3]
 ·exact di
 refine AW.seq ?_
 replace h:=obs h;obtain⟨u8,q9,h⟩:=h
 have f10:=lidx_g (guardO_t q9)
 refine AW.dreg mixed hS (ordp hpf (by kernel_rfl)) [(2,.pv (.bool ((decide (0<(l6.length:Int))&&decide (u8.kind_=1))&&decide (x3=x2))))] [.var [.pv (.str x1),.pv (.int .i64 x2),.vec 1 (List.length l6),.nils,.pv (.int .i64 x3),.pv (.int .i64 x4),.pv (.int .i64 x5)],.row 238 4 (List.map Token.pv l6) true] ?_ ?_
 ·clear h hk hpf hS hX c
  exact dh1 (an f10.1 (an f10.2.1 f10.2.2))
 refine AW.ret ?_
 cases h
 exact fin
set_option maxHeartbeats 4000000 in
theorem g_F165x1(c:AllG env [(S89x1 F89x1),(S75 F75),SL_IndexByte]):GoodH env (S165x1 F165x1):=by
 obtain⟨O,X,hS,hX,hpf,hk⟩:=orcs (pf:=pfn) c
 have pf_75:O.pf 75=true:=pft hpf 75 rfl
 have pf_89:O.pf 89=false:=pft hpf 89 rfl
 have pf_90:O.pf 90=true:=pft hpf 90 rfl
 refine GH (fn:=Tryz.f165) fn_165 rfl rfl 73 rfl [] rfl ?_
 rintro(⟨x1,x2,x3,x4,x5,l6⟩:Str×Int×Int×Int×Int×(List Token)) (r:Str×Bool) h m em
 refine GHs rfl rfl em rfl rfl rfl ?_
 clear em m
 replace h:F165x1 x1 x2 x3 x4 x5 l6=some r:=h
 rw[F165x1]at h
 refine AW.seq ?_
 apply AW.rg hS [0]
 ·exact di
 refine AW.seq ?_
 replace h:=obs h;obtain⟨r9,q10,h⟩:=h
 have f11:=(hk 0 89 rfl).ret (x1,x2,x3,x4,x5,l6) q10 rfl rfl
 try dsimp only at f11
 have e12:ecall O [.var [.pv (.str x1),.pv (.int .i64 x2),.vec 1 (List.length l6),.nils,.pv (.int .i64 x3),.pv (.int .i64 x4),.pv (.int .i64 x5)],.row 238 4 (List.map Token.pv l6) true] 89 [.ref 0 0]=some (retAV [.pv (.str r9)],[.var [.pv (.str x1),.pv (.int .i64 x2),.vec 1 (List.length l6),.nils,.pv (.int .i64 x3),.pv (.int .i64 x4),.pv (.int .i64 x5)],.row 238 4 (List.map Token.pv l6) true]):=ecall_eq rfl rfl rfl f11 rfl rfl rfl
 apply AW.rg hS [4]
 ·exact di1 (an pf_89 e12)
 refine AW.seq ?_
 refine AW.seq ?_
 apply AW.rg hS [4,12,13,14]
 ·exact di
 refine AW.block ?_
 refine AW.lp (α:=Nat×Int) (fun(_,i13)=>⟨sl [(4,.pv (.str r9)),(12,.full (List.map PV.str [[38,38],[124,124],[36,35]])),(13,.pv (.int .i64 ([[38,38],[124,124],[36,35]].length:Int))),(14,.pv (.int .i64 i13))],73,[.var [.pv (.str x1),.pv (.int .i64 x2),.vec 1 (List.length l6),.nils,.pv (.int .i64 x3),.pv (.int .i64 x4),.pv (.int .i64 x5)],.row 238 4 (List.map Token.pv l6) true]⟩) (fun x=>iter (F165x1_b1 r9) x.1 x.2=some r) (fun x=>x.1) (BIG,0) (Weak.slots kp) h ?_
 clear h
 intro⟨n46,i13⟩ h
 replace h:=iter_some h;obtain⟨m16,rfl,h⟩:=h
 rw[F165x1_b1]at h
 try dsimp only at h
 refine AW.st ?_
 refine AW.seq ?_
 apply AW.rg hS [4,12,13,14,15]
 ·exact di
 refine AW.seq ?_
 refine AW.iff_ h rfl rfl (fun hb17 h=>?_) (fun hb17 h=>?_)
 ·refine AW.skip ?_
  refine AW.seq ?_
  refine AW.block ?_
  refine AW.seq ?_
  replace h:=obs h;obtain⟨w18,q19,h⟩:=h
  have f20:=lidx_f q19
  have f20m:(List.map PV.str [[38,38],[124,124],[36,35]])[Int.toNat i13]?=some (PV.str w18):=by rw[List.getElem?_map,f20.2.1];rfl
  try simp only[List.map_cons,List.map_nil]at f20m
  apply AW.rg hS [4,6,12,13,14]
  ·exact di1 (an f20.1 (an f20.2.1 f20m))
  refine AW.seq ?_
  replace h:=obs h;obtain⟨r21,q22,h⟩:=h
  have f23:=(hk 1 75 rfl).ret (r9,w18) q22 rfl rfl
  try dsimp only at f23
  apply AW.rg hS [4,12,13,14,20]
  ·exact di1 (an pf_75 f23)
  refine AW.iff_ h rfl rfl (fun hb24 h=>?_) (fun hb24 h=>?_)
  ·cases h
  refine AW.skip ?_
  apply AW.rg hS [4,12,13,14]
  ·exact di
  exact⟨(m16,IntKind.wrap .i64 (i13+1)),h,(Weak.norm (m:=2) (Nat.le_of_ble_eq_true rfl) kp hq rfl rfl),Nat.lt_succ_self _⟩
 refine AW.exit ?_
 refine AW.seq ?_
 refine AW.seq ?_
 apply AW.rg hS [4,24]
 ·exact di
 refine AW.iff_ h rfl rfl (fun hb25 h=>?_) (fun hb25 h=>?_)
 ·cases h
 refine AW.skip ?_
 refine AW.seq ?_
 refine AW.seq ?_
 replace h:=obs h;obtain⟨c26,q27,h⟩:=h
 have f28:=sidx_f q27
 try simp only[Int.toNat_natCast,Int.toNat_zero,Int.reduceToNat,Nat.sub_zero,List.drop_zero,List.length_map]at f28
 replace h:=obs h;obtain⟨n29,q30,h⟩:=h
 have f31:=(hk 2 90 rfl).ret (([59,38,40,41,123,125,61,94,96,36,33,64]:Str),c26) q30 rfl rfl
 try dsimp only at f31
 try simp only[List.map_cons,List.map_nil,oPV_none,oPV_some,Attr.pv_eq,P22_eq,Plumb.pv_eq,Token.pv_eq,P50_eq,Redir.pv_eq,P51_eq,Cmd.pv_eq,P46_eq,Word.pv_eq,P54_eq,Var.pv_eq,P324_eq,GEnv.pv_eq,GValue.pv_eq,P59_eq,Qid.pv_eq,P66_eq,Dir.pv_eq,Msg.pv_eq,Call.pv_eq,P60_eq,Client.pv_eq,S274.pv_eq,S276.pv_eq,P81_eq,Port.pv_eq,Pattern.pv_eq,P153_eq,Rule.pv_eq,P29_eq,P30_eq,Plumber.pv_eq]at f31
 apply AW.rg hS [4,28]
 ·exact di1 (an f28.1 (an f28.2.1 (an f28.2.2 (an pf_90 f31))))
 refine AW.iff_ h rfl rfl (fun hb32 h=>?_) (fun hb32 h=>?_)
 ·cases h
 refine AW.skip ?_
 refine AW.seq ?_
 refine AW.seq ?_
 apply AW.rg hS [4,31,32,33]
 ·exact di
 refine AW.block ?_
 refine AW.lp (α:=Nat×Int) (fun(_,i33)=>⟨sl [(4,.pv (.str r9)),(31,.full (List.map PV.str [[62,62],[62],[60],[124]])),(32,.pv (.int .i64 ([[62,62],[62],[60],[124]].length:Int))),(33,.pv (.int .i64 i33))],73,[.var [.pv (.str x1),.pv (.int .i64 x2),.vec 1 (List.length l6),.nils,.pv (.int .i64 x3),.pv (.int .i64 x4),.pv (.int .i64 x5)],.row 238 4 (List.map Token.pv l6) true]⟩) (fun x=>iter (F165x1_b2 r9) x.1 x.2=some r) (fun x=>x.1) (BIG,0) (Weak.slots kp) h ?_
 clear h
 intro⟨n45,i33⟩ h
 replace h:=iter_some h;obtain⟨m36,rfl,h⟩:=h
 rw[F165x1_b2]at h
 try dsimp only at h
 refine AW.st ?_
 refine AW.seq ?_
 apply AW.rg hS [4,31,32,33,34]
 ·exact di
 refine AW.seq ?_
 refine AW.iff_ h rfl rfl (fun hb37 h=>?_) (fun hb37 h=>?_)
 ·refine AW.skip ?_
  refine AW.seq ?_
  refine AW.block ?_
  refine AW.seq ?_
  replace h:=obs h;obtain⟨w38,q39,h⟩:=h
  have f40:=lidx_f q39
  have f40m:(List.map PV.str [[62,62],[62],[60],[124]])[Int.toNat i33]?=some (PV.str w38):=by rw[List.getElem?_map,f40.2.1];rfl
  try simp only[List.map_cons,List.map_nil]at f40m
  apply AW.rg hS [4,8,31,32,33]
  ·exact di1 (an f40.1 (an f40.2.1 f40m))
  refine AW.seq ?_
  refine AW.seq ?_
  replace h:=obs h;obtain⟨r41,q42,h⟩:=h
  have f43:=(hk 1 75 rfl).ret (r9,w38) q42 rfl rfl
  try dsimp only at f43
  apply AW.rg hS [4,31,32,33,40]
  ·exact di1 (an pf_75 f43)
  refine AW.iff_ h rfl rfl (fun hb44 h=>?_) (fun hb44 h=>?_)
  ·refine AW.exit ?_
   apply AW.rg hS [4,31,32,33]
   ·exact di
   exact⟨(m36,IntKind.wrap .i64 (i33+1)),h,(Weak.norm (m:=2) (Nat.le_of_ble_eq_true rfl) kp hq rfl rfl),Nat.lt_succ_self _⟩
  cases h
 refine AW.exit ?_
 refine AW.seq ?_
 apply AW.rg hS [2,3]
 ·exact di
 refine AW.ret ?_
 cases h
 exact fin
set_option maxHeartbeats 4000000 in
theorem g_F230x1(c:AllG env [(S89x1 F89x1),SL_IndexByte,(S75 F75)]):GoodH env (S230x1 F230x1):=by
 obtain⟨O,X,hS,hX,hpf,hk⟩:=orcs (pf:=pfn) c
 have pf_75:O.pf 75=true:=pft hpf 75 rfl
 have pf_89:O.pf 89=false:=pft hpf 89 rfl
 have pf_90:O.pf 90=true:=pft hpf 90 rfl
 refine GH (fn:=Tryz.f230) fn_230 rfl rfl 19 rfl [] rfl ?_
 rintro(⟨x1,x2,x3,x4,x5,l6⟩:Str×Int×Int×Int×Int×(List Token)) (r:Bool) h m em
 refine GHs rfl rfl em rfl rfl rfl ?_
 clear em m
 replace h:F230x1 x1 x2 x3 x4 x5 l6=some r:=h
 rw[F230x1]at h
 refine AW.seq ?_
 apply AW.rg hS [0]
 ·exact di
 refine AW.seq ?_
 replace h:=obs h;obtain⟨r8,q9,h⟩:=h
 have f10:=(hk 0 89 rfl).ret (x1,x2,x3,x4,x5,l6) q9 rfl rfl
 try dsimp only at f10
 have e11:ecall O [.var [.pv (.str x1),.pv (.int .i64 x2),.vec 1 (List.length l6),.nils,.pv (.int .i64 x3),.pv (.int .i64 x4),.pv (.int .i64 x5)],.row 238 4 (List.map Token.pv l6) true] 89 [.ref 0 0]=some (retAV [.pv (.str r8)],[.var [.pv (.str x1),.pv (.int .i64 x2),.vec 1 (List.length l6),.nils,.pv (.int .i64 x3),.pv (.int .i64 x4),.pv (.int .i64 x5)],.row 238 4 (List.map Token.pv l6) true]):=ecall_eq rfl rfl rfl f10 rfl rfl rfl
 apply AW.rg hS [3]
 ·exact di1 (an pf_89 e11)
 refine AW.seq ?_
 replace h:=obs h;obtain⟨c12,q13,h⟩:=h
 have f14:=sidx_g (guardO_t q13)
 try simp only[Int.toNat_natCast,Int.toNat_zero,Int.reduceToNat,Nat.sub_zero,List.drop_zero,List.length_map]at f14
 replace h:=obs h;obtain⟨n15,q16,h⟩:=h
 replace q16:=guardO_t q16
 have f17:=fun hg=>(hk 1 90 rfl).ret (([32,9,10,59,38,124,40,41,123,125,60,62,61,94,96,36,39]:Str),c12) (q16 hg) rfl rfl
 try dsimp only at f17
 try simp only[List.map_cons,List.map_nil,oPV_none,oPV_some,Attr.pv_eq,P22_eq,Plumb.pv_eq,Token.pv_eq,P50_eq,Redir.pv_eq,P51_eq,Cmd.pv_eq,P46_eq,Word.pv_eq,P54_eq,Var.pv_eq,P324_eq,GEnv.pv_eq,GValue.pv_eq,P59_eq,Qid.pv_eq,P66_eq,Dir.pv_eq,Msg.pv_eq,Call.pv_eq,P60_eq,Client.pv_eq,S274.pv_eq,S276.pv_eq,P81_eq,Port.pv_eq,Pattern.pv_eq,P153_eq,Rule.pv_eq,P29_eq,P30_eq,Plumber.pv_eq]at f17
 replace h:=obs h;obtain⟨r18,q19,h⟩:=h
 replace q19:=guardO_t q19
 have f20:=fun hg=>(hk 2 75 rfl).ret (r8,([92,10]:Str)) (q19 hg) rfl rfl
 try dsimp only at f20
 try simp only[List.map_cons,List.map_nil,oPV_none,oPV_some,Attr.pv_eq,P22_eq,Plumb.pv_eq,Token.pv_eq,P50_eq,Redir.pv_eq,P51_eq,Cmd.pv_eq,P46_eq,Word.pv_eq,P54_eq,Var.pv_eq,P324_eq,GEnv.pv_eq,GValue.pv_eq,P59_eq,Qid.pv_eq,P66_eq,Dir.pv_eq,Msg.pv_eq,Call.pv_eq,P60_eq,Client.pv_eq,S274.pv_eq,S276.pv_eq,P81_eq,Port.pv_eq,Pattern.pv_eq,P153_eq,Rule.pv_eq,P29_eq,P30_eq,Plumber.pv_eq]at f20
 refine AW.reg hS [(2,.pv (.bool ((!decide (r8=[])&&decide (n15<0))&&!r18)))] [.var [.pv (.str x1),.pv (.int .i64 x2),.vec 1 (List.length l6),.nils,.pv (.int .i64 x3),.pv (.int .i64 x4),.pv (.int .i64 x5)],.row 238 4 (List.map Token.pv l6) true] ?_ ?_
 ·clear h hk hpf hS hX c
  exact dh1 (an f14.1 (an f14.2.1 (an f14.2.2 (an pf_90 (an f17 (an pf_75 f20))))))
 refine AW.ret ?_
 cases h
 exact fin
set_option maxHeartbeats 4000000 in
theorem g_F231x1(c:AllG env [(S89x1 F89x1),SL_IndexByte,SL_WriteString,(S75 F75),SL_String]):GoodH env (S231x1 F231x1):=by
 obtain⟨O,X,hS,hX,hpf,hk⟩:=orcs (pf:=pfn) c
 have pf_64:O.pf 64=false:=pft hpf 64 rfl
 have pf_65:O.pf 65=false:=pft hpf 65 rfl
 have pf_75:O.pf 75=true:=pft hpf 75 rfl
 have pf_89:O.pf 89=false:=pft hpf 89 rfl
 have pf_90:O.pf 90=true:=pft hpf 90 rfl
 refine GH (fn:=Tryz.f231) fn_231 rfl rfl 64 rfl [] rfl ?_
 rintro(⟨x1,x2,x3,x4,x5,l6⟩:Str×Int×Int×Int×Int×(List Token)) (r:Str×Bool×Int) h m em
 refine GHs rfl rfl em rfl rfl rfl ?_
 clear em m
 replace h:F231x1 x1 x2 x3 x4 x5 l6=some r:=h
 rw[F231x1]at h
 refine AW.seq ?_
 apply AW.rg hS [0]
 ·exact di
 refine AW.seq ?_
 apply AW.rg hS [0]
 ·exact di
 refine AW.seq ?_
 apply AW.rg hS [0]
 ·exact di
 refine AW.seq ?_
 apply AW.rg hS [0,5]
 ·exact di
 refine AW.block ?_
 refine AW.lp (α:=Nat×Unit) (fun(_,_)=>⟨sl [(0,.ref 0 0),(5,.ref 2 0)],64,[.var [.pv (.str x1),.pv (.int .i64 (IntKind.wrap .i64 (x2+1))),.vec 1 (List.length l6),.nils,.pv (.int .i64 x3),.pv (.int .i64 x4),.pv (.int .i64 x5)],.row 238 4 (List.map Token.pv l6) true,.bld []]⟩) (fun x=>iter (F231x1_b1 x1 x2 x3 x4 x5 l6) x.1 x.2=some r) (fun x=>x.1) (BIG,()) (Weak.slots kp) h ?_
 clear h
 intro⟨n41,_⟩ h
 replace h:=iter_some h;obtain⟨m12,rfl,h⟩:=h
 rw[F231x1_b1]at h
 try dsimp only at h
 refine AW.st ?_
 refine AW.block ?_
 refine AW.seq ?_
 replace h:=obs h;obtain⟨r13,q14,h⟩:=h
 have f15:=(hk 0 89 rfl).ret (x1,IntKind.wrap .i64 (x2+1),x3,x4,x5,l6) q14 rfl rfl
 try dsimp only at f15
 have e16:ecall O [.var [.pv (.str x1),.pv (.int .i64 (IntKind.wrap .i64 (x2+1))),.vec 1 (List.length l6),.nils,.pv (.int .i64 x3),.pv (.int .i64 x4),.pv (.int .i64 x5)],.row 238 4 (List.map Token.pv l6) true,.bld []] 89 [.ref 0 0]=some (retAV [.pv (.str r13)],[.var [.pv (.str x1),.pv (.int .i64 (IntKind.wrap .i64 (x2+1))),.vec 1 (List.length l6),.nils,.pv (.int .i64 x3),.pv (.int .i64 x4),.pv (.int .i64 x5)],.row 238 4 (List.map Token.pv l6) true,.bld []]):=ecall_eq rfl rfl rfl f15 rfl rfl rfl
 replace h:=obs h;obtain⟨n17,q18,h⟩:=h
 have f19:=(hk 1 90 rfl).ret (r13,39) q18 rfl rfl
 try dsimp only at f19
 apply AW.rg hS [0,5,6]
 ·exact di1 (an pf_89 (an e16 (an pf_90 f19)))
 refine AW.seq ?_
 refine AW.seq ?_
 apply AW.rg hS [0,5,6,22]
 ·exact di
 refine AW.iff_ h rfl rfl (fun hb20 h=>?_) (fun hb20 h=>?_)
 ·cases h
 refine AW.skip ?_
 refine AW.seq ?_
 replace h:=obs h;obtain⟨t21,q22,h⟩:=h
 have f23:=sslice_f q22
 try simp only[Int.toNat_natCast,Int.toNat_zero,Int.reduceToNat,Nat.sub_zero,List.drop_zero,List.length_map]at f23
 have f23e:=f23.2.2.2.2
 try simp only[Int.toNat_natCast,Int.toNat_zero,Int.reduceToNat,Nat.sub_zero,List.drop_zero,List.length_map]at f23e
 have f23l:=f23.2.2.1
 try simp only[Int.toNat_natCast,Int.toNat_zero,Int.reduceToNat,Nat.sub_zero,List.drop_zero,List.length_map]at f23l
 replace h:=obs h;obtain⟨⟨n24,c25⟩,q26,h⟩:=h
 dsimp only at h
 have f27:=(hk 2 64 rfl).ret (([]:Str),t21) q26 rfl rfl
 try dsimp only at f27
 have e28:ecall O [.var [.pv (.str x1),.pv (.int .i64 (IntKind.wrap .i64 (x2+1))),.vec 1 (List.length l6),.nils,.pv (.int .i64 x3),.pv (.int .i64 x4),.pv (.int .i64 x5)],.row 238 4 (List.map Token.pv l6) true,.bld []] 64 [.ref 2 0,.pv (.str t21)]=some (retAV [.pv (.int .i64 n24),.pv (.nil)],[.var [.pv (.str x1),.pv (.int .i64 (IntKind.wrap .i64 (x2+1))),.vec 1 (List.length l6),.nils,.pv (.int .i64 x3),.pv (.int .i64 x4),.pv (.int .i64 x5)],.row 238 4 (List.map Token.pv l6) true,.bld c25]):=ecall_eq rfl rfl rfl f27 rfl rfl rfl
 apply AW.dgk mixed hS [0,5,6] (ordp hpf (by kernel_rfl))
 ·exact di1 (an f23.1 (an f23.2.1 (an f23l (an f23.2.2.2.1 (an f23e (an pf_64 e28))))))
 refine AW.seq ?_
 apply AW.rg hS [0,5]
 ·exact di
 refine AW.seq ?_
 refine AW.seq ?_
 replace h:=obs h;obtain⟨r29,q30,h⟩:=h
 have f31:=(hk 0 89 rfl).ret (x1,IntKind.wrap .i64 ((IntKind.wrap .i64 (x2+1))+(IntKind.wrap .i64 (n17+1))),x3,x4,x5,l6) q30 rfl rfl
 try dsimp only at f31
 have e32:ecall O [.var [.pv (.str x1),.pv (.int .i64 (IntKind.wrap .i64 ((IntKind.wrap .i64 (x2+1))+(IntKind.wrap .i64 (n17+1))))),.vec 1 (List.length l6),.nils,.pv (.int .i64 x3),.pv (.int .i64 x4),.pv (.int .i64 x5)],.row 238 4 (List.map Token.pv l6) true,.bld c25] 89 [.ref 0 0]=some (retAV [.pv (.str r29)],[.var [.pv (.str x1),.pv (.int .i64 (IntKind.wrap .i64 ((IntKind.wrap .i64 (x2+1))+(IntKind.wrap .i64 (n17+1))))),.vec 1 (List.length l6),.nils,.pv (.int .i64 x3),.pv (.int .i64 x4),.pv (.int .i64 x5)],.row 238 4 (List.map Token.pv l6) true,.bld c25]):=ecall_eq rfl rfl rfl f31 rfl rfl rfl
 replace h:=obs h;obtain⟨r33,q34,h⟩:=h
 have f35:=(hk 3 75 rfl).ret (r29,([39]:Str)) q34 rfl rfl
 try dsimp only at f35
 try simp only[List.map_cons,List.map_nil,oPV_none,oPV_some,Attr.pv_eq,P22_eq,Plumb.pv_eq,Token.pv_eq,P50_eq,Redir.pv_eq,P51_eq,Cmd.pv_eq,P46_eq,Word.pv_eq,P54_eq,Var.pv_eq,P324_eq,GEnv.pv_eq,GValue.pv_eq,P59_eq,Qid.pv_eq,P66_eq,Dir.pv_eq,Msg.pv_eq,Call.pv_eq,P60_eq,Client.pv_eq,S274.pv_eq,S276.pv_eq,P81_eq,Port.pv_eq,Pattern.pv_eq,P153_eq,Rule.pv_eq,P29_eq,P30_eq,Plumber.pv_eq]at f35
 apply AW.rg hS [5,54]
 ·exact di1 (an pf_89 (an e32 (an pf_75 f35)))
 refine AW.iff_ h rfl rfl (fun hb36 h=>?_) (fun hb36 h=>?_)
 ·refine AW.seq ?_
  replace h:=obs h;obtain⟨s37,q38,h⟩:=h
  have f39:=(hk 4 65 rfl).ret c25 q38 rfl rfl
  try dsimp only at f39
  have e40:ecall O [.var [.pv (.str x1),.pv (.int .i64 (IntKind.wrap .i64 ((IntKind.wrap .i64 (x2+1))+(IntKind.wrap .i64 (n17+1))))),.vec 1 (List.length l6),.nils,.pv (.int .i64 x3),.pv (.int .i64 x4),.pv (.int .i64 x5)],.row 238 4 (List.map Token.pv l6) true,.bld c25] 65 [.ref 2 0]=some (retAV [.pv (.str s37)],[.var [.pv (.str x1),.pv (.int .i64 (IntKind.wrap .i64 ((IntKind.wrap .i64 (x2+1))+(IntKind.wrap .i64 (n17+1))))),.vec 1 (List.length l6),.nils,.pv (.int .i64 x3),.pv (.int .i64 x4),.pv (.int .i64 x5)],.row 238 4 (List.map Token.pv l6) true,.gone]):=ecall_eq rfl rfl rfl f39 rfl rfl rfl
  apply AW.rg hS [2,3]
  ·exact di1 (an pf_65 e40)
  refine AW.ret ?_
  cases h
  exact fin
 cases h
set_option maxHeartbeats 4000000 in
theorem g_F163x1(c:AllG env [(S230x1 F230x1),SL_WriteByte,(S89x1 F89x1),(S75 F75),(S231x1 F231x1),SL_WriteString,SL_Repeat,SL_String]):GoodH env (S163x1 F163x1):=by
 obtain⟨O,X,hS,hX,hpf,hk⟩:=orcs (pf:=pfn) c
 have pf_64:O.pf 64=false:=pft hpf 64 rfl
 have pf_65:O.pf 65=false:=pft hpf 65 rfl
 have pf_75:O.pf 75=true:=pft hpf 75 rfl
 have pf_89:O.pf 89=false:=pft hpf 89 rfl
 have pf_178:O.pf 178=true:=pft hpf 178 rfl
 have pf_226:O.pf 226=false:=pft hpf 226 rfl
 have pf_230:O.pf 230=false:=pft hpf 230 rfl
 have pf_231:O.pf 231=false:=pft hpf 231 rfl
 refine GH (fn:=Tryz.f163) fn_163 rfl rfl 49 rfl [] rfl ?_
 rintro(⟨x1,x2,x3,x4,x5,l6⟩:Str×Int×Int×Int×Int×(List Token)) (r:Str×Str×Bool×Int) h m em
 refine GHs rfl rfl em rfl rfl rfl ?_
 clear em m
 replace h:F163x1 x1 x2 x3 x4 x5 l6=some r:=h
 rw[F163x1]at h
 refine AW.seq ?_
 apply AW.rg hS [0]
 ·exact di
 refine AW.seq ?_
 apply AW.rg hS [0,5,6]
 ·exact di
 refine AW.block ?_
 refine AW.lp (α:=Nat×Int×Str×Str) (fun(_,x11,b12,b13)=>⟨sl [(0,.ref 0 0),(5,.ref 2 0),(6,.ref 3 0)],49,[.var [.pv (.str x1),.pv (.int .i64 x11),.vec 1 (List.length l6),.nils,.pv (.int .i64 x3),.pv (.int .i64 x4),.pv (.int .i64 x5)],.row 238 4 (List.map Token.pv l6) true,.bld b12,.bld b13]⟩) (fun x=>iter (F163x1_b1 x1 x3 x4 x5 l6) x.1 x.2=some r) (fun x=>x.1) (BIG,(x2,[],[])) (Weak.slots kp) h ?_
 clear h
 intro⟨n69,x11,b12,b13⟩ h
 replace h:=iter_some h;obtain⟨m16,rfl,h⟩:=h
 rw[F163x1_b1]at h
 try dsimp only at h
 refine AW.st ?_
 refine AW.block ?_
 refine AW.block ?_
 refine AW.seq ?_
 replace h:=obs h;obtain⟨r17,q18,h⟩:=h
 have f19:=(hk 0 230 rfl).ret (x1,x11,x3,x4,x5,l6) q18 rfl rfl
 try dsimp only at f19
 have e20:ecall O [.var [.pv (.str x1),.pv (.int .i64 x11),.vec 1 (List.length l6),.nils,.pv (.int .i64 x3),.pv (.int .i64 x4),.pv (.int .i64 x5)],.row 238 4 (List.map Token.pv l6) true,.bld b12,.bld b13] 230 [.ref 0 0]=some (retAV [.pv (.bool r17)],[.var [.pv (.str x1),.pv (.int .i64 x11),.vec 1 (List.length l6),.nils,.pv (.int .i64 x3),.pv (.int .i64 x4),.pv (.int .i64 x5)],.row 238 4 (List.map Token.pv l6) true,.bld b12,.bld b13]):=ecall_eq rfl rfl rfl f19 rfl rfl rfl
 apply AW.rg hS [0,5,6,11]
 ·exact di1 (an pf_230 e20)
 refine AW.iff_ h rfl rfl (fun hb21 h=>?_) (fun hb21 h=>?_)
 ·refine AW.seq ?_
  replace h:=obs h;obtain⟨c22,q23,h⟩:=h
  have f24:=sidx_f q23
  replace h:=obs h;obtain⟨d25,q26,h⟩:=h
  have f27:=(hk 1 226 rfl).ret (b12,c22) q26 rfl rfl
  try dsimp only at f27
  have e28:ecall O [.var [.pv (.str x1),.pv (.int .i64 x11),.vec 1 (List.length l6),.nils,.pv (.int .i64 x3),.pv (.int .i64 x4),.pv (.int .i64 x5)],.row 238 4 (List.map Token.pv l6) true,.bld b12,.bld b13] 226 [.ref 2 0,.pv (.int .u8 c22)]=some (retAV [.pv (.nil)],[.var [.pv (.str x1),.pv (.int .i64 x11),.vec 1 (List.length l6),.nils,.pv (.int .i64 x3),.pv (.int .i64 x4),.pv (.int .i64 x5)],.row 238 4 (List.map Token.pv l6) true,.bld d25,.bld b13]):=ecall_eq rfl rfl rfl f27 rfl rfl rfl
  apply AW.dgk mixed hS [0,5,6] (ordp hpf (by kernel_rfl))
  ·exact di1 (an f24.1 (an f24.2.1 (an f24.2.2 (an pf_226 e28))))
  refine AW.seq ?_
  replace h:=obs h;obtain⟨d29,q30,h⟩:=h
  have f31:=(hk 1 226 rfl).ret (b13,48) q30 rfl rfl
  try dsimp only at f31
  have e32:ecall O [.var [.pv (.str x1),.pv (.int .i64 x11),.vec 1 (List.length l6),.nils,.pv (.int .i64 x3),.pv (.int .i64 x4),.pv (.int .i64 x5)],.row 238 4 (List.map Token.pv l6) true,.bld d25,.bld b13] 226 [.ref 3 0,.pv (.int .u8 48)]=some (retAV [.pv (.nil)],[.var [.pv (.str x1),.pv (.int .i64 x11),.vec 1 (List.length l6),.nils,.pv (.int .i64 x3),.pv (.int .i64 x4),.pv (.int .i64 x5)],.row 238 4 (List.map Token.pv l6) true,.bld d25,.bld d29]):=ecall_eq rfl rfl rfl f31 rfl rfl rfl
  apply AW.rg hS [0,5,6]
  ·exact di1 (an pf_226 e32)
  apply AW.rg hS [0,5,6]
  ·exact di
  exact⟨(m16,(IntKind.wrap .i64 (x11+1),d25,d29)),h,(Weak.norm (m:=4) (Nat.le_of_ble_eq_true rfl) kp hq rfl rfl),Nat.lt_succ_self _⟩
 refine AW.seq ?_
 replace h:=obs h;obtain⟨r33,q34,h⟩:=h
 have f35:=(hk 2 89 rfl).ret (x1,x11,x3,x4,x5,l6) q34 rfl rfl
 try dsimp only at f35
 have e36:ecall O [.var [.pv (.str x1),.pv (.int .i64 x11),.vec 1 (List.length l6),.nils,.pv (.int .i64 x3),.pv (.int .i64 x4),.pv (.int .i64 x5)],.row 238 4 (List.map Token.pv l6) true,.bld b12,.bld b13] 89 [.ref 0 0]=some (retAV [.pv (.str r33)],[.var [.pv (.str x1),.pv (.int .i64 x11),.vec 1 (List.length l6),.nils,.pv (.int .i64 x3),.pv (.int .i64 x4),.pv (.int .i64 x5)],.row 238 4 (List.map Token.pv l6) true,.bld b12,.bld b13]):=ecall_eq rfl rfl rfl f35 rfl rfl rfl
 replace h:=obs h;obtain⟨r37,q38,h⟩:=h
 have f39:=(hk 3 75 rfl).ret (r33,([39]:Str)) q38 rfl rfl
 try dsimp only at f39
 try simp only[List.map_cons,List.map_nil,oPV_none,oPV_some,Attr.pv_eq,P22_eq,Plumb.pv_eq,Token.pv_eq,P50_eq,Redir.pv_eq,P51_eq,Cmd.pv_eq,P46_eq,Word.pv_eq,P54_eq,Var.pv_eq,P324_eq,GEnv.pv_eq,GValue.pv_eq,P59_eq,Qid.pv_eq,P66_eq,Dir.pv_eq,Msg.pv_eq,Call.pv_eq,P60_eq,Client.pv_eq,S274.pv_eq,S276.pv_eq,P81_eq,Port.pv_eq,Pattern.pv_eq,P153_eq,Rule.pv_eq,P29_eq,P30_eq,Plumber.pv_eq]at f39
 apply AW.rg hS [0,5,6,32]
 ·exact di1 (an pf_89 (an e36 (an pf_75 f39)))
 refine AW.iff_ h rfl rfl (fun hb40 h=>?_) (fun hb40 h=>?_)
 ·refine AW.seq ?_
  replace h:=obs h;obtain⟨⟨r41,r42,x43⟩,q44,h⟩:=h
  dsimp only at h
  have f45:=(hk 4 231 rfl).ret (x1,x11,x3,x4,x5,l6) q44 rfl rfl
  try dsimp only at f45
  have e46:ecall O [.var [.pv (.str x1),.pv (.int .i64 x11),.vec 1 (List.length l6),.nils,.pv (.int .i64 x3),.pv (.int .i64 x4),.pv (.int .i64 x5)],.row 238 4 (List.map Token.pv l6) true,.bld b12,.bld b13] 231 [.ref 0 0]=some (retAV [.pv (.str r41),.pv (.bool r42)],[.var [.pv (.str x1),.pv (.int .i64 x43),.vec 1 (List.length l6),.nils,.pv (.int .i64 x3),.pv (.int .i64 x4),.pv (.int .i64 x5)],.row 238 4 (List.map Token.pv l6) true,.bld b12,.bld b13]):=ecall_eq rfl rfl rfl f45 rfl rfl rfl
  apply AW.rg hS [0,5,6,7,8]
  ·exact di1 (an pf_231 e46)
  refine AW.seq ?_
  refine AW.seq ?_
  apply AW.rg hS [0,5,6,7,42]
  ·exact di
  refine AW.iff_ h rfl rfl (fun hb47 h=>?_) (fun hb47 h=>?_)
  ·cases h
  refine AW.skip ?_
  refine AW.seq ?_
  replace h:=obs h;obtain⟨⟨n48,c49⟩,q50,h⟩:=h
  dsimp only at h
  have f51:=(hk 5 64 rfl).ret (b12,r41) q50 rfl rfl
  try dsimp only at f51
  have e52:ecall O [.var [.pv (.str x1),.pv (.int .i64 x43),.vec 1 (List.length l6),.nils,.pv (.int .i64 x3),.pv (.int .i64 x4),.pv (.int .i64 x5)],.row 238 4 (List.map Token.pv l6) true,.bld b12,.bld b13] 64 [.ref 2 0,.pv (.str r41)]=some (retAV [.pv (.int .i64 n48),.pv (.nil)],[.var [.pv (.str x1),.pv (.int .i64 x43),.vec 1 (List.length l6),.nils,.pv (.int .i64 x3),.pv (.int .i64 x4),.pv (.int .i64 x5)],.row 238 4 (List.map Token.pv l6) true,.bld c49,.bld b13]):=ecall_eq rfl rfl rfl f51 rfl rfl rfl
  apply AW.rg hS [0,5,6,7]
  ·exact di1 (an pf_64 e52)
  replace h:=obs h;obtain⟨t53,q54,h⟩:=h
  have f55:=(hk 6 178 rfl).ret (([49]:Str),(r41.length:Int)) q54 rfl rfl
  try dsimp only at f55
  try simp only[List.map_cons,List.map_nil,oPV_none,oPV_some,Attr.pv_eq,P22_eq,Plumb.pv_eq,Token.pv_eq,P50_eq,Redir.pv_eq,P51_eq,Cmd.pv_eq,P46_eq,Word.pv_eq,P54_eq,Var.pv_eq,P324_eq,GEnv.pv_eq,GValue.pv_eq,P59_eq,Qid.pv_eq,P66_eq,Dir.pv_eq,Msg.pv_eq,Call.pv_eq,P60_eq,Client.pv_eq,S274.pv_eq,S276.pv_eq,P81_eq,Port.pv_eq,Pattern.pv_eq,P153_eq,Rule.pv_eq,P29_eq,P30_eq,Plumber.pv_eq]at f55
  replace h:=obs h;obtain⟨⟨n56,c57⟩,q58,h⟩:=h
  dsimp only at h
  have f59:=(hk 5 64 rfl).ret (b13,t53) q58 rfl rfl
  try dsimp only at f59
  have e60:ecall O [.var [.pv (.str x1),.pv (.int .i64 x43),.vec 1 (List.length l6),.nils,.pv (.int .i64 x3),.pv (.int .i64 x4),.pv (.int .i64 x5)],.row 238 4 (List.map Token.pv l6) true,.bld c49,.bld b13] 64 [.ref 3 0,.pv (.str t53)]=some (retAV [.pv (.int .i64 n56),.pv (.nil)],[.var [.pv (.str x1),.pv (.int .i64 x43),.vec 1 (List.length l6),.nils,.pv (.int .i64 x3),.pv (.int .i64 x4),.pv (.int .i64 x5)],.row 238 4 (List.map Token.pv l6) true,.bld c49,.bld c57]):=ecall_eq rfl rfl rfl f59 rfl rfl rfl
  apply AW.rg hS [0,5,6]
  ·exact di1 (an pf_178 (an f55 (an pf_64 e60)))
  exact⟨(m16,(x43,c49,c57)),h,(Weak.norm (m:=4) (Nat.le_of_ble_eq_true rfl) kp hq rfl rfl),Nat.lt_succ_self _⟩
 refine AW.seq ?_
 replace h:=obs h;obtain⟨s61,q62,h⟩:=h
 have f63:=(hk 7 65 rfl).ret b12 q62 rfl rfl
 try dsimp only at f63
 have e64:ecall O [.var [.pv (.str x1),.pv (.int .i64 x11),.vec 1 (List.length l6),.nils,.pv (.int .i64 x3),.pv (.int .i64 x4),.pv (.int .i64 x5)],.row 238 4 (List.map Token.pv l6) true,.bld b12,.bld b13] 65 [.ref 2 0]=some (retAV [.pv (.str s61)],[.var [.pv (.str x1),.pv (.int .i64 x11),.vec 1 (List.length l6),.nils,.pv (.int .i64 x3),.pv (.int .i64 x4),.pv (.int .i64 x5)],.row 238 4 (List.map Token.pv l6) true,.gone,.bld b13]):=ecall_eq rfl rfl rfl f63 rfl rfl rfl
 replace h:=obs h;obtain⟨s65,q66,h⟩:=h
 have f67:=(hk 7 65 rfl).ret b13 q66 rfl rfl
 try dsimp only at f67
 have e68:ecall O [.var [.pv (.str x1),.pv (.int .i64 x11),.vec 1 (List.length l6),.nils,.pv (.int .i64 x3),.pv (.int .i64 x4),.pv (.int .i64 x5)],.row 238 4 (List.map Token.pv l6) true,.gone,.bld b13] 65 [.ref 3 0]=some (retAV [.pv (.str s65)],[.var [.pv (.str x1),.pv (.int .i64 x11),.vec 1 (List.length l6),.nils,.pv (.int .i64 x3),.pv (.int .i64 x4),.pv (.int .i64 x5)],.row 238 4 (List.map Token.pv l6) true,.gone,.gone]):=ecall_eq rfl rfl rfl f67 rfl rfl rfl
 apply AW.rg hS [2,3,4]
 ·exact di1 (an pf_65 (an e64 e68))
 refine AW.ret ?_
 cases h
 exact fin
set_option maxHeartbeats 4000000 in
theorem g_F160x1(c:AllG env []):GoodH env (S160x1 F160x1):=by
 obtain⟨O,X,hS,hX,hpf,hk⟩:=orcs (pf:=pfn) c
 refine GH (fn:=Tryz.f160) fn_160 rfl rfl 25 rfl [] rfl ?_
 rintro(⟨t1,x2,x3,x4,x5,x6,l7⟩:Token×Str×Int×Int×Int×Int×(List Token)) (r:Bool×(List Token)) h m em
 refine GHs rfl rfl em rfl rfl rfl ?_
 clear em m
 replace h:F160x1 t1 x2 x3 x4 x5 x6 l7=some r:=h
 rw[F160x1]at h
 refine AW.seq ?_
 apply AW.rg hS [0,3]
 ·exact di
 refine AW.seq ?_
 refine AW.seq ?_
 apply AW.rg hS [0,3,10]
 ·exact di
 refine AW.iff_ h rfl rfl (fun hb10 h=>?_) (fun hb10 h=>?_)
 ·cases h
 refine AW.skip ?_
 refine AW.seq ?_
 replace h:=obs h;obtain⟨out11,q12,h⟩:=h
 have f13:=appO_f q12
 try simp only[List.length_cons,List.length_nil,List.length_replicate,Nat.zero_add,Nat.reduceAdd,Nat.reduceLeDiff,Nat.add_zero,Nat.reduceMul]at f13
 have f13m:=appO_m Token.pv q12
 try simp only[List.map_cons,List.map_nil,List.nil_append,oPV_none,oPV_some,Attr.pv_eq,P22_eq,Plumb.pv_eq,Token.pv_eq,P50_eq,Redir.pv_eq,P51_eq,Cmd.pv_eq,P46_eq,Word.pv_eq,P54_eq,Var.pv_eq,P324_eq,GEnv.pv_eq,GValue.pv_eq,P59_eq,Qid.pv_eq,P66_eq,Dir.pv_eq,Msg.pv_eq,Call.pv_eq,P60_eq,Client.pv_eq,S274.pv_eq,S276.pv_eq,P81_eq,Port.pv_eq,Pattern.pv_eq,P153_eq,Rule.pv_eq,P29_eq,P30_eq,Plumber.pv_eq]at f13m
 have f13n:=appO_n q12
 try simp only[List.length_cons,List.length_nil,Nat.zero_add]at f13n
 refine AW.dregB mixed hS [(3,some 2)] rfl (ordB hpf (B:=[(3,some 2)]) (by kernel_rfl)) [] [.var [.pv (.str x2),.pv (.int .i64 x3),.vec 1 (List.length out11),.nils,.pv (.int .i64 x4),.pv (.int .i64 x5),.pv (.int .i64 x6)],.row 238 4 (List.map Token.pv out11) true,.var [.pv (.int .i64 t1.kind_),.pv (.int .i64 t1.at_),.pv (.str t1.text_),.pv (.str t1.quoted_)]] ?_ ?_
 ·exact dk1 (an f13.1 (an f13m f13n))
 clear f13
 clear f13m
 clear f13n
 refine AW.seq ?_
 apply AW.rg hS [4]
 ·exact di
 refine AW.ret ?_
 cases h
 exact fin
set_option maxHeartbeats 4000000 in
theorem g_F166x1(c:AllG env [SL_IndexByte,(S160x1 F160x1)]):GoodH env (S166x1 F166x1):=by
 obtain⟨O,X,hS,hX,hpf,hk⟩:=orcs (pf:=pfn) c
 have pf_90:O.pf 90=true:=pft hpf 90 rfl
 have pf_160:O.pf 160=false:=pft hpf 160 rfl
 refine GH (fn:=Tryz.f166) fn_166 rfl rfl 43 rfl [] rfl ?_
 rintro(⟨t1,touches2,x3,x4,x5,x6,x7,l8⟩:Token×Bool×Str×Int×Int×Int×Int×(List Token)) (r:Bool×(List Token)) h m em
 refine GHs rfl rfl em rfl rfl rfl ?_
 clear em m
 replace h:F166x1 t1 touches2 x3 x4 x5 x6 x7 l8=some r:=h
 rw[F166x1]at h
 refine AW.seq ?_
 apply AW.rg hS [0,2,4]
 ·exact di
 refine AW.seq ?_
 replace h:=obs h;obtain⟨c11,q12,h⟩:=h
 have f13:=sidx_g (guardO_t q12)
 try simp only[Int.toNat_natCast,Int.toNat_zero,Int.reduceToNat,Nat.sub_zero,List.drop_zero,List.length_map]at f13
 replace h:=obs h;obtain⟨n14,q15,h⟩:=h
 replace q15:=guardO_t q15
 have f16:=fun hg=>(hk 0 90 rfl).ret (([36,96]:Str),c11) (q15 hg) rfl rfl
 try dsimp only at f16
 try simp only[List.map_cons,List.map_nil,oPV_none,oPV_some,Attr.pv_eq,P22_eq,Plumb.pv_eq,Token.pv_eq,P50_eq,Redir.pv_eq,P51_eq,Cmd.pv_eq,P46_eq,Word.pv_eq,P54_eq,Var.pv_eq,P324_eq,GEnv.pv_eq,GValue.pv_eq,P59_eq,Qid.pv_eq,P66_eq,Dir.pv_eq,Msg.pv_eq,Call.pv_eq,P60_eq,Client.pv_eq,S274.pv_eq,S276.pv_eq,P81_eq,Port.pv_eq,Pattern.pv_eq,P153_eq,Rule.pv_eq,P29_eq,P30_eq,Plumber.pv_eq]at f16
 refine AW.reg hS [(0,.ref 0 0),(2,.pv (.bool touches2)),(4,.ref 2 0),(7,.pv (.bool (decide (t1.kind_=1)||((decide (t1.kind_=2)&&!decide (t1.text_=[]))&&decide (0≤n14)))))] [.var [.pv (.str x3),.pv (.int .i64 x4),.vec 1 (List.length l8),.nils,.pv (.int .i64 x5),.pv (.int .i64 x6),.pv (.int .i64 x7)],.row 238 4 (List.map Token.pv l8) true,.var [.pv (.int .i64 t1.kind_),.pv (.int .i64 t1.at_),.pv (.str t1.text_),.pv (.str t1.quoted_)]] ?_ ?_
 ·clear h hk hpf hS hX c
  exact dh1 (an f13.1 (an f13.2.1 (an f13.2.2 (an pf_90 f16))))
 refine AW.seq ?_
 refine AW.seq ?_
 refine AW.cases ((touches2&&(decide (t1.kind_=1)||((decide (t1.kind_=2)&&!decide (t1.text_=[]))&&decide (0≤n14))))) (fun hsp6=>?_) (fun hsp6=>?_)
 ·replace h:=bif_t hsp6 h
  try simp only[Bool.and_eq_true,Bool.or_eq_false_iff]at hsp6
  replace h:=obs h;obtain⟨⟨r17,o18⟩,q19,h⟩:=h
  dsimp only at h
  have f20:=(hk 1 160 rfl).ret (Token.mk 2 t1.at_ [94] [],x3,x4,x5,x6,x7,l8) q19 rfl rfl
  try dsimp only at f20
  try simp only[List.map_cons,List.map_nil,oPV_none,oPV_some,Attr.pv_eq,P22_eq,Plumb.pv_eq,Token.pv_eq,P50_eq,Redir.pv_eq,P51_eq,Cmd.pv_eq,P46_eq,Word.pv_eq,P54_eq,Var.pv_eq,P324_eq,GEnv.pv_eq,GValue.pv_eq,P59_eq,Qid.pv_eq,P66_eq,Dir.pv_eq,Msg.pv_eq,Call.pv_eq,P60_eq,Client.pv_eq,S274.pv_eq,S276.pv_eq,P81_eq,Port.pv_eq,Pattern.pv_eq,P153_eq,Rule.pv_eq,P29_eq,P30_eq,Plumber.pv_eq]at f20
  have e21:ecall O [.var [.pv (.str x3),.pv (.int .i64 x4),.vec 1 (List.length l8),.nils,.pv (.int .i64 x5),.pv (.int .i64 x6),.pv (.int .i64 x7)],.row 238 4 (List.map Token.pv l8) true,.var [.pv (.int .i64 t1.kind_),.pv (.int .i64 t1.at_),.pv (.str t1.text_),.pv (.str t1.quoted_)]] 160 [.ref 0 0,.pv (.agg [.int .i64 2,.int .i64 t1.at_,.str [94],.str []])]=some (retAV [.pv (.bool r17)],[.var [.pv (.str x3),.pv (.int .i64 x4),.vec 1 (List.length o18),.nils,.pv (.int .i64 x5),.pv (.int .i64 x6),.pv (.int .i64 x7)],.row 238 4 (List.map Token.pv o18) true,.var [.pv (.int .i64 t1.kind_),.pv (.int .i64 t1.at_),.pv (.str t1.text_),.pv (.str t1.quoted_)]]):=ecall_eq rfl rfl rfl f20 rfl rfl rfl
  refine AW.reg hS [(0,.ref 0 0),(4,.ref 2 0),(39,.pv (.bool (!r17)))] [.var [.pv (.str x3),.pv (.int .i64 x4),.vec 1 (List.length o18),.nils,.pv (.int .i64 x5),.pv (.int .i64 x6),.pv (.int .i64 x7)],.row 238 4 (List.map Token.pv o18) true,.var [.pv (.int .i64 t1.kind_),.pv (.int .i64 t1.at_),.pv (.str t1.text_),.pv (.str t1.quoted_)]] ?_ ?_
  ·clear h hk hpf hS hX c
   exact dh1 (an hsp6 (an pf_160 e21))
  refine AW.iff_ h rfl rfl (fun hb22 h=>?_) (fun hb22 h=>?_)
  ·cases h
  refine AW.skip ?_
  refine AW.seq ?_
  replace h:=obs h;obtain⟨⟨r23,o24⟩,q25,h⟩:=h
  dsimp only at h
  have f26:=(hk 1 160 rfl).ret (t1,x3,x4,x5,x6,x7,o18) q25 rfl rfl
  try dsimp only at f26
  have e27:ecall O [.var [.pv (.str x3),.pv (.int .i64 x4),.vec 1 (List.length o18),.nils,.pv (.int .i64 x5),.pv (.int .i64 x6),.pv (.int .i64 x7)],.row 238 4 (List.map Token.pv o18) true,.var [.pv (.int .i64 t1.kind_),.pv (.int .i64 t1.at_),.pv (.str t1.text_),.pv (.str t1.quoted_)]] 160 [.ref 0 0,.pv (.agg [.int .i64 t1.kind_,.int .i64 t1.at_,.str t1.text_,.str t1.quoted_])]=some (retAV [.pv (.bool r23)],[.var [.pv (.str x3),.pv (.int .i64 x4),.vec 1 (List.length o24),.nils,.pv (.int .i64 x5),.pv (.int .i64 x6),.pv (.int .i64 x7)],.row 238 4 (List.map Token.pv o24) true,.var [.pv (.int .i64 t1.kind_),.pv (.int .i64 t1.at_),.pv (.str t1.text_),.pv (.str t1.quoted_)]]):=ecall_eq rfl rfl rfl f26 rfl rfl rfl
  apply AW.rg hS [6]
  ·exact di1 (an pf_160 e27)
  refine AW.ret ?_
  cases h
  exact fin
 replace h:=bif_f hsp6 h
 try simp only[Bool.and_eq_true,Bool.or_eq_false_iff]at hsp6
 refine AW.reg hS [(0,.ref 0 0),(4,.ref 2 0),(39,.pv (.bool false))] [.var [.pv (.str x3),.pv (.int .i64 x4),.vec 1 (List.length l8),.nils,.pv (.int .i64 x5),.pv (.int .i64 x6),.pv (.int .i64 x7)],.row 238 4 (List.map Token.pv l8) true,.var [.pv (.int .i64 t1.kind_),.pv (.int .i64 t1.at_),.pv (.str t1.text_),.pv (.str t1.quoted_)]] ?_ ?_
 ·clear h hk hpf hS hX c
  exact dh1 hsp6
 refine AW.cond (b:=false) rfl (fun hb=>absurd hb (by decide)) (fun _=>?_)
 refine AW.skip ?_
 refine AW.seq ?_
 replace h:=obs h;obtain⟨⟨r18,o19⟩,q20,h⟩:=h
 dsimp only at h
 have f21:=(hk 1 160 rfl).ret (t1,x3,x4,x5,x6,x7,l8) q20 rfl rfl
 try dsimp only at f21
 have e22:ecall O [.var [.pv (.str x3),.pv (.int .i64 x4),.vec 1 (List.length l8),.nils,.pv (.int .i64 x5),.pv (.int .i64 x6),.pv (.int .i64 x7)],.row 238 4 (List.map Token.pv l8) true,.var [.pv (.int .i64 t1.kind_),.pv (.int .i64 t1.at_),.pv (.str t1.text_),.pv (.str t1.quoted_)]] 160 [.ref 0 0,.pv (.agg [.int .i64 t1.kind_,.int .i64 t1.at_,.str t1.text_,.str t1.quoted_])]=some (retAV [.pv (.bool r18)],[.var [.pv (.str x3),.pv (.int .i64 x4),.vec 1 (List.length o19),.nils,.pv (.int .i64 x5),.pv (.int .i64 x6),.pv (.int .i64 x7)],.row 238 4 (List.map Token.pv o19) true,.var [.pv (.int .i64 t1.kind_),.pv (.int .i64 t1.at_),.pv (.str t1.text_),.pv (.str t1.quoted_)]]):=ecall_eq rfl rfl rfl f21 rfl rfl rfl
 apply AW.rg hS [6]
 ·exact di1 (an pf_160 e22)
 refine AW.ret ?_
 cases h
 exact fin
set_option maxHeartbeats 4000000 in
theorem g_F93x1(c:AllG env [(S164x1 F164x1),(S165x1 F165x1),(S163x1 F163x1),(S166x1 F166x1)]):GoodH env (S93x1 F93x1):=by
 obtain⟨O,X,hS,hX,hpf,hk⟩:=orcs (pf:=pfn) c
 have pf_163:O.pf 163=false:=pft hpf 163 rfl
 have pf_164:O.pf 164=false:=pft hpf 164 rfl
 have pf_165:O.pf 165=false:=pft hpf 165 rfl
 have pf_166:O.pf 166=false:=pft hpf 166 rfl
 refine GH (fn:=Tryz.f93) fn_93 rfl rfl 64 rfl [] rfl ?_
 rintro(⟨x1,x2,x3,x4,x5,l6⟩:Str×Int×Int×Int×Int×(List Token)) (r:Bool×Int×(List Token)) h m em
 refine GHs rfl rfl em rfl rfl rfl ?_
 clear em m
 replace h:F93x1 x1 x2 x3 x4 x5 l6=some r:=h
 rw[F93x1]at h
 refine AW.seq ?_
 apply AW.rg hS [0]
 ·exact di
 refine AW.seq ?_
 apply AW.rg hS [0,3]
 ·exact di
 refine AW.seq ?_
 replace h:=obs h;obtain⟨r10,q11,h⟩:=h
 have f12:=(hk 0 164 rfl).ret (x1,x2,x3,x4,x5,l6) q11 rfl rfl
 try dsimp only at f12
 have e13:ecall O [.var [.pv (.str x1),.pv (.int .i64 x2),.vec 1 (List.length l6),.nils,.pv (.int .i64 x3),.pv (.int .i64 x4),.pv (.int .i64 x5)],.row 238 4 (List.map Token.pv l6) true] 164 [.ref 0 0]=some (retAV [.pv (.bool r10)],[.var [.pv (.str x1),.pv (.int .i64 x2),.vec 1 (List.length l6),.nils,.pv (.int .i64 x3),.pv (.int .i64 x4),.pv (.int .i64 x5)],.row 238 4 (List.map Token.pv l6) true]):=ecall_eq rfl rfl rfl f12 rfl rfl rfl
 apply AW.rg hS [0,3,4]
 ·exact di1 (an pf_164 e13)
 refine AW.seq ?_
 replace h:=obs h;obtain⟨⟨r14,r15⟩,q16,h⟩:=h
 dsimp only at h
 have f17:=(hk 1 165 rfl).ret (x1,x2,x3,x4,x5,l6) q16 rfl rfl
 try dsimp only at f17
 have e18:ecall O [.var [.pv (.str x1),.pv (.int .i64 x2),.vec 1 (List.length l6),.nils,.pv (.int .i64 x3),.pv (.int .i64 x4),.pv (.int .i64 x5)],.row 238 4 (List.map Token.pv l6) true] 165 [.ref 0 0]=some (retAV [.pv (.str r14),.pv (.bool r15)],[.var [.pv (.str x1),.pv (.int .i64 x2),.vec 1 (List.length l6),.nils,.pv (.int .i64 x3),.pv (.int .i64 x4),.pv (.int .i64 x5)],.row 238 4 (List.map Token.pv l6) true]):=ecall_eq rfl rfl rfl f17 rfl rfl rfl
 apply AW.rg hS [0,3,4,5,6]
 ·exact di1 (an pf_165 e18)
 refine AW.seq ?_
 refine AW.seq ?_
 apply AW.rg hS [0,3,4,5,21]
 ·exact di
 refine AW.iff_ h rfl rfl (fun hb19 h=>?_) (fun hb19 h=>?_)
 ·cases h
 refine AW.skip ?_
 refine AW.seq ?_
 refine AW.seq ?_
 apply AW.rg hS [0,3,4,23]
 ·exact di
 refine AW.iff_ h rfl rfl (fun hb20 h=>?_) (fun hb20 h=>?_)
 ·cases h
 refine AW.skip ?_
 refine AW.seq ?_
 replace h:=obs h;obtain⟨⟨r21,r22,r23,x24⟩,q25,h⟩:=h
 dsimp only at h
 have f26:=(hk 2 163 rfl).ret (x1,x2,x3,x4,x5,l6) q25 rfl rfl
 try dsimp only at f26
 have e27:ecall O [.var [.pv (.str x1),.pv (.int .i64 x2),.vec 1 (List.length l6),.nils,.pv (.int .i64 x3),.pv (.int .i64 x4),.pv (.int .i64 x5)],.row 238 4 (List.map Token.pv l6) true] 163 [.ref 0 0]=some (retAV [.pv (.str r21),.pv (.str r22),.pv (.bool r23)],[.var [.pv (.str x1),.pv (.int .i64 x24),.vec 1 (List.length l6),.nils,.pv (.int .i64 x3),.pv (.int .i64 x4),.pv (.int .i64 x5)],.row 238 4 (List.map Token.pv l6) true]):=ecall_eq rfl rfl rfl f26 rfl rfl rfl
 apply AW.rg hS [0,3,4,6,7,8]
 ·exact di1 (an pf_163 e27)
 refine AW.seq ?_
 refine AW.cases (r23) (fun hsp8=>?_) (fun hsp8=>?_)
 ·replace h:=bif_t hsp8 h
  replace h:=obs h;obtain⟨⟨r28,o29⟩,q30,h⟩:=h
  dsimp only at h
  have f31:=(hk 3 166 rfl).ret (Token.mk 1 x2 r21 r22,r10,x1,x24,x3,x4,x5,l6) q30 rfl rfl
  try dsimp only at f31
  have e32:ecall O [.var [.pv (.str x1),.pv (.int .i64 x24),.vec 1 (List.length l6),.nils,.pv (.int .i64 x3),.pv (.int .i64 x4),.pv (.int .i64 x5)],.row 238 4 (List.map Token.pv l6) true] 166 [.ref 0 0,.pv (.agg [.int .i64 1,.int .i64 x2,.str r21,.str r22]),.pv (.bool r10)]=some (retAV [.pv (.bool r28)],[.var [.pv (.str x1),.pv (.int .i64 x24),.vec 1 (List.length o29),.nils,.pv (.int .i64 x3),.pv (.int .i64 x4),.pv (.int .i64 x5)],.row 238 4 (List.map Token.pv o29) true]):=ecall_eq rfl rfl rfl f31 rfl rfl rfl
  refine AW.reg hS [(2,.pv (.bool r28))] [.var [.pv (.str x1),.pv (.int .i64 x24),.vec 1 (List.length o29),.nils,.pv (.int .i64 x3),.pv (.int .i64 x4),.pv (.int .i64 x5)],.row 238 4 (List.map Token.pv o29) true] ?_ ?_
  ·exact dk1 (an hsp8 (an pf_166 e32))
  refine AW.ret ?_
  cases h
  exact fin
 replace h:=bif_f hsp8 h
 refine AW.reg hS [(2,.pv (.bool false))] [.var [.pv (.str x1),.pv (.int .i64 x24),.vec 1 (List.length l6),.nils,.pv (.int .i64 x3),.pv (.int .i64 x4),.pv (.int .i64 x5)],.row 238 4 (List.map Token.pv l6) true] ?_ ?_
 ·exact dk1 hsp8
 refine AW.ret ?_
 cases h
 exact fin
set_option maxHeartbeats 4000000 in
theorem g_F40(c:AllG env [(S88x1 F88x1),(S89x1 F89x1),(S75 F75),(S93x1 F93x1)]):GoodH env (S40 F40):=by
 obtain⟨O,X,hS,hX,hpf,hk⟩:=orcs (pf:=pfn) c
 have pf_75:O.pf 75=true:=pft hpf 75 rfl
 have pf_88:O.pf 88=false:=pft hpf 88 rfl
 have pf_89:O.pf 89=false:=pft hpf 89 rfl
 have pf_93:O.pf 93=false:=pft hpf 93 rfl
 refine GH (fn:=Tryz.f40) fn_40 rfl rfl 94 rfl [] rfl ?_
 rintro(s1:Str) (r:(List Token)×Int×Int) h m em
 refine GHs rfl rfl em rfl rfl rfl ?_
 clear em m
 replace h:F40 s1=some r:=h
 rw[F40]at h
 refine AW.seq ?_
 apply AW.rg hS [0]
 ·exact di
 refine AW.seq ?_
 refine AW.seq ?_
 apply AW.rg hS [0,10]
 ·exact di
 refine AW.iff_ h rfl rfl (fun hb5 h=>?_) (fun hb5 h=>?_)
 ·cases h
 refine AW.skip ?_
 refine AW.seq ?_
 refine AW.after ?_
 refine AW.reg hS [(5,.ref 0 0)] [.var [.pv (.str s1),.pv (.int .i64 0),.nils,.nils,.pv (.int .i64 0),.pv (.int .i64 0),.pv (.int .i64 0)]] ?_ ?_
 ·exact dk
 refine⟨⟨sl [(5,.ref 0 0)],94,[.var [.pv (.str s1),.pv (.int .i64 0),.vec 1 (List.length ([]:List Token)),.nils,.pv (.int .i64 0),.pv (.int .i64 0),.pv (.int .i64 0)],.row 238 4 (List.map Token.pv ([]:List Token)) true]⟩,(Weak.trans (Weak.ownC (σ:=⟨sl [(5,.ref 0 0)],94,[.var [.pv (.str s1),.pv (.int .i64 0),.nils,.nils,.pv (.int .i64 0),.pv (.int .i64 0),.pv (.int .i64 0)]]⟩) 0 2 238 4 (by decide) (cs:=[.pv (.str s1),.pv (.int .i64 0),.nils,.nils,.pv (.int .i64 0),.pv (.int .i64 0),.pv (.int .i64 0)]) rfl rfl) (Weak.slots (L:=[(5,.ref 0 0)]) ⟨rfl,trivial⟩)),?_⟩
 refine AW.seq ?_
 refine AW.block ?_
 refine AW.lp (α:=Nat×Int×Int×(List Token)) (fun(_,x6,x7,l8)=>⟨sl [(5,.ref 0 0)],94,[.var [.pv (.str s1),.pv (.int .i64 x6),.vec 1 (List.length l8),.nils,.pv (.int .i64 x7),.pv (.int .i64 0),.pv (.int .i64 0)],.row 238 4 (List.map Token.pv l8) true]⟩) (fun x=>iter (F40_b1 s1) x.1 x.2=some r) (fun x=>x.1) (BIG,(0,0,([]:List Token))) (Weak.slots kp) h ?_
 clear h
 intro⟨n38,x6,x7,l8⟩ h
 replace h:=iter_some h;obtain⟨m11,rfl,h⟩:=h
 rw[F40_b1]at h
 try dsimp only at h
 refine AW.st ?_
 refine AW.seq ?_
 refine AW.seq ?_
 apply AW.rg hS [5,18]
 ·exact di
 refine AW.iff_ h rfl rfl (fun hb12 h=>?_) (fun hb12 h=>?_)
 ·refine AW.skip ?_
  refine AW.block ?_
  refine AW.seq ?_
  apply AW.rg hS [5]
  ·exact di
  refine AW.seq ?_
  replace h:=obs h;obtain⟨x13,q14,h⟩:=h
  have f15:=(hk 0 88 rfl).ret (s1,x6,x6,0,0,l8) q14 rfl rfl
  try dsimp only at f15
  have e16:ecall O [.var [.pv (.str s1),.pv (.int .i64 x6),.vec 1 (List.length l8),.nils,.pv (.int .i64 x6),.pv (.int .i64 0),.pv (.int .i64 0)],.row 238 4 (List.map Token.pv l8) true] 88 [.ref 0 0]=some (retAV [],[.var [.pv (.str s1),.pv (.int .i64 x13),.vec 1 (List.length l8),.nils,.pv (.int .i64 x6),.pv (.int .i64 0),.pv (.int .i64 0)],.row 238 4 (List.map Token.pv l8) true]):=ecall_eq rfl rfl rfl f15 rfl rfl rfl
  apply AW.rg hS [5]
  ·exact di1 (an pf_88 e16)
  refine AW.seq ?_
  replace h:=obs h;obtain⟨r17,q18,h⟩:=h
  have f19:=(hk 1 89 rfl).ret (s1,x13,x6,0,0,l8) q18 rfl rfl
  try dsimp only at f19
  have e20:ecall O [.var [.pv (.str s1),.pv (.int .i64 x13),.vec 1 (List.length l8),.nils,.pv (.int .i64 x6),.pv (.int .i64 0),.pv (.int .i64 0)],.row 238 4 (List.map Token.pv l8) true] 89 [.ref 0 0]=some (retAV [.pv (.str r17)],[.var [.pv (.str s1),.pv (.int .i64 x13),.vec 1 (List.length l8),.nils,.pv (.int .i64 x6),.pv (.int .i64 0),.pv (.int .i64 0)],.row 238 4 (List.map Token.pv l8) true]):=ecall_eq rfl rfl rfl f19 rfl rfl rfl
  apply AW.rg hS [5,6]
  ·exact di1 (an pf_89 e20)
  refine AW.block ?_
  refine AW.seq ?_
  apply AW.rg hS [5,6,32]
  ·exact di
  refine AW.iff_ h rfl rfl (fun hb21 h=>?_) (fun hb21 h=>?_)
  ·refine AW.seq ?_
   refine AW.seq ?_
   apply AW.rg hS [5,40]
   ·exact di
   refine AW.iff_ h rfl rfl (fun hb22 h=>?_) (fun hb22 h=>?_)
   ·cases h
   refine AW.skip ?_
   refine AW.seq ?_
   apply AW.rg hS [2,3,4]
   ·exact di
   refine AW.ret ?_
   cases h
   exact fin
  refine AW.seq ?_
  replace h:=obs h;obtain⟨c23,q24,h⟩:=h
  have f25:=sidx_f q24
  try simp only[Int.toNat_natCast,Int.toNat_zero,Int.reduceToNat,Nat.sub_zero,List.drop_zero,List.length_map]at f25
  apply AW.rg hS [5,6,47]
  ·exact di1 (an f25.1 (an f25.2.1 f25.2.2))
  refine AW.iff_ h rfl rfl (fun hb26 h=>?_) (fun hb26 h=>?_)
  ·cases h
  refine AW.seq ?_
  apply AW.rg hS [5,6,75]
  ·exact di1 (an f25.1 (an f25.2.1 f25.2.2))
  refine AW.iff_ h rfl rfl (fun hb27 h=>?_) (fun hb27 h=>?_)
  ·cases h
  refine AW.seq ?_
  replace h:=obs h;obtain⟨r28,q29,h⟩:=h
  have f30:=(hk 2 75 rfl).ret (r17,([60,60]:Str)) q29 rfl rfl
  try dsimp only at f30
  try simp only[List.map_cons,List.map_nil,oPV_none,oPV_some,Attr.pv_eq,P22_eq,Plumb.pv_eq,Token.pv_eq,P50_eq,Redir.pv_eq,P51_eq,Cmd.pv_eq,P46_eq,Word.pv_eq,P54_eq,Var.pv_eq,P324_eq,GEnv.pv_eq,GValue.pv_eq,P59_eq,Qid.pv_eq,P66_eq,Dir.pv_eq,Msg.pv_eq,Call.pv_eq,P60_eq,Client.pv_eq,S274.pv_eq,S276.pv_eq,P81_eq,Port.pv_eq,Pattern.pv_eq,P153_eq,Rule.pv_eq,P29_eq,P30_eq,Plumber.pv_eq]at f30
  apply AW.rg hS [5,81]
  ·exact di1 (an pf_75 f30)
  refine AW.iff_ h rfl rfl (fun hb31 h=>?_) (fun hb31 h=>?_)
  ·cases h
  replace h:=obs h;obtain⟨⟨r32,x33,o34⟩,q35,h⟩:=h
  dsimp only at h
  have f36:=(hk 3 93 rfl).ret (s1,x13,x6,0,0,l8) q35 rfl rfl
  try dsimp only at f36
  have e37:ecall O [.var [.pv (.str s1),.pv (.int .i64 x13),.vec 1 (List.length l8),.nils,.pv (.int .i64 x6),.pv (.int .i64 0),.pv (.int .i64 0)],.row 238 4 (List.map Token.pv l8) true] 93 [.ref 0 0]=some (retAV [.pv (.bool r32)],[.var [.pv (.str s1),.pv (.int .i64 x33),.vec 1 (List.length o34),.nils,.pv (.int .i64 x6),.pv (.int .i64 0),.pv (.int .i64 0)],.row 238 4 (List.map Token.pv o34) true]):=ecall_eq rfl rfl rfl f36 rfl rfl rfl
  apply AW.rg hS [5]
  ·exact di1 (an pf_93 e37)
  exact⟨(m11,(x33,x6,o34)),h,(Weak.norm (m:=2) (Nat.le_of_ble_eq_true rfl) kp hq rfl rfl),Nat.lt_succ_self _⟩
 cases h
set_option maxHeartbeats 4000000 in
theorem g_F95(c:AllG env []):GoodH env (S95 F95):=by
 obtain⟨O,X,hS,hX,hpf,hk⟩:=orcs (pf:=pfn) c
 refine GH (fn:=Tryz.f95) fn_95 rfl rfl 59 rfl [] rfl ?_
 rintro(⟨s1,tokens2⟩:Str×(List Token)) (r:(List Str)) h m em
 refine GHs rfl rfl em rfl rfl rfl ?_
 clear em m
 replace h:F95 s1 tokens2=some r:=h
 rw[F95]at h
 refine AW.seq ?_
 apply AW.rg hS [1]
 ·exact di
 refine AW.seq ?_
 replace h:=obs h;obtain⟨u4,q5,h⟩:=h
 have f6:=mkO_f q5
 have f6m:=emakeSlice_str (H:=[]) (k1:=.i64) (k2:=.i64) T_54 T_9 (of_eq_true f6.1) (of_eq_true f6.2) (by decide)
 refine AW.reg hS [(1,.pv (.slice (List.map Token.pv tokens2))),(5,.vec 0 (List.length (List.replicate (Int.toNat (tokens2.length:Int)) ([]:Str))))] [.row 9 1 (List.map PV.str (List.replicate (Int.toNat (tokens2.length:Int)) ([]:Str))) false] ?_ ?_
 ·simp -implicitDefEqProofs only[RUNS,qindex,Nat.reduceAdd,Nat.reduceLeDiff,Nat.reduceSub,reduceIte,Nat.reduceEqDiff,Nat.reduceLT,reduceCtorEq,Nat.reduceMul,Nat.reduceBEq,Int.reduceEq,Int.reduceToNat,Int.toNat_zero,Nat.sub_zero,if_true,if_false,eq_self,ne_eq,TYS,f6m,List.length_replicate,List.map_replicate]<;>(try simp only[List.length_take,List.length_drop,List.length_map])
 refine AW.seq ?_
 apply AW.rg hS [1,5]
 ·exact di
 refine AW.seq ?_
 refine AW.seq ?_
 apply AW.rg hS [5,15,16,17]
 ·exact di
 refine AW.block ?_
 refine AW.lp (α:=Nat×Int) (fun(_,i7)=>⟨sl [(5,.vec 0 (List.length (List.replicate (Int.toNat (tokens2.length:Int)) ([]:Str)))),(15,.pv (.slice (List.map Token.pv tokens2))),(16,.pv (.int .i64 (tokens2.length:Int))),(17,.pv (.int .i64 i7))],59,[.row 9 1 (List.map PV.str (List.replicate (Int.toNat (tokens2.length:Int)) ([]:Str))) false]⟩) (fun x=>iter (F95_b1 tokens2) x.1 x.2=some r) (fun x=>x.1) (BIG,0) (Weak.slots kp) h ?_
 clear h
 intro⟨n17,i7⟩ h
 replace h:=iter_some h;obtain⟨m10,rfl,h⟩:=h
 rw[F95_b1]at h
 try dsimp only at h
 refine AW.st ?_
 refine AW.seq ?_
 apply AW.rg hS [5,15,16,17,18]
 ·exact di
 refine AW.seq ?_
 refine AW.iff_ h rfl rfl (fun hb11 h=>?_) (fun hb11 h=>?_)
 ·refine AW.skip ?_
  refine AW.seq ?_
  refine AW.block ?_
  refine AW.seq ?_
  replace h:=obs h;obtain⟨u12,q13,h⟩:=h
  have f14:=lidx_f q13
  apply AW.rg hS [5,8,15,16,17]
  ·exact di1 (an f14.1 f14.2.1)
  refine AW.seq ?_
  apply AW.rg hS [5,15,16,17,23]
  ·exact di
  refine AW.block ?_
  refine AW.seq ?_
  apply AW.rg hS [5,15,16,17,23,24]
  ·exact di
  refine AW.iff_ h rfl rfl (fun hb15 h=>?_) (fun hb15 h=>?_)
  ·cases h
  refine AW.seq ?_
  apply AW.rg hS [5,15,16,17,30]
  ·exact di
  refine AW.iff_ h rfl rfl (fun hb16 h=>?_) (fun hb16 h=>?_)
  ·cases h
  refine AW.skip ?_
  apply AW.rg hS [5,15,16,17]
  ·exact di
  exact⟨(m10,IntKind.wrap .i64 (i7+1)),h,(Weak.norm (m:=1) (Nat.le_of_ble_eq_true rfl) kp hq rfl rfl),Nat.lt_succ_self _⟩
 refine AW.exit ?_
 refine AW.seq ?_
 apply AW.rg hS [4]
 ·exact di
 refine AW.weak (Weak.freeze 0 rfl) ?_
 refine AW.weak (σ':=⟨sl [(4,.vec 0 (List.length (List.replicate (Int.toNat (tokens2.length:Int)) ([]:Str))))],59,[.row 9 1 (List.map PV.str (List.replicate (Int.toNat (tokens2.length:Int)) ([]:Str))) true]⟩) (Weak.of_eq (Weak.slots (L:=[(4,.vec 0 (List.length (List.replicate (Int.toNat (tokens2.length:Int)) ([]:Str))))]) kp) (by first|rfl|(simp only[List.length_set,List.length_map];rfl))) ?_
 refine AW.ret ?_
 cases h
 exact fin
set_option maxHeartbeats 4000000 in
theorem g_F172(c:AllG env []):GoodH env (S172 F172):=by
 obtain⟨O,X,hS,hX,hpf,hk⟩:=orcs (pf:=pfn) c
 refine GH (fn:=Tryz.f172) fn_172 rfl rfl 30 rfl [] rfl ?_
 rintro(⟨ahead1,x2,x3,x4,x5⟩:Int×Str×(List Token)×(List Str)×Int) (r:Token) h m em
 refine GHs rfl rfl em rfl rfl rfl ?_
 clear em m
 replace h:F172 ahead1 x2 x3 x4 x5=some r:=h
 rw[F172]at h
 refine AW.seq ?_
 apply AW.rg hS [0,1,4]
 ·exact di
 refine AW.seq ?_
 refine AW.seq ?_
 apply AW.dgk mixed hS [0,1,4,16] (ordp hpf (by kernel_rfl))
 ·exact di
 refine AW.iff_ h rfl rfl (fun hb7 h=>?_) (fun hb7 h=>?_)
 ·refine AW.seq ?_
  apply AW.rg hS [4]
  ·exact di
  refine AW.ret ?_
  cases h
  exact fin
 refine AW.skip ?_
 refine AW.seq ?_
 replace h:=obs h;obtain⟨u8,q9,h⟩:=h
 have f10:=lidx_f q9
 apply AW.dgB mixed hS [(4,some 1),(28,none)] [4] rfl (ordB hpf (B:=[(4,some 1),(28,none)]) (by kernel_rfl))
 ·exact di1 (an f10.1 f10.2.1)
 refine AW.ret ?_
 cases h
 exact fin
set_option maxHeartbeats 4000000 in
theorem g_F235(c:AllG env []):GoodH env (S235 F235):=by
 obtain⟨O,X,hS,hX,hpf,hk⟩:=orcs (pf:=pfn) c
 refine GH (fn:=Tryz.f235) fn_235 rfl rfl 14 rfl [] rfl ?_
 rintro(⟨t1,symbol2⟩:Token×Str) (r:Bool) h m em
 refine GHs rfl rfl em rfl rfl rfl ?_
 clear em m
 replace h:F235 t1 symbol2=some r:=h
 rw[F235]at h
 refine AW.seq ?_
 apply AW.rg hS [1,2]
 ·exact di
 refine AW.seq ?_
 refine AW.reg hS [(4,.pv (.bool (decide (t1.kind_=2)&&decide (t1.text_=symbol2))))] [.var [.pv (.int .i64 t1.kind_),.pv (.int .i64 t1.at_),.pv (.str t1.text_),.pv (.str t1.quoted_)]] ?_ ?_
 ·clear h hk hpf hS hX c
  exact dh
 refine AW.ret ?_
 cases h
 exact fin
set_option maxHeartbeats 4000000 in
theorem g_F234(c:AllG env [(S172 F172),(S235 F235)]):GoodH env (S234 F234):=by
 obtain⟨O,X,hS,hX,hpf,hk⟩:=orcs (pf:=pfn) c
 have pf_172:O.pf 172=false:=pft hpf 172 rfl
 have pf_235:O.pf 235=true:=pft hpf 235 rfl
 refine GH (fn:=Tryz.f234) fn_234 rfl rfl 9 rfl [] rfl ?_
 rintro(⟨symbol1,x2,x3,x4,x5⟩:Str×Str×(List Token)×(List Str)×Int) (r:Bool) h m em
 refine GHs rfl rfl em rfl rfl rfl ?_
 clear em m
 replace h:F234 symbol1 x2 x3 x4 x5=some r:=h
 rw[F234]at h
 refine AW.seq ?_
 apply AW.rg hS [0,1]
 ·exact di
 refine AW.seq ?_
 replace h:=obs h;obtain⟨r7,q8,h⟩:=h
 have f9:=(hk 0 172 rfl).ret (0,x2,x3,x4,x5) q8 rfl rfl
 try dsimp only at f9
 have e10:=ecall0 f9 rfl rfl rfl rfl
 replace h:=obs h;obtain⟨r11,q12,h⟩:=h
 have f13:=(hk 1 235 rfl).ret (r7,symbol1) q12 rfl rfl
 try dsimp only at f13
 apply AW.rg hS [4]
 ·exact di1 (an pf_172 (an e10 (an pf_235 f13)))
 refine AW.ret ?_
 cases h
 exact fin
set_option maxHeartbeats 4000000 in
theorem g_F168(c:AllG env [(S172 F172),(S234 F234)]):GoodH env (S168 F168):=by
 obtain⟨O,X,hS,hX,hpf,hk⟩:=orcs (pf:=pfn) c
 have pf_172:O.pf 172=false:=pft hpf 172 rfl
 have pf_234:O.pf 234=false:=pft hpf 234 rfl
 refine GH (fn:=Tryz.f168) fn_168 rfl rfl 29 rfl [] rfl ?_
 rintro(⟨x1,x2,x3,x4⟩:Str×(List Token)×(List Str)×Int) (r:Bool) h m em
 refine GHs rfl rfl em rfl rfl rfl ?_
 clear em m
 replace h:F168 x1 x2 x3 x4=some r:=h
 rw[F168]at h
 refine AW.seq ?_
 apply AW.rg hS [0]
 ·exact di
 refine AW.seq ?_
 apply AW.rg hS [0,3]
 ·exact di
 refine AW.seq ?_
 refine AW.block ?_
 refine AW.lp (α:=Nat×Unit) (fun(_,_)=>⟨sl [(0,.ref 0 0),(3,.pv (.int .i64 x4))],29,[.var [.pv (.str x1),.pv (.slice (List.map Token.pv x2)),.pv (.slice (List.map PV.str x3)),.pv (.int .i64 x4)]]⟩) (fun x=>iter (F168_b1 x1 x2 x3 x4) x.1 x.2=some r) (fun x=>x.1) (BIG,()) (Weak.slots kp) h ?_
 clear h
 intro⟨n18,_⟩ h
 replace h:=iter_some h;obtain⟨m8,rfl,h⟩:=h
 rw[F168_b1]at h
 try dsimp only at h
 refine AW.st ?_
 refine AW.seq ?_
 refine AW.seq ?_
 replace h:=obs h;obtain⟨r9,q10,h⟩:=h
 have f11:=(hk 0 172 rfl).ret (0,x1,x2,x3,x4) q10 rfl rfl
 try dsimp only at f11
 have e12:=ecall0 f11 rfl rfl rfl rfl
 refine AW.cases (decide (r9.kind_=3)) (fun hsp12=>?_) (fun hsp12=>?_)
 ·replace h:=bif_t hsp12 h
  refine AW.reg hS [(0,.ref 0 0),(3,.pv (.int .i64 x4)),(15,.pv (.bool true))] [.var [.pv (.str x1),.pv (.slice (List.map Token.pv x2)),.pv (.slice (List.map PV.str x3)),.pv (.int .i64 x4)]] ?_ ?_
  ·exact dk1 (an pf_172 (an e12 hsp12))
  refine AW.cond (b:=true) rfl (fun _=>?_) (fun hb=>absurd hb (by decide))
  cases h
 replace h:=bif_f hsp12 h
 replace h:=obs h;obtain⟨r13,q14,h⟩:=h
 have f15:=(hk 1 234 rfl).ret (([59]:Str),x1,x2,x3,x4) q14 rfl rfl
 try dsimp only at f15
 try simp only[List.map_cons,List.map_nil,oPV_none,oPV_some,Attr.pv_eq,P22_eq,Plumb.pv_eq,Token.pv_eq,P50_eq,Redir.pv_eq,P51_eq,Cmd.pv_eq,P46_eq,Word.pv_eq,P54_eq,Var.pv_eq,P324_eq,GEnv.pv_eq,GValue.pv_eq,P59_eq,Qid.pv_eq,P66_eq,Dir.pv_eq,Msg.pv_eq,Call.pv_eq,P60_eq,Client.pv_eq,S274.pv_eq,S276.pv_eq,P81_eq,Port.pv_eq,Pattern.pv_eq,P153_eq,Rule.pv_eq,P29_eq,P30_eq,Plumber.pv_eq]at f15
 have e16:=ecall0 f15 rfl rfl rfl rfl
 refine AW.reg hS [(0,.ref 0 0),(3,.pv (.int .i64 x4)),(15,.pv (.bool r13))] [.var [.pv (.str x1),.pv (.slice (List.map Token.pv x2)),.pv (.slice (List.map PV.str x3)),.pv (.int .i64 x4)]] ?_ ?_
 ·exact dk1 (an pf_172 (an e12 (an hsp12 (an pf_234 e16))))
 refine AW.iff_ h rfl rfl (fun hb17 h=>?_) (fun hb17 h=>?_)
 ·cases h
 refine AW.exit ?_
 refine AW.seq ?_
 apply AW.rg hS [2]
 ·exact di
 refine AW.ret ?_
 cases h
 exact fin
set_option maxHeartbeats 4000000 in
theorem g_F240(c:AllG env [SL_IndexByte]):GoodH env (S240 F240):=by
 obtain⟨O,X,hS,hX,hpf,hk⟩:=orcs (pf:=pfn) c
 have pf_90:O.pf 90=true:=pft hpf 90 rfl
 refine GH (fn:=Tryz.f240) fn_240 rfl rfl 12 rfl [] rfl ?_
 rintro(t1:Token) (r:Bool) h m em
 refine GHs rfl rfl em rfl rfl rfl ?_
 clear em m
 replace h:F240 t1=some r:=h
 rw[F240]at h
 refine AW.seq ?_
 apply AW.rg hS [1]
 ·exact di
 refine AW.seq ?_
 replace h:=obs h;obtain⟨n3,q4,h⟩:=h
 replace q4:=guardO_t q4
 have f5:=fun hg=>(hk 0 90 rfl).ret (t1.quoted_,49) (q4 hg) rfl rfl
 try dsimp only at f5
 refine AW.reg hS [(2,.pv (.bool (decide (t1.kind_=1)&&decide (n3<0))))] [.var [.pv (.int .i64 t1.kind_),.pv (.int .i64 t1.at_),.pv (.str t1.text_),.pv (.str t1.quoted_)]] ?_ ?_
 ·clear h hk hpf hS hX c
  exact dh1 (an pf_90 f5)
 refine AW.ret ?_
 cases h
 exact fin
set_option maxHeartbeats 4000000 in
theorem g_F241(c:AllG env [SL_IndexByte,SL_SContains]):GoodH env (S241 F241):=by
 obtain⟨O,X,hS,hX,hpf,hk⟩:=orcs (pf:=pfn) c
 have pf_59:O.pf 59=true:=pft hpf 59 rfl
 have pf_90:O.pf 90=true:=pft hpf 90 rfl
 refine GH (fn:=Tryz.f241) fn_241 rfl rfl 16 rfl [] rfl ?_
 rintro(s1:Str) (r:Bool) h m em
 refine GHs rfl rfl em rfl rfl rfl ?_
 clear em m
 replace h:F241 s1=some r:=h
 rw[F241]at h
 refine AW.seq ?_
 apply AW.rg hS [0]
 ·exact di
 refine AW.seq ?_
 replace h:=obs h;obtain⟨n3,q4,h⟩:=h
 replace q4:=guardO_t q4
 have f5:=fun hg=>(hk 0 90 rfl).ret (s1,32) (q4 hg) rfl rfl
 try dsimp only at f5
 replace h:=obs h;obtain⟨s6,q7,h⟩:=h
 have f8:=catO_g (guardO_t q7)
 try simp only[List.length_cons,List.length_nil,List.length_replicate,Nat.zero_add,Nat.reduceAdd,Nat.reduceLeDiff,Nat.add_zero,Nat.reduceMul]at f8
 replace h:=obs h;obtain⟨s9,q10,h⟩:=h
 have f11:=catO_g (guardO_t q10)
 try simp only[List.length_cons,List.length_nil,List.length_replicate,Nat.zero_add,Nat.reduceAdd,Nat.reduceLeDiff,Nat.add_zero,Nat.reduceMul]at f11
 replace h:=obs h;obtain⟨ok12,q13,h⟩:=h
 replace q13:=guardO_t q13
 have f14:=fun hg=>(hk 1 59 rfl).ret (([32,105,102,32,110,111,116,32,119,104,105,108,101,32,102,111,114,32,105,110,32,115,119,105,116,99,104,32,99,97,115,101,32,102,110,32,126,32]:Str),s9) (q13 hg) rfl rfl
 try dsimp only at f14
 try simp only[List.map_cons,List.map_nil,oPV_none,oPV_some,Attr.pv_eq,P22_eq,Plumb.pv_eq,Token.pv_eq,P50_eq,Redir.pv_eq,P51_eq,Cmd.pv_eq,P46_eq,Word.pv_eq,P54_eq,Var.pv_eq,P324_eq,GEnv.pv_eq,GValue.pv_eq,P59_eq,Qid.pv_eq,P66_eq,Dir.pv_eq,Msg.pv_eq,Call.pv_eq,P60_eq,Client.pv_eq,S274.pv_eq,S276.pv_eq,P81_eq,Port.pv_eq,Pattern.pv_eq,P153_eq,Rule.pv_eq,P29_eq,P30_eq,Plumber.pv_eq]at f14
 refine AW.reg hS [(2,.pv (.bool ((!decide (s1=[])&&decide (n3<0))&&ok12)))] [] ?_ ?_
 ·clear h hk hpf hS hX c
  exact dh1 (an pf_90 (an f5 (an f8.1 (an f8.2 (an f11.1 (an f11.2 (an pf_59 f14)))))))
 refine AW.ret ?_
 cases h
 exact fin
set_option maxHeartbeats 4000000 in
theorem g_F171(c:AllG env [(S240 F240),(S241 F241)]):GoodH env (S171 F171):=by
 obtain⟨O,X,hS,hX,hpf,hk⟩:=orcs (pf:=pfn) c
 have pf_240:O.pf 240=true:=pft hpf 240 rfl
 have pf_241:O.pf 241=true:=pft hpf 241 rfl
 refine GH (fn:=Tryz.f171) fn_171 rfl rfl 12 rfl [] rfl ?_
 rintro(t1:Token) (r:Str) h m em
 refine GHs rfl rfl em rfl rfl rfl ?_
 clear em m
 replace h:F171 t1=some r:=h
 rw[F171]at h
 refine AW.seq ?_
 apply AW.rg hS [1]
 ·exact di
 refine AW.seq ?_
 refine AW.seq ?_
 replace h:=obs h;obtain⟨r3,q4,h⟩:=h
 have f5:=(hk 0 240 rfl).ret t1 q4 rfl rfl
 try dsimp only at f5
 replace h:=obs h;obtain⟨r6,q7,h⟩:=h
 replace q7:=guardO_t q7
 have f8:=fun hg=>(hk 1 241 rfl).ret t1.text_ (q7 hg) rfl rfl
 try dsimp only at f8
 refine AW.reg hS [(9,.pv (.bool (r3&&r6)))] [.var [.pv (.int .i64 t1.kind_),.pv (.int .i64 t1.at_),.pv (.str t1.text_),.pv (.str t1.quoted_)]] ?_ ?_
 ·clear h hk hpf hS hX c
  exact dh1 (an pf_240 (an f5 (an pf_241 f8)))
 refine AW.iff_ h rfl rfl (fun hb9 h=>?_) (fun hb9 h=>?_)
 ·cases h
 refine AW.skip ?_
 refine AW.seq ?_
 apply AW.rg hS [2]
 ·exact di
 refine AW.ret ?_
 cases h
 exact fin
set_option maxHeartbeats 4000000 in
theorem g_F236(c:AllG env [(S235 F235)]):GoodH env (S236 F236):=by
 obtain⟨O,X,hS,hX,hpf,hk⟩:=orcs (pf:=pfn) c
 have pf_235:O.pf 235=true:=pft hpf 235 rfl
 refine GH (fn:=Tryz.f236) fn_236 rfl rfl 20 rfl [] rfl ?_
 rintro(t1:Token) (r:Bool) h m em
 refine GHs rfl rfl em rfl rfl rfl ?_
 clear em m
 replace h:F236 t1=some r:=h
 rw[F236]at h
 refine AW.seq ?_
 apply AW.rg hS [1]
 ·exact di
 refine AW.seq ?_
 refine AW.seq ?_
 apply AW.rg hS [1,5]
 ·exact di
 refine AW.iff_ h rfl rfl (fun hb3 h=>?_) (fun hb3 h=>?_)
 ·refine AW.seq ?_
  apply AW.rg hS [2]
  ·exact di
  refine AW.ret ?_
  cases h
  exact fin
 refine AW.skip ?_
 refine AW.seq ?_
 replace h:=obs h;obtain⟨r4,q5,h⟩:=h
 have f6:=(hk 0 235 rfl).ret (t1,([36]:Str)) q5 rfl rfl
 try dsimp only at f6
 try simp only[List.map_cons,List.map_nil,oPV_none,oPV_some,Attr.pv_eq,P22_eq,Plumb.pv_eq,Token.pv_eq,P50_eq,Redir.pv_eq,P51_eq,Cmd.pv_eq,P46_eq,Word.pv_eq,P54_eq,Var.pv_eq,P324_eq,GEnv.pv_eq,GValue.pv_eq,P59_eq,Qid.pv_eq,P66_eq,Dir.pv_eq,Msg.pv_eq,Call.pv_eq,P60_eq,Client.pv_eq,S274.pv_eq,S276.pv_eq,P81_eq,Port.pv_eq,Pattern.pv_eq,P153_eq,Rule.pv_eq,P29_eq,P30_eq,Plumber.pv_eq]at f6
 replace h:=obs h;obtain⟨r7,q8,h⟩:=h
 replace q8:=guardO_t q8
 have f9:=fun hg=>(hk 0 235 rfl).ret (t1,([36,35]:Str)) (q8 hg) rfl rfl
 try dsimp only at f9
 try simp only[List.map_cons,List.map_nil,oPV_none,oPV_some,Attr.pv_eq,P22_eq,Plumb.pv_eq,Token.pv_eq,P50_eq,Redir.pv_eq,P51_eq,Cmd.pv_eq,P46_eq,Word.pv_eq,P54_eq,Var.pv_eq,P324_eq,GEnv.pv_eq,GValue.pv_eq,P59_eq,Qid.pv_eq,P66_eq,Dir.pv_eq,Msg.pv_eq,Call.pv_eq,P60_eq,Client.pv_eq,S274.pv_eq,S276.pv_eq,P81_eq,Port.pv_eq,Pattern.pv_eq,P153_eq,Rule.pv_eq,P29_eq,P30_eq,Plumber.pv_eq]at f9
 replace h:=obs h;obtain⟨r10,q11,h⟩:=h
 replace q11:=guardO_t q11
 have f12:=fun hg=>(hk 0 235 rfl).ret (t1,([40]:Str)) (q11 hg) rfl rfl
 try dsimp only at f12
 try simp only[List.map_cons,List.map_nil,oPV_none,oPV_some,Attr.pv_eq,P22_eq,Plumb.pv_eq,Token.pv_eq,P50_eq,Redir.pv_eq,P51_eq,Cmd.pv_eq,P46_eq,Word.pv_eq,P54_eq,Var.pv_eq,P324_eq,GEnv.pv_eq,GValue.pv_eq,P59_eq,Qid.pv_eq,P66_eq,Dir.pv_eq,Msg.pv_eq,Call.pv_eq,P60_eq,Client.pv_eq,S274.pv_eq,S276.pv_eq,P81_eq,Port.pv_eq,Pattern.pv_eq,P153_eq,Rule.pv_eq,P29_eq,P30_eq,Plumber.pv_eq]at f12
 replace h:=obs h;obtain⟨r13,q14,h⟩:=h
 replace q14:=guardO_t q14
 have f15:=fun hg=>(hk 0 235 rfl).ret (t1,([96]:Str)) (q14 hg) rfl rfl
 try dsimp only at f15
 try simp only[List.map_cons,List.map_nil,oPV_none,oPV_some,Attr.pv_eq,P22_eq,Plumb.pv_eq,Token.pv_eq,P50_eq,Redir.pv_eq,P51_eq,Cmd.pv_eq,P46_eq,Word.pv_eq,P54_eq,Var.pv_eq,P324_eq,GEnv.pv_eq,GValue.pv_eq,P59_eq,Qid.pv_eq,P66_eq,Dir.pv_eq,Msg.pv_eq,Call.pv_eq,P60_eq,Client.pv_eq,S274.pv_eq,S276.pv_eq,P81_eq,Port.pv_eq,Pattern.pv_eq,P153_eq,Rule.pv_eq,P29_eq,P30_eq,Plumber.pv_eq]at f15
 refine AW.reg hS [(2,.pv (.bool (((r4||r7)||r10)||r13)))] [.var [.pv (.int .i64 t1.kind_),.pv (.int .i64 t1.at_),.pv (.str t1.text_),.pv (.str t1.quoted_)]] ?_ ?_
 ·clear h hk hpf hS hX c
  exact dh1 (an pf_235 (an f6 (an f9 (an f12 f15))))
 refine AW.ret ?_
 cases h
 exact fin
end Go.Abs.U54
