import Derived.Test.YtkfcehagblhjaaaGreatDoorD1
set_option linter.unusedVariables false
set_option linter.unusedSimpArgs false
set_option linter.defProp false
set_option maxRecDepth 8000
namespace Go.Abs.U54
open Go.RowKit Go.Proofs
set_option maxHeartbeats 4000000 in
theorem g_F17(c:AllG env []):GoodH env (S17 F17):=by
 obtain⟨O,X,hS,hX,hpf,hk⟩:=orcs (pf:=pfn) c
 refine GH (fn:=Tryz.f17) fn_17 rfl rfl 2 rfl [] rfl ?_
 rintro(⟨⟩:Unit) (r:Client) h m em
 refine GHs rfl rfl em rfl rfl rfl ?_
 clear em m
 replace h:F17=some r:=h
 rw[F17]at h
 refine AW.seq ?_
 apply AW.rg hS [0]
 ·exact di
 refine AW.seq ?_
 apply AW.rg hS [0]
 ·exact di
 refine AW.ret ?_
 cases h
 exact fin
set_option maxHeartbeats 4000000 in
theorem g_F47(c:AllG env [SL_CloneI]):GoodH env (S47 F47):=by
 obtain⟨O,X,hS,hX,hpf,hk⟩:=orcs (pf:=pfn) c
 have pf_109:O.pf 109=false:=pft hpf 109 rfl
 refine GH (fn:=Tryz.f47) fn_47 rfl rfl 34 rfl [3,2] rfl ?_
 rintro(c1:Client) (r:Bool×Int×Str×(List Int)×(List Call)×Str) h m em
 refine GHs rfl rfl em rfl rfl rfl ?_
 clear em m
 replace h:F47 c1=some r:=h
 rw[F47]at h
 refine AW.seq ?_
 apply AW.rg hS [1,2]
 ·exact di
 refine AW.seq ?_
 replace h:=obs h;obtain⟨u8,q9,h⟩:=h
 have f10:=mkO_f q9
 have f10m:=emakeSlice_0 (H:=[.var [.pv (.bool c1.up_),.pv (.int .i64 c1.msize_),.pv (.str c1.session_),.pv (.slice (List.map (PV.int .i64) c1.fids_)),.pv (.slice (List.map Call.pv c1.calls_)),.pv (.str c1.partial_)],.var [.pv (.bool false),.pv (.int .i64 0),.pv (.str []),.nils,.nils,.pv (.str [])]]) (k1:=.i64) (k2:=.i64) T_60 T_122 rfl rfl (of_eq_true f10.1) (of_eq_true f10.2) (by decide) (by decide)
 refine AW.reg hS [(1,.ref 0 0),(2,.ref 1 0),(3,.vec 2 (List.length ([]:List Call)))] [.var [.pv (.bool c1.up_),.pv (.int .i64 c1.msize_),.pv (.str c1.session_),.pv (.slice (List.map (PV.int .i64) c1.fids_)),.pv (.slice (List.map Call.pv c1.calls_)),.pv (.str c1.partial_)],.var [.pv (.bool false),.pv (.int .i64 0),.pv (.str []),.nils,.nils,.pv (.str [])],.row 122 40 (List.map Call.pv ([]:List Call)) false] ?_ ?_
 ·simp -implicitDefEqProofs only[RUNS,qindex,Nat.reduceAdd,Nat.reduceLeDiff,Nat.reduceSub,reduceIte,Nat.reduceEqDiff,Nat.reduceLT,reduceCtorEq,Nat.reduceMul,Nat.reduceBEq,Int.reduceEq,Int.reduceToNat,Int.toNat_zero,Nat.sub_zero,if_true,if_false,eq_self,ne_eq,TYS,f10m,List.length_nil,List.map_nil]<;>(try simp only[List.length_take,List.length_drop,List.length_map])
 refine AW.seq ?_
 refine AW.seq ?_
 apply AW.rg hS [1,2,3,12,13]
 ·exact di
 refine AW.block ?_
 refine AW.lp (α:=Nat×Unit) (fun(_,_)=>⟨sl [(1,.ref 0 0),(2,.ref 1 0),(3,.vec 2 (List.length ([]:List Call))),(12,.pv (.int .i64 (c1.calls_.length:Int))),(13,.pv (.int .i64 0))],34,[.var [.pv (.bool c1.up_),.pv (.int .i64 c1.msize_),.pv (.str c1.session_),.pv (.slice (List.map (PV.int .i64) c1.fids_)),.pv (.slice (List.map Call.pv c1.calls_)),.pv (.str c1.partial_)],.var [.pv (.bool false),.pv (.int .i64 0),.pv (.str []),.nils,.nils,.pv (.str [])],.row 122 40 (List.map Call.pv ([]:List Call)) false]⟩) (fun x=>iter (F47_b1 c1) x.1 x.2=some r) (fun x=>x.1) (BIG,()) (Weak.slots kp) h ?_
 clear h
 intro⟨n19,_⟩ h
 replace h:=iter_some h;obtain⟨m13,rfl,h⟩:=h
 rw[F47_b1]at h
 try dsimp only at h
 refine AW.st ?_
 refine AW.seq ?_
 apply AW.rg hS [1,2,3,14]
 ·exact di
 refine AW.seq ?_
 refine AW.iff_ h rfl rfl (fun hb14 h=>?_) (fun hb14 h=>?_)
 ·cases h
 refine AW.exit ?_
 refine AW.seq ?_
 apply AW.rg hS [1,2]
 ·exact di
 refine AW.seq ?_
 replace h:=obs h;obtain⟨l15,q16,h⟩:=h
 have f17:=(hk 0 109 rfl).ret c1.fids_ q16 rfl rfl
 try dsimp only at f17
 have e18:ecall O [.var [.pv (.bool c1.up_),.pv (.int .i64 c1.msize_),.pv (.str c1.session_),.pv (.slice (List.map (PV.int .i64) c1.fids_)),.vec 2 (List.length ([]:List Call)),.pv (.str c1.partial_)],.var [.pv (.bool false),.pv (.int .i64 0),.pv (.str []),.nils,.nils,.pv (.str [])],.row 122 40 (List.map Call.pv ([]:List Call)) false] 109 [.pv (.slice (List.map (PV.int .i64) c1.fids_))]=some (retAV [.vec 3 (List.length l15)],[.var [.pv (.bool c1.up_),.pv (.int .i64 c1.msize_),.pv (.str c1.session_),.pv (.slice (List.map (PV.int .i64) c1.fids_)),.vec 2 (List.length ([]:List Call)),.pv (.str c1.partial_)],.var [.pv (.bool false),.pv (.int .i64 0),.pv (.str []),.nils,.nils,.pv (.str [])],.row 122 40 (List.map Call.pv ([]:List Call)) false,.row 3 1 (List.map (PV.int .i64) l15) false]):=ecall_eq rfl rfl rfl f17 rfl rfl rfl
 try simp only[List.length_nil,List.map_nil]at e18
 apply AW.rg hS [1,2]
 ·exact di1 (an pf_109 e18)
 refine AW.seq ?_
 apply AW.rg hS [2]
 ·exact di
 refine AW.ret ?_
 cases h
 exact fin
set_option maxHeartbeats 4000000 in
theorem g_F57(c:AllG env []):GoodH env (S57 F57):=by
 obtain⟨O,X,hS,hX,hpf,hk⟩:=orcs (pf:=pfn) c
 refine GH (fn:=Tryz.f57) fn_57 rfl rfl 16 rfl [] rfl ?_
 rintro(kind1:Int) (r:Str) h m em
 refine GHs rfl rfl em rfl rfl rfl ?_
 clear em m
 replace h:F57 kind1=some r:=h
 rw[F57]at h
 refine AW.seq ?_
 apply AW.rg hS [0]
 ·exact di
 refine AW.seq ?_
 apply AW.rg hS [0,3]
 ·exact di
 refine AW.seq ?_
 refine AW.seq ?_
 refine AW.reg hS [(0,.pv (.int .i64 kind1)),(3,.full (List.map PV.str [[84,86,101,114,115,105,111,110],[82,86,101,114,115,105,111,110],[84,65,117,116,104],[82,65,117,116,104],[84,65,116,116,97,99,104],[82,65,116,116,97,99,104],[],[82,69,114,114,111,114],[84,70,108,117,115,104],[82,70,108,117,115,104],[84,87,97,108,107],[82,87,97,108,107],[84,79,112,101,110],[82,79,112,101,110],[84,67,114,101,97,116,101],[82,67,114,101,97,116,101],[84,82,101,97,100],[82,82,101,97,100],[84,87,114,105,116,101],[82,87,114,105,116,101],[84,67,108,117,110,107],[82,67,108,117,110,107],[84,82,101,109,111,118,101],[82,82,101,109,111,118,101],[84,83,116,97,116],[82,83,116,97,116],[84,87,115,116,97,116],[82,87,115,116,97,116],[84,76,101,97,115,101],[82,76,101,97,115,101],[84,82,101,115,117,109,101],[82,82,101,115,117,109,101]])),(10,.pv (.bool (decide (kind1<100)||decide (131<kind1))))] [] ?_ ?_
 ·clear h hk hpf hS hX c
  exact dh
 refine AW.iff_ h rfl rfl (fun hb3 h=>?_) (fun hb3 h=>?_)
 ·cases h
 refine AW.skip ?_
 refine AW.seq ?_
 replace h:=obs h;obtain⟨w4,q5,h⟩:=h
 have f6:=lidx_f q5
 have f6m:(List.map PV.str [[84,86,101,114,115,105,111,110],[82,86,101,114,115,105,111,110],[84,65,117,116,104],[82,65,117,116,104],[84,65,116,116,97,99,104],[82,65,116,116,97,99,104],[],[82,69,114,114,111,114],[84,70,108,117,115,104],[82,70,108,117,115,104],[84,87,97,108,107],[82,87,97,108,107],[84,79,112,101,110],[82,79,112,101,110],[84,67,114,101,97,116,101],[82,67,114,101,97,116,101],[84,82,101,97,100],[82,82,101,97,100],[84,87,114,105,116,101],[82,87,114,105,116,101],[84,67,108,117,110,107],[82,67,108,117,110,107],[84,82,101,109,111,118,101],[82,82,101,109,111,118,101],[84,83,116,97,116],[82,83,116,97,116],[84,87,115,116,97,116],[82,87,115,116,97,116],[84,76,101,97,115,101],[82,76,101,97,115,101],[84,82,101,115,117,109,101],[82,82,101,115,117,109,101]])[Int.toNat (IntKind.wrap .i64 (kind1-100))]?=some (PV.str w4):=by rw[List.getElem?_map,f6.2.1];rfl
 try simp only[List.map_cons,List.map_nil]at f6m
 apply AW.rg hS [2]
 ·exact di1 (an f6.1 (an f6.2.1 f6m))
 refine AW.ret ?_
 cases h
 exact fin
set_option maxHeartbeats 4000000 in
theorem g_F48(c:AllG env [(S57 F57)]):GoodH env (S48 F48):=by
 obtain⟨O,X,hS,hX,hpf,hk⟩:=orcs (pf:=pfn) c
 have pf_57:O.pf 57=true:=pft hpf 57 rfl
 refine GH (fn:=Tryz.f48) fn_48 rfl rfl 11 rfl [] rfl ?_
 rintro(kind1:Int) (r:Bool) h m em
 refine GHs rfl rfl em rfl rfl rfl ?_
 clear em m
 replace h:F48 kind1=some r:=h
 rw[F48]at h
 refine AW.seq ?_
 apply AW.rg hS [0]
 ·exact di
 refine AW.seq ?_
 replace h:=obs h;obtain⟨r3,q4,h⟩:=h
 replace q4:=guardO_t q4
 have f5:=fun hg=>(hk 0 57 rfl).ret kind1 (q4 hg) rfl rfl
 try dsimp only at f5
 refine AW.reg hS [(2,.pv (.bool (decide (Int.tmod kind1 2=0)&&!decide (r3=[]))))] [] ?_ ?_
 ·clear h hk hpf hS hX c
  ((simp -implicitDefEqProofs only[RUNS,qindex,Nat.reduceAdd,Nat.reduceLeDiff,Nat.reduceSub,reduceIte,Nat.reduceEqDiff,Nat.reduceLT,reduceCtorEq,Nat.reduceMul,Nat.reduceBEq,Int.reduceEq,Int.reduceToNat,Int.toNat_zero,Nat.sub_zero,if_true,if_false,eq_self,ne_eq,TYS,pf_57,f5,(show((2:Int)=0)=False from by decide)]);repeat'(split<;>rename_i hb<;>(try simp only[HBS,ge_iff_le,gt_iff_lt]at hb)<;>(try simp only[hb,Int.toNat_natCast,Int.toNat_zero,Int.reduceToNat,Nat.sub_zero,List.drop_zero,List.length_map]at q)<;>simp -implicitDefEqProofs only[RUNS,qindex,Nat.reduceAdd,Nat.reduceLeDiff,Nat.reduceSub,reduceIte,Nat.reduceEqDiff,Nat.reduceLT,reduceCtorEq,Nat.reduceMul,Nat.reduceBEq,Int.reduceEq,Int.reduceToNat,Int.toNat_zero,Nat.sub_zero,if_true,if_false,eq_self,ne_eq,TYS,pf_57,f5,(show((2:Int)=0)=False from by decide), *,decide_true,decide_false,Decidable.not_not,not_false_eq_true,not_true_eq_false]));all_goals(first|(simp only[BOOLS];done)|(simp[*];done)|((try simp only[CLOS,beq_iff_eq,bne_iff_ne,ne_eq]at *)<;>omega)|(simp_all;done)|(simp_all<;>omega))
 refine AW.ret ?_
 cases h
 exact fin
set_option maxHeartbeats 4000000 in
theorem g_F183(c:AllG env []):GoodH env (S183 F183):=by
 obtain⟨O,X,hS,hX,hpf,hk⟩:=orcs (pf:=pfn) c
 refine GH (fn:=Tryz.f183) fn_183 rfl rfl 19 rfl [] rfl ?_
 rintro(s1:(List Call)) (r:Int) h m em
 refine GHs rfl rfl em rfl rfl rfl ?_
 clear em m
 replace h:F183 s1=some r:=h
 rw[F183]at h
 refine AW.seq ?_
 apply AW.rg hS [0]
 ·exact di
 refine AW.seq ?_
 refine AW.seq ?_
 apply AW.rg hS [7,8]
 ·exact di
 refine AW.block ?_
 refine AW.lp (α:=Nat×Unit) (fun(_,_)=>⟨sl [(7,.pv (.int .i64 (s1.length:Int))),(8,.pv (.int .i64 0))],19,[]⟩) (fun x=>iter (F183_b1 s1) x.1 x.2=some r) (fun x=>x.1) (BIG,()) (Weak.slots kp) h ?_
 clear h
 intro⟨n7,_⟩ h
 replace h:=iter_some h;obtain⟨m5,rfl,h⟩:=h
 rw[F183_b1]at h
 try dsimp only at h
 refine AW.st ?_
 refine AW.seq ?_
 apply AW.rg hS [9]
 ·exact di
 refine AW.seq ?_
 refine AW.iff_ h rfl rfl (fun hb6 h=>?_) (fun hb6 h=>?_)
 ·cases h
 refine AW.exit ?_
 refine AW.seq ?_
 apply AW.rg hS [4]
 ·exact di
 refine AW.ret ?_
 cases h
 exact fin
set_option maxHeartbeats 4000000 in
theorem g_F110(c:AllG env [(S183 F183)]):GoodH env (S110 F110):=by
 obtain⟨O,X,hS,hX,hpf,hk⟩:=orcs (pf:=pfn) c
 have pf_183:O.pf 183=false:=pft hpf 183 rfl
 refine GH (fn:=Tryz.f110) fn_110 rfl rfl 9 rfl [] rfl ?_
 rintro(s1:(List Call)) (r:Bool) h m em
 refine GHs rfl rfl em rfl rfl rfl ?_
 clear em m
 replace h:F110 s1=some r:=h
 rw[F110]at h
 refine AW.seq ?_
 apply AW.rg hS [0,1]
 ·exact di
 refine AW.seq ?_
 replace h:=obs h;obtain⟨r3,q4,h⟩:=h
 have f5:=(hk 0 183 rfl).ret s1 q4 rfl rfl
 try dsimp only at f5
 have e6:ecall O [] 183 [.pv (.slice (List.map Call.pv s1)),.fn 111 []]=some (retAV [.pv (.int .i64 r3)],[]):=ecall_eq rfl rfl rfl f5 rfl rfl rfl
 apply AW.rg hS [4]
 ·exact di1 (an pf_183 e6)
 refine AW.ret ?_
 cases h
 exact fin
set_option maxHeartbeats 4000000 in
theorem g_F49(c:AllG env [(S110 F110)]):GoodH env (S49 F49):=by
 obtain⟨O,X,hS,hX,hpf,hk⟩:=orcs (pf:=pfn) c
 have pf_110:O.pf 110=false:=pft hpf 110 rfl
 refine GH (fn:=Tryz.f49) fn_49 rfl rfl 5 rfl [] rfl ?_
 rintro(l1:(List Call)) (r:Bool) h m em
 refine GHs rfl rfl em rfl rfl rfl ?_
 clear em m
 replace h:F49 l1=some r:=h
 rw[F49]at h
 refine AW.seq ?_
 apply AW.rg hS [0]
 ·exact di
 refine AW.seq ?_
 replace h:=obs h;obtain⟨r3,q4,h⟩:=h
 have f5:=(hk 0 110 rfl).ret l1 q4 rfl rfl
 try dsimp only at f5
 have e6:ecall O [] 110 [.pv (.slice (List.map Call.pv l1)),.fn 111 []]=some (retAV [.pv (.bool r3)],[]):=ecall_eq rfl rfl rfl f5 rfl rfl rfl
 apply AW.rg hS [2]
 ·exact di1 (an pf_110 e6)
 refine AW.ret ?_
 cases h
 exact fin
set_option maxHeartbeats 4000000 in
theorem g_F50(c:AllG env [SL_Clone,SL_CloneQ]):GoodH env (S50 F50):=by
 obtain⟨O,X,hS,hX,hpf,hk⟩:=orcs (pf:=pfn) c
 have pf_112:O.pf 112=true:=pft hpf 112 rfl
 have pf_113:O.pf 113=false:=pft hpf 113 rfl
 refine GH (fn:=Tryz.f50) fn_50 rfl rfl 12 rfl [] rfl ?_
 rintro(m1:Msg) (r:Msg) h m em
 refine GHs rfl rfl em rfl rfl rfl ?_
 clear em m
 replace h:F50 m1=some r:=h
 rw[F50]at h
 refine AW.seq ?_
 apply AW.rg hS [1,2]
 ·exact di
 refine AW.seq ?_
 replace h:=obs h;obtain⟨l3,q4,h⟩:=h
 have f5:=(hk 0 112 rfl).ret m1.names_ q4 rfl rfl
 try dsimp only at f5
 apply AW.rg hS [1,2]
 ·exact di1 (an pf_112 f5)
 refine AW.seq ?_
 replace h:=obs h;obtain⟨l6,q7,h⟩:=h
 have f8:=(hk 1 113 rfl).ret m1.qids_ q7 rfl rfl
 try dsimp only at f8
 have e9:ecall O [.var [.pv (.int .i64 m1.kind_),.pv (.int .i64 m1.tag_),.pv (.int .i64 m1.fid_),.pv (.int .i64 m1.newFid_),.pv (.int .i64 m1.authFid_),.pv (.int .i64 m1.oldTag_),.pv (.int .i64 m1.msize_),.pv (.str m1.version_),.pv (.str m1.user_),.pv (.str m1.attach_),.pv (.slice (List.map PV.str l3)),.pv (.slice (List.map Qid.pv m1.qids_)),.pv (.int .i64 m1.qid_.type_),.pv (.int .i64 m1.qid_.vers_),.pv (.int .i64 m1.qid_.path_),.pv (.int .i64 m1.iounit_),.pv (.int .i64 m1.mode_),.pv (.int .i64 m1.perm_),.pv (.str m1.name_),.pv (.int .i64 m1.offset_),.pv (.int .i64 m1.count_),.pv (.str m1.data_),.pv (.int .i64 m1.stat_.type_),.pv (.int .i64 m1.stat_.dev_),.pv (.int .i64 m1.stat_.qid_.type_),.pv (.int .i64 m1.stat_.qid_.vers_),.pv (.int .i64 m1.stat_.qid_.path_),.pv (.int .i64 m1.stat_.mode_),.pv (.int .i64 m1.stat_.atime_),.pv (.int .i64 m1.stat_.mtime_),.pv (.int .i64 m1.stat_.length_),.pv (.str m1.stat_.name_),.pv (.str m1.stat_.uid_),.pv (.str m1.stat_.gid_),.pv (.str m1.stat_.muid_),.pv (.int .i64 m1.err_),.pv (.int .i64 m1.lease_),.pv (.int .i64 m1.term_),.pv (.str m1.session_)],.var [.pv (.int .i64 0),.pv (.int .i64 0),.pv (.int .i64 0),.pv (.int .i64 0),.pv (.int .i64 0),.pv (.int .i64 0),.pv (.int .i64 0),.pv (.str []),.pv (.str []),.pv (.str []),.nils,.nils,.pv (.int .i64 0),.pv (.int .i64 0),.pv (.int .i64 0),.pv (.int .i64 0),.pv (.int .i64 0),.pv (.int .i64 0),.pv (.str []),.pv (.int .i64 0),.pv (.int .i64 0),.pv (.str []),.pv (.int .i64 0),.pv (.int .i64 0),.pv (.int .i64 0),.pv (.int .i64 0),.pv (.int .i64 0),.pv (.int .i64 0),.pv (.int .i64 0),.pv (.int .i64 0),.pv (.int .i64 0),.pv (.str []),.pv (.str []),.pv (.str []),.pv (.str []),.pv (.int .i64 0),.pv (.int .i64 0),.pv (.int .i64 0),.pv (.str [])]] 113 [.pv (.slice (List.map Qid.pv m1.qids_))]=some (retAV [.vec 2 (List.length l6)],[.var [.pv (.int .i64 m1.kind_),.pv (.int .i64 m1.tag_),.pv (.int .i64 m1.fid_),.pv (.int .i64 m1.newFid_),.pv (.int .i64 m1.authFid_),.pv (.int .i64 m1.oldTag_),.pv (.int .i64 m1.msize_),.pv (.str m1.version_),.pv (.str m1.user_),.pv (.str m1.attach_),.pv (.slice (List.map PV.str l3)),.pv (.slice (List.map Qid.pv m1.qids_)),.pv (.int .i64 m1.qid_.type_),.pv (.int .i64 m1.qid_.vers_),.pv (.int .i64 m1.qid_.path_),.pv (.int .i64 m1.iounit_),.pv (.int .i64 m1.mode_),.pv (.int .i64 m1.perm_),.pv (.str m1.name_),.pv (.int .i64 m1.offset_),.pv (.int .i64 m1.count_),.pv (.str m1.data_),.pv (.int .i64 m1.stat_.type_),.pv (.int .i64 m1.stat_.dev_),.pv (.int .i64 m1.stat_.qid_.type_),.pv (.int .i64 m1.stat_.qid_.vers_),.pv (.int .i64 m1.stat_.qid_.path_),.pv (.int .i64 m1.stat_.mode_),.pv (.int .i64 m1.stat_.atime_),.pv (.int .i64 m1.stat_.mtime_),.pv (.int .i64 m1.stat_.length_),.pv (.str m1.stat_.name_),.pv (.str m1.stat_.uid_),.pv (.str m1.stat_.gid_),.pv (.str m1.stat_.muid_),.pv (.int .i64 m1.err_),.pv (.int .i64 m1.lease_),.pv (.int .i64 m1.term_),.pv (.str m1.session_)],.var [.pv (.int .i64 0),.pv (.int .i64 0),.pv (.int .i64 0),.pv (.int .i64 0),.pv (.int .i64 0),.pv (.int .i64 0),.pv (.int .i64 0),.pv (.str []),.pv (.str []),.pv (.str []),.nils,.nils,.pv (.int .i64 0),.pv (.int .i64 0),.pv (.int .i64 0),.pv (.int .i64 0),.pv (.int .i64 0),.pv (.int .i64 0),.pv (.str []),.pv (.int .i64 0),.pv (.int .i64 0),.pv (.str []),.pv (.int .i64 0),.pv (.int .i64 0),.pv (.int .i64 0),.pv (.int .i64 0),.pv (.int .i64 0),.pv (.int .i64 0),.pv (.int .i64 0),.pv (.int .i64 0),.pv (.int .i64 0),.pv (.str []),.pv (.str []),.pv (.str []),.pv (.str []),.pv (.int .i64 0),.pv (.int .i64 0),.pv (.int .i64 0),.pv (.str [])],.row 68 3 (List.map Qid.pv l6) false]):=ecall_eq rfl rfl rfl f8 rfl rfl rfl
 apply AW.rg hS [1,2]
 ·exact di1 (an pf_113 e9)
 refine AW.seq ?_
 refine AW.weak (Weak.freeze 2 rfl) ?_
 refine AW.weak (σ':=⟨sl [(1,.ref 0 0),(2,.ref 1 0)],12,[.var [.pv (.int .i64 m1.kind_),.pv (.int .i64 m1.tag_),.pv (.int .i64 m1.fid_),.pv (.int .i64 m1.newFid_),.pv (.int .i64 m1.authFid_),.pv (.int .i64 m1.oldTag_),.pv (.int .i64 m1.msize_),.pv (.str m1.version_),.pv (.str m1.user_),.pv (.str m1.attach_),.pv (.slice (List.map PV.str l3)),.vec 2 (List.length l6),.pv (.int .i64 m1.qid_.type_),.pv (.int .i64 m1.qid_.vers_),.pv (.int .i64 m1.qid_.path_),.pv (.int .i64 m1.iounit_),.pv (.int .i64 m1.mode_),.pv (.int .i64 m1.perm_),.pv (.str m1.name_),.pv (.int .i64 m1.offset_),.pv (.int .i64 m1.count_),.pv (.str m1.data_),.pv (.int .i64 m1.stat_.type_),.pv (.int .i64 m1.stat_.dev_),.pv (.int .i64 m1.stat_.qid_.type_),.pv (.int .i64 m1.stat_.qid_.vers_),.pv (.int .i64 m1.stat_.qid_.path_),.pv (.int .i64 m1.stat_.mode_),.pv (.int .i64 m1.stat_.atime_),.pv (.int .i64 m1.stat_.mtime_),.pv (.int .i64 m1.stat_.length_),.pv (.str m1.stat_.name_),.pv (.str m1.stat_.uid_),.pv (.str m1.stat_.gid_),.pv (.str m1.stat_.muid_),.pv (.int .i64 m1.err_),.pv (.int .i64 m1.lease_),.pv (.int .i64 m1.term_),.pv (.str m1.session_)],.var [.pv (.int .i64 0),.pv (.int .i64 0),.pv (.int .i64 0),.pv (.int .i64 0),.pv (.int .i64 0),.pv (.int .i64 0),.pv (.int .i64 0),.pv (.str []),.pv (.str []),.pv (.str []),.nils,.nils,.pv (.int .i64 0),.pv (.int .i64 0),.pv (.int .i64 0),.pv (.int .i64 0),.pv (.int .i64 0),.pv (.int .i64 0),.pv (.str []),.pv (.int .i64 0),.pv (.int .i64 0),.pv (.str []),.pv (.int .i64 0),.pv (.int .i64 0),.pv (.int .i64 0),.pv (.int .i64 0),.pv (.int .i64 0),.pv (.int .i64 0),.pv (.int .i64 0),.pv (.int .i64 0),.pv (.int .i64 0),.pv (.str []),.pv (.str []),.pv (.str []),.pv (.str []),.pv (.int .i64 0),.pv (.int .i64 0),.pv (.int .i64 0),.pv (.str [])],.row 68 3 (List.map Qid.pv l6) true]⟩) (Weak.of_eq (Weak.slots (L:=[(1,.ref 0 0),(2,.ref 1 0)]) kp) (by first|rfl|(simp only[List.length_set,List.length_map];rfl))) ?_
 refine AW.weak (Weak.cellPV 0 11 (cs:=[.pv (.int .i64 m1.kind_),.pv (.int .i64 m1.tag_),.pv (.int .i64 m1.fid_),.pv (.int .i64 m1.newFid_),.pv (.int .i64 m1.authFid_),.pv (.int .i64 m1.oldTag_),.pv (.int .i64 m1.msize_),.pv (.str m1.version_),.pv (.str m1.user_),.pv (.str m1.attach_),.pv (.slice (List.map PV.str l3)),.vec 2 (List.length l6),.pv (.int .i64 m1.qid_.type_),.pv (.int .i64 m1.qid_.vers_),.pv (.int .i64 m1.qid_.path_),.pv (.int .i64 m1.iounit_),.pv (.int .i64 m1.mode_),.pv (.int .i64 m1.perm_),.pv (.str m1.name_),.pv (.int .i64 m1.offset_),.pv (.int .i64 m1.count_),.pv (.str m1.data_),.pv (.int .i64 m1.stat_.type_),.pv (.int .i64 m1.stat_.dev_),.pv (.int .i64 m1.stat_.qid_.type_),.pv (.int .i64 m1.stat_.qid_.vers_),.pv (.int .i64 m1.stat_.qid_.path_),.pv (.int .i64 m1.stat_.mode_),.pv (.int .i64 m1.stat_.atime_),.pv (.int .i64 m1.stat_.mtime_),.pv (.int .i64 m1.stat_.length_),.pv (.str m1.stat_.name_),.pv (.str m1.stat_.uid_),.pv (.str m1.stat_.gid_),.pv (.str m1.stat_.muid_),.pv (.int .i64 m1.err_),.pv (.int .i64 m1.lease_),.pv (.int .i64 m1.term_),.pv (.str m1.session_)]) (a:=.vec 2 (List.length l6)) (p:=.slice (List.map Qid.pv l6)) rfl rfl (by first|rfl|simp only[toPV,List.getElem?_cons_zero,List.getElem?_cons_succ,List.length_map,if_true,List.map_nil])) ?_
 refine AW.weak (σ':=⟨sl [(1,.ref 0 0),(2,.ref 1 0)],12,[.var [.pv (.int .i64 m1.kind_),.pv (.int .i64 m1.tag_),.pv (.int .i64 m1.fid_),.pv (.int .i64 m1.newFid_),.pv (.int .i64 m1.authFid_),.pv (.int .i64 m1.oldTag_),.pv (.int .i64 m1.msize_),.pv (.str m1.version_),.pv (.str m1.user_),.pv (.str m1.attach_),.pv (.slice (List.map PV.str l3)),.pv (.slice (List.map Qid.pv l6)),.pv (.int .i64 m1.qid_.type_),.pv (.int .i64 m1.qid_.vers_),.pv (.int .i64 m1.qid_.path_),.pv (.int .i64 m1.iounit_),.pv (.int .i64 m1.mode_),.pv (.int .i64 m1.perm_),.pv (.str m1.name_),.pv (.int .i64 m1.offset_),.pv (.int .i64 m1.count_),.pv (.str m1.data_),.pv (.int .i64 m1.stat_.type_),.pv (.int .i64 m1.stat_.dev_),.pv (.int .i64 m1.stat_.qid_.type_),.pv (.int .i64 m1.stat_.qid_.vers_),.pv (.int .i64 m1.stat_.qid_.path_),.pv (.int .i64 m1.stat_.mode_),.pv (.int .i64 m1.stat_.atime_),.pv (.int .i64 m1.stat_.mtime_),.pv (.int .i64 m1.stat_.length_),.pv (.str m1.stat_.name_),.pv (.str m1.stat_.uid_),.pv (.str m1.stat_.gid_),.pv (.str m1.stat_.muid_),.pv (.int .i64 m1.err_),.pv (.int .i64 m1.lease_),.pv (.int .i64 m1.term_),.pv (.str m1.session_)],.var [.pv (.int .i64 0),.pv (.int .i64 0),.pv (.int .i64 0),.pv (.int .i64 0),.pv (.int .i64 0),.pv (.int .i64 0),.pv (.int .i64 0),.pv (.str []),.pv (.str []),.pv (.str []),.nils,.nils,.pv (.int .i64 0),.pv (.int .i64 0),.pv (.int .i64 0),.pv (.int .i64 0),.pv (.int .i64 0),.pv (.int .i64 0),.pv (.str []),.pv (.int .i64 0),.pv (.int .i64 0),.pv (.str []),.pv (.int .i64 0),.pv (.int .i64 0),.pv (.int .i64 0),.pv (.int .i64 0),.pv (.int .i64 0),.pv (.int .i64 0),.pv (.int .i64 0),.pv (.int .i64 0),.pv (.int .i64 0),.pv (.str []),.pv (.str []),.pv (.str []),.pv (.str []),.pv (.int .i64 0),.pv (.int .i64 0),.pv (.int .i64 0),.pv (.str [])],.row 68 3 (List.map Qid.pv l6) true]⟩) (Weak.of_eq (Weak.slots (L:=[(1,.ref 0 0),(2,.ref 1 0)]) ⟨rfl,rfl,trivial⟩) (by first|rfl|(simp only[List.length_set,List.length_map];rfl))) ?_
 apply AW.rg hS [2]
 ·exact di
 refine AW.ret ?_
 cases h
 exact fin
set_option maxHeartbeats 4000000 in
theorem g_F183x1(c:AllG env []):GoodH env (S183x1 F183x1):=by
 obtain⟨O,X,hS,hX,hpf,hk⟩:=orcs (pf:=pfn) c
 refine GH (fn:=Tryz.f183) fn_183 rfl rfl 19 rfl [] rfl ?_
 rintro(⟨s1,x2⟩:(List Call)×Int) (r:Int) h m em
 refine GHs rfl rfl em rfl rfl rfl ?_
 clear em m
 replace h:F183x1 s1 x2=some r:=h
 rw[F183x1]at h
 refine AW.seq ?_
 apply AW.rg hS [0]
 ·exact di
 refine AW.seq ?_
 refine AW.seq ?_
 apply AW.rg hS [7,8]
 ·exact di
 refine AW.block ?_
 refine AW.lp (α:=Nat×Unit) (fun(_,_)=>⟨sl [(7,.pv (.int .i64 (s1.length:Int))),(8,.pv (.int .i64 0))],19,[.var [.pv (.int .i64 x2)]]⟩) (fun x=>iter (F183x1_b1 s1) x.1 x.2=some r) (fun x=>x.1) (BIG,()) (Weak.slots kp) h ?_
 clear h
 intro⟨n8,_⟩ h
 replace h:=iter_some h;obtain⟨m6,rfl,h⟩:=h
 rw[F183x1_b1]at h
 try dsimp only at h
 refine AW.st ?_
 refine AW.seq ?_
 apply AW.rg hS [9]
 ·exact di
 refine AW.seq ?_
 refine AW.iff_ h rfl rfl (fun hb7 h=>?_) (fun hb7 h=>?_)
 ·cases h
 refine AW.exit ?_
 refine AW.seq ?_
 apply AW.rg hS [4]
 ·exact di
 refine AW.ret ?_
 cases h
 exact fin
set_option maxHeartbeats 4000000 in
theorem g_F114(c:AllG env [(S183x1 F183x1)]):GoodH env (S114 F114):=by
 obtain⟨O,X,hS,hX,hpf,hk⟩:=orcs (pf:=pfn) c
 have pf_183:O.pf 183=false:=pft hpf 183 rfl
 refine GH (fn:=Tryz.f114) fn_114 rfl rfl 8 rfl [] rfl ?_
 rintro(⟨l1,tag2⟩:(List Call)×Int) (r:Int) h m em
 refine GHs rfl rfl em rfl rfl rfl ?_
 clear em m
 replace h:F114 l1 tag2=some r:=h
 rw[F114]at h
 refine AW.seq ?_
 apply AW.rg hS [0,3]
 ·exact di
 refine AW.seq ?_
 replace h:=obs h;obtain⟨r4,q5,h⟩:=h
 have f6:=(hk 0 183 rfl).ret (l1,tag2) q5 rfl rfl
 try dsimp only at f6
 have e7:ecall O [.var [.pv (.int .i64 tag2)]] 183 [.pv (.slice (List.map Call.pv l1)),.fn 184 [0]]=some (retAV [.pv (.int .i64 r4)],[.var [.pv (.int .i64 tag2)]]):=ecall_eq rfl rfl rfl f6 rfl rfl rfl
 apply AW.rg hS [4]
 ·exact di1 (an pf_183 e7)
 refine AW.ret ?_
 cases h
 exact fin
set_option maxHeartbeats 4000000 in
theorem g_F183x2(c:AllG env []):GoodH env (S183x2 F183x2):=by
 obtain⟨O,X,hS,hX,hpf,hk⟩:=orcs (pf:=pfn) c
 refine GH (fn:=Tryz.f183) fn_183 rfl rfl 19 rfl [] rfl ?_
 rintro(⟨s1,x2⟩:(List Call)×Int) (r:Int) h m em
 refine GHs rfl rfl em rfl rfl rfl ?_
 clear em m
 replace h:F183x2 s1 x2=some r:=h
 rw[F183x2]at h
 refine AW.seq ?_
 apply AW.rg hS [0]
 ·exact di
 refine AW.seq ?_
 refine AW.seq ?_
 apply AW.rg hS [7,8]
 ·exact di
 refine AW.block ?_
 refine AW.lp (α:=Nat×Unit) (fun(_,_)=>⟨sl [(7,.pv (.int .i64 (s1.length:Int))),(8,.pv (.int .i64 0))],19,[.var [.pv (.int .i64 x2)]]⟩) (fun x=>iter (F183x2_b1 s1) x.1 x.2=some r) (fun x=>x.1) (BIG,()) (Weak.slots kp) h ?_
 clear h
 intro⟨n8,_⟩ h
 replace h:=iter_some h;obtain⟨m6,rfl,h⟩:=h
 rw[F183x2_b1]at h
 try dsimp only at h
 refine AW.st ?_
 refine AW.seq ?_
 apply AW.rg hS [9]
 ·exact di
 refine AW.seq ?_
 refine AW.iff_ h rfl rfl (fun hb7 h=>?_) (fun hb7 h=>?_)
 ·cases h
 refine AW.exit ?_
 refine AW.seq ?_
 apply AW.rg hS [4]
 ·exact di
 refine AW.ret ?_
 cases h
 exact fin
set_option maxHeartbeats 4000000 in
theorem g_F115(c:AllG env [(S183x2 F183x2)]):GoodH env (S115 F115):=by
 obtain⟨O,X,hS,hX,hpf,hk⟩:=orcs (pf:=pfn) c
 have pf_183:O.pf 183=false:=pft hpf 183 rfl
 refine GH (fn:=Tryz.f115) fn_115 rfl rfl 17 rfl [] rfl ?_
 rintro(⟨l1,tag2⟩:(List Call)×Int) (r:Int) h m em
 refine GHs rfl rfl em rfl rfl rfl ?_
 clear em m
 replace h:F115 l1 tag2=some r:=h
 rw[F115]at h
 refine AW.seq ?_
 apply AW.rg hS [0,3]
 ·exact di
 refine AW.seq ?_
 replace h:=obs h;obtain⟨r4,q5,h⟩:=h
 have f6:=(hk 0 183 rfl).ret (l1,tag2) q5 rfl rfl
 try dsimp only at f6
 have e7:ecall O [.var [.pv (.int .i64 tag2)]] 183 [.pv (.slice (List.map Call.pv l1)),.fn 185 [0]]=some (retAV [.pv (.int .i64 r4)],[.var [.pv (.int .i64 tag2)]]):=ecall_eq rfl rfl rfl f6 rfl rfl rfl
 apply AW.rg hS [5]
 ·exact di1 (an pf_183 e7)
 refine AW.seq ?_
 refine AW.seq ?_
 apply AW.rg hS [10]
 ·exact di
 refine AW.iff_ h rfl rfl (fun hb8 h=>?_) (fun hb8 h=>?_)
 ·refine AW.seq ?_
  apply AW.rg hS [4]
  ·exact di
  refine AW.ret ?_
  cases h
  exact fin
 cases h
set_option maxHeartbeats 4000000 in
theorem g_F51(c:AllG env [(S114 F114),(S115 F115)]):GoodH env (S51 F51):=by
 obtain⟨O,X,hS,hX,hpf,hk⟩:=orcs (pf:=pfn) c
 have pf_114:O.pf 114=true:=pft hpf 114 rfl
 have pf_115:O.pf 115=true:=pft hpf 115 rfl
 refine GH (fn:=Tryz.f51) fn_51 rfl rfl 17 rfl [] rfl ?_
 rintro(l1:(List Call)) (r:Int) h m em
 refine GHs rfl rfl em rfl rfl rfl ?_
 clear em m
 replace h:F51 l1=some r:=h
 rw[F51]at h
 refine AW.seq ?_
 apply AW.rg hS [0]
 ·exact di
 refine AW.seq ?_
 apply AW.rg hS [0,3]
 ·exact di
 refine AW.seq ?_
 refine AW.block ?_
 refine AW.lp (α:=Nat×Unit) (fun(_,_)=>⟨sl [(0,.pv (.slice (List.map Call.pv l1))),(3,.pv (.int .i64 1))],17,[]⟩) (fun x=>iter (F51_b1 l1) x.1 x.2=some r) (fun x=>x.1) (BIG,()) (Weak.slots kp) h ?_
 clear h
 intro⟨n13,_⟩ h
 replace h:=iter_some h;obtain⟨m5,rfl,h⟩:=h
 rw[F51_b1]at h
 try dsimp only at h
 refine AW.st ?_
 refine AW.seq ?_
 refine AW.seq ?_
 replace h:=obs h;obtain⟨r6,q7,h⟩:=h
 have f8:=(hk 0 114 rfl).ret (l1,1) q7 rfl rfl
 try dsimp only at f8
 replace h:=obs h;obtain⟨r9,q10,h⟩:=h
 replace q10:=guardO_t q10
 have f11:=fun hg=>(hk 1 115 rfl).ret (l1,1) (q10 hg) rfl rfl
 try dsimp only at f11
 refine AW.reg hS [(3,.pv (.int .i64 1)),(13,.pv (.bool (decide (0≤r6)||!decide (r9=65535))))] [] ?_ ?_
 ·clear h hk hpf hS hX c
  exact dh1 (an pf_114 (an f8 (an pf_115 f11)))
 refine AW.iff_ h rfl rfl (fun hb12 h=>?_) (fun hb12 h=>?_)
 ·cases h
 refine AW.exit ?_
 refine AW.seq ?_
 apply AW.rg hS [2]
 ·exact di
 refine AW.ret ?_
 cases h
 exact fin
set_option maxHeartbeats 4000000 in
theorem g_F124(c:AllG env []):GoodH env (S124 F124):=by
 obtain⟨O,X,hS,hX,hpf,hk⟩:=orcs (pf:=pfn) c
 refine GH (fn:=Tryz.f124) fn_124 rfl rfl 29 rfl [] rfl ?_
 rintro(m1:Msg) (r:Bool) h m em
 refine GHs rfl rfl em rfl rfl rfl ?_
 clear em m
 replace h:F124 m1=some r:=h
 rw[F124]at h
 refine AW.seq ?_
 apply AW.rg hS [1]
 ·exact di
 refine AW.seq ?_
 refine AW.seq ?_
 apply AW.rg hS [1,4]
 ·exact di
 refine AW.block ?_
 refine AW.seq ?_
 refine AW.seq ?_
 apply AW.rg hS [1,4,5]
 ·exact di
 refine AW.iff_ h rfl rfl (fun hb3 h=>?_) (fun hb3 h=>?_)
 ·cases h
 apply AW.rg hS [1,4,5]
 ·exact di
 refine AW.iff_ h rfl rfl (fun hb4 h=>?_) (fun hb4 h=>?_)
 ·cases h
 refine AW.seq ?_
 apply AW.rg hS [1,11]
 ·exact di
 refine AW.iff_ h rfl rfl (fun hb5 h=>?_) (fun hb5 h=>?_)
 ·cases h
 refine AW.skip ?_
 refine AW.seq ?_
 refine AW.reg hS [(2,.pv (.bool (decide (0≤m1.tag_)&&decide (m1.tag_≤65534))))] [.var [.pv (.int .i64 m1.kind_),.pv (.int .i64 m1.tag_),.pv (.int .i64 m1.fid_),.pv (.int .i64 m1.newFid_),.pv (.int .i64 m1.authFid_),.pv (.int .i64 m1.oldTag_),.pv (.int .i64 m1.msize_),.pv (.str m1.version_),.pv (.str m1.user_),.pv (.str m1.attach_),.pv (.slice (List.map PV.str m1.names_)),.pv (.slice (List.map Qid.pv m1.qids_)),.pv (.int .i64 m1.qid_.type_),.pv (.int .i64 m1.qid_.vers_),.pv (.int .i64 m1.qid_.path_),.pv (.int .i64 m1.iounit_),.pv (.int .i64 m1.mode_),.pv (.int .i64 m1.perm_),.pv (.str m1.name_),.pv (.int .i64 m1.offset_),.pv (.int .i64 m1.count_),.pv (.str m1.data_),.pv (.int .i64 m1.stat_.type_),.pv (.int .i64 m1.stat_.dev_),.pv (.int .i64 m1.stat_.qid_.type_),.pv (.int .i64 m1.stat_.qid_.vers_),.pv (.int .i64 m1.stat_.qid_.path_),.pv (.int .i64 m1.stat_.mode_),.pv (.int .i64 m1.stat_.atime_),.pv (.int .i64 m1.stat_.mtime_),.pv (.int .i64 m1.stat_.length_),.pv (.str m1.stat_.name_),.pv (.str m1.stat_.uid_),.pv (.str m1.stat_.gid_),.pv (.str m1.stat_.muid_),.pv (.int .i64 m1.err_),.pv (.int .i64 m1.lease_),.pv (.int .i64 m1.term_),.pv (.str m1.session_)]] ?_ ?_
 ·clear h hk hpf hS hX c
  exact dh
 refine AW.ret ?_
 cases h
 exact fin
set_option maxHeartbeats 4000000 in
theorem g_F196(c:AllG env []):GoodH env (S196 F196):=by
 obtain⟨O,X,hS,hX,hpf,hk⟩:=orcs (pf:=pfn) c
 refine GH (fn:=Tryz.f196) fn_196 rfl rfl 87 rfl [] rfl ?_
 rintro(⟨m1,out2⟩:Msg×Msg) (r:Msg) h m em
 refine GHs rfl rfl em rfl rfl rfl ?_
 clear em m
 replace h:F196 m1 out2=some r:=h
 rw[F196]at h
 refine AW.seq ?_
 apply AW.rg hS [2,3,4]
 ·exact di
 refine AW.seq ?_
 refine AW.seq ?_
 apply AW.rg hS [2,3,4,6]
 ·exact di
 refine AW.block ?_
 refine AW.seq ?_
 apply AW.rg hS [2,3,4,6,7]
 ·exact di
 refine AW.iff_ h rfl rfl (fun hb4 h=>?_) (fun hb4 h=>?_)
 ·cases h
 refine AW.seq ?_
 apply AW.rg hS [2,3,4,6,18]
 ·exact di
 refine AW.iff_ h rfl rfl (fun hb5 h=>?_) (fun hb5 h=>?_)
 ·cases h
 refine AW.seq ?_
 apply AW.rg hS [2,3,4,6,23]
 ·exact di
 refine AW.iff_ h rfl rfl (fun hb6 h=>?_) (fun hb6 h=>?_)
 ·cases h
 refine AW.seq ?_
 apply AW.rg hS [2,3,4,6,34]
 ·exact di
 refine AW.iff_ h rfl rfl (fun hb7 h=>?_) (fun hb7 h=>?_)
 ·cases h
 refine AW.seq ?_
 refine AW.seq ?_
 apply AW.rg hS [2,3,4,39]
 ·exact di
 refine AW.iff_ h rfl rfl (fun hb8 h=>?_) (fun hb8 h=>?_)
 ·refine AW.skip ?_
  refine AW.iff_ h rfl rfl (fun hb9 h=>?_) (fun hb9 h=>?_)
  ·apply AW.rg hS [3,4]
   ·exact di
   refine AW.seq ?_
   apply AW.rg hS [4]
   ·exact di
   refine AW.ret ?_
   cases h
   exact fin
  cases h
 cases h
set_option maxHeartbeats 4000000 in
theorem g_F126(c:AllG env [(S196 F196)]):GoodH env (S126 F126):=by
 obtain⟨O,X,hS,hX,hpf,hk⟩:=orcs (pf:=pfn) c
 have pf_196:O.pf 196=true:=pft hpf 196 rfl
 refine GH (fn:=Tryz.f126) fn_126 rfl rfl 122 rfl [] rfl ?_
 rintro(m1:Msg) (r:Msg) h m em
 refine GHs rfl rfl em rfl rfl rfl ?_
 clear em m
 replace h:F126 m1=some r:=h
 rw[F126]at h
 refine AW.seq ?_
 apply AW.rg hS [1,2]
 ·exact di
 refine AW.seq ?_
 apply AW.rg hS [1,2,3]
 ·exact di
 refine AW.seq ?_
 refine AW.seq ?_
 apply AW.rg hS [1,2,3,10]
 ·exact di
 refine AW.block ?_
 refine AW.seq ?_
 apply AW.rg hS [1,2,3,10,14]
 ·exact di
 refine AW.iff_ h rfl rfl (fun hb3 h=>?_) (fun hb3 h=>?_)
 ·cases h
 refine AW.seq ?_
 apply AW.rg hS [1,2,3,10,22]
 ·exact di
 refine AW.iff_ h rfl rfl (fun hb4 h=>?_) (fun hb4 h=>?_)
 ·cases h
 refine AW.seq ?_
 apply AW.rg hS [1,2,3,10,33]
 ·exact di
 refine AW.iff_ h rfl rfl (fun hb5 h=>?_) (fun hb5 h=>?_)
 ·cases h
 refine AW.seq ?_
 apply AW.rg hS [1,2,3,10,44]
 ·exact di
 refine AW.iff_ h rfl rfl (fun hb6 h=>?_) (fun hb6 h=>?_)
 ·cases h
 refine AW.seq ?_
 refine AW.seq ?_
 apply AW.rg hS [1,2,3,10,58]
 ·exact di
 refine AW.iff_ h rfl rfl (fun hb7 h=>?_) (fun hb7 h=>?_)
 ·cases h
 apply AW.rg hS [1,2,3,10,58]
 ·exact di
 refine AW.iff_ h rfl rfl (fun hb8 h=>?_) (fun hb8 h=>?_)
 ·cases h
 refine AW.seq ?_
 apply AW.rg hS [1,2,3,10,64]
 ·exact di
 refine AW.iff_ h rfl rfl (fun hb9 h=>?_) (fun hb9 h=>?_)
 ·cases h
 refine AW.seq ?_
 apply AW.rg hS [1,2,3,10,69]
 ·exact di
 refine AW.iff_ h rfl rfl (fun hb10 h=>?_) (fun hb10 h=>?_)
 ·cases h
 refine AW.seq ?_
 apply AW.rg hS [1,2,3,10,74]
 ·exact di
 refine AW.iff_ h rfl rfl (fun hb11 h=>?_) (fun hb11 h=>?_)
 ·cases h
 refine AW.seq ?_
 apply AW.rg hS [1,2,3,10,85]
 ·exact di
 refine AW.iff_ h rfl rfl (fun hb12 h=>?_) (fun hb12 h=>?_)
 ·cases h
 refine AW.seq ?_
 apply AW.rg hS [1,2,3,10,90]
 ·exact di
 refine AW.iff_ h rfl rfl (fun hb13 h=>?_) (fun hb13 h=>?_)
 ·cases h
 refine AW.seq ?_
 refine AW.seq ?_
 apply AW.rg hS [1,2,3,10,98]
 ·exact di
 refine AW.iff_ h rfl rfl (fun hb14 h=>?_) (fun hb14 h=>?_)
 ·cases h
 apply AW.rg hS [1,2,3,10,98]
 ·exact di
 refine AW.iff_ h rfl rfl (fun hb15 h=>?_) (fun hb15 h=>?_)
 ·cases h
 refine AW.seq ?_
 apply AW.rg hS [1,2,3,107]
 ·exact di
 refine AW.iff_ h rfl rfl (fun hb16 h=>?_) (fun hb16 h=>?_)
 ·cases h
 refine AW.seq ?_
 replace h:=obs h;obtain⟨r17,q18,h⟩:=h
 have f19:=(hk 0 196 rfl).ret (m1,Msg.mk m1.kind_ m1.tag_ 0 0 0 0 0 [] [] [] [] [] (Qid.mk 0 0 0) 0 0 0 [] 0 0 [] (Dir.mk 0 0 (Qid.mk 0 0 0) 0 0 0 0 [] [] [] []) 0 0 0 []) q18 rfl rfl
 try dsimp only at f19
 try simp only[List.map_cons,List.map_nil,oPV_none,oPV_some,Attr.pv_eq,P22_eq,Plumb.pv_eq,Token.pv_eq,P50_eq,Redir.pv_eq,P51_eq,Cmd.pv_eq,P46_eq,Word.pv_eq,P54_eq,Var.pv_eq,P324_eq,GEnv.pv_eq,GValue.pv_eq,P59_eq,Qid.pv_eq,P66_eq,Dir.pv_eq,Msg.pv_eq,Call.pv_eq,P60_eq,Client.pv_eq,S274.pv_eq,S276.pv_eq,P81_eq,Port.pv_eq,Pattern.pv_eq,P153_eq,Rule.pv_eq,P29_eq,P30_eq,Plumber.pv_eq]at f19
 apply AW.rg hS [2]
 ·exact di1 (an pf_196 f19)
 refine AW.ret ?_
 cases h
 exact fin
set_option maxHeartbeats 4000000 in
theorem g_F192(c:AllG env []):GoodH env (S192 F192):=by
 obtain⟨O,X,hS,hX,hpf,hk⟩:=orcs (pf:=pfn) c
 refine GH (fn:=Tryz.f192) fn_192 rfl rfl 30 rfl [] rfl ?_
 rintro(m1:Msg) (r:S274) h m em
 refine GHs rfl rfl em rfl rfl rfl ?_
 clear em m
 replace h:F192 m1=some r:=h
 rw[F192]at h
 refine AW.seq ?_
 apply AW.rg hS [1,2]
 ·exact di
 refine AW.seq ?_
 have ar3m:qbuildA2 env 274 [(0,.pv (.int .i64 m1.kind_)),(1,.pv (.int .i64 m1.tag_)),(2,.pv (.int .i64 m1.fid_)),(3,.pv (.int .i64 m1.newFid_)),(4,.pv (.int .i64 m1.authFid_)),(5,.pv (.int .i64 m1.oldTag_)),(6,.pv (.int .i64 m1.msize_)),(7,.pv (.int .i64 m1.iounit_)),(8,.pv (.int .i64 m1.mode_)),(9,.pv (.int .i64 m1.perm_)),(10,.pv (.int .i64 m1.offset_)),(11,.pv (.int .i64 m1.count_)),(12,.pv (.int .i64 m1.lease_))]=some (.pv (.agg [.int .i64 m1.kind_,.int .i64 m1.tag_,.int .i64 m1.fid_,.int .i64 m1.newFid_,.int .i64 m1.authFid_,.int .i64 m1.oldTag_,.int .i64 m1.msize_,.int .i64 m1.iounit_,.int .i64 m1.mode_,.int .i64 m1.perm_,.int .i64 m1.offset_,.int .i64 m1.count_,.int .i64 m1.lease_])):=by kernel_rfl
 apply AW.rg hS [2]
 ·simp -implicitDefEqProofs only[RUNS,qindex,Nat.reduceAdd,Nat.reduceLeDiff,Nat.reduceSub,reduceIte,Nat.reduceEqDiff,Nat.reduceLT,reduceCtorEq,Nat.reduceMul,Nat.reduceBEq,Int.reduceEq,Int.reduceToNat,Int.toNat_zero,Nat.sub_zero,if_true,if_false,eq_self,ne_eq,pick_nil,pick_cons,leavesK_some,TYS,ar3m];exact⟨rfl,rfl⟩
 refine AW.ret ?_
 cases h
 exact fin
set_option maxHeartbeats 4000000 in
theorem g_F193(c:AllG env []):GoodH env (S193 F193):=by
 obtain⟨O,X,hS,hX,hpf,hk⟩:=orcs (pf:=pfn) c
 refine GH (fn:=Tryz.f193) fn_193 rfl rfl 16 rfl [] rfl ?_
 rintro(m1:Msg) (r:S276) h m em
 refine GHs rfl rfl em rfl rfl rfl ?_
 clear em m
 replace h:F193 m1=some r:=h
 rw[F193]at h
 refine AW.seq ?_
 apply AW.rg hS [1,2]
 ·exact di
 refine AW.seq ?_
 have ar3m:qbuildA2 env 276 [(0,.pv (.str m1.version_)),(1,.pv (.str m1.user_)),(2,.pv (.str m1.attach_)),(3,.pv (.str m1.name_)),(4,.pv (.str m1.data_)),(5,.pv (.str m1.session_))]=some (.pv (.agg [.str m1.version_,.str m1.user_,.str m1.attach_,.str m1.name_,.str m1.data_,.str m1.session_])):=by kernel_rfl
 apply AW.rg hS [2]
 ·simp -implicitDefEqProofs only[RUNS,qindex,Nat.reduceAdd,Nat.reduceLeDiff,Nat.reduceSub,reduceIte,Nat.reduceEqDiff,Nat.reduceLT,reduceCtorEq,Nat.reduceMul,Nat.reduceBEq,Int.reduceEq,Int.reduceToNat,Int.toNat_zero,Nat.sub_zero,if_true,if_false,eq_self,ne_eq,pick_nil,pick_cons,leavesK_some,TYS,ar3m];exact⟨rfl,rfl⟩
 refine AW.ret ?_
 cases h
 exact fin
set_option maxHeartbeats 4000000 in
theorem g_F194(c:AllG env []):GoodH env (S194 F194):=by
 obtain⟨O,X,hS,hX,hpf,hk⟩:=orcs (pf:=pfn) c
 refine GH (fn:=Tryz.f194) fn_194 rfl rfl 26 rfl [] rfl ?_
 rintro(⟨s1x1,s2x2⟩:(List Str)×(List Str)) (r:Bool) h m em
 refine GHs rfl rfl em rfl rfl rfl ?_
 clear em m
 replace h:F194 s1x1 s2x2=some r:=h
 rw[F194]at h
 refine AW.seq ?_
 apply AW.rg hS [0,1]
 ·exact di
 refine AW.seq ?_
 refine AW.seq ?_
 apply AW.rg hS [0,10]
 ·exact di
 refine AW.iff_ h rfl rfl (fun hb4 h=>?_) (fun hb4 h=>?_)
 ·cases h
 refine AW.skip ?_
 refine AW.seq ?_
 refine AW.seq ?_
 apply AW.rg hS [12,13]
 ·exact di
 refine AW.block ?_
 refine AW.lp (α:=Nat×Unit) (fun(_,_)=>⟨sl [(12,.pv (.int .i64 (s1x1.length:Int))),(13,.pv (.int .i64 0))],26,[]⟩) (fun x=>iter (F194_b1 s1x1) x.1 x.2=some r) (fun x=>x.1) (BIG,()) (Weak.slots kp) h ?_
 clear h
 intro⟨n9,_⟩ h
 replace h:=iter_some h;obtain⟨m7,rfl,h⟩:=h
 rw[F194_b1]at h
 try dsimp only at h
 refine AW.st ?_
 refine AW.seq ?_
 apply AW.rg hS [14]
 ·exact di
 refine AW.seq ?_
 refine AW.iff_ h rfl rfl (fun hb8 h=>?_) (fun hb8 h=>?_)
 ·cases h
 refine AW.exit ?_
 refine AW.seq ?_
 apply AW.rg hS [4]
 ·exact di
 refine AW.ret ?_
 cases h
 exact fin
set_option maxHeartbeats 4000000 in
theorem g_F195(c:AllG env []):GoodH env (S195 F195):=by
 obtain⟨O,X,hS,hX,hpf,hk⟩:=orcs (pf:=pfn) c
 refine GH (fn:=Tryz.f195) fn_195 rfl rfl 26 rfl [] rfl ?_
 rintro(⟨s1x1,s2x2⟩:(List Qid)×(List Qid)) (r:Bool) h m em
 refine GHs rfl rfl em rfl rfl rfl ?_
 clear em m
 replace h:F195 s1x1 s2x2=some r:=h
 rw[F195]at h
 refine AW.seq ?_
 apply AW.rg hS [0,1]
 ·exact di
 refine AW.seq ?_
 refine AW.seq ?_
 apply AW.rg hS [0,10]
 ·exact di
 refine AW.iff_ h rfl rfl (fun hb4 h=>?_) (fun hb4 h=>?_)
 ·cases h
 refine AW.skip ?_
 refine AW.seq ?_
 refine AW.seq ?_
 apply AW.rg hS [12,13]
 ·exact di
 refine AW.block ?_
 refine AW.lp (α:=Nat×Unit) (fun(_,_)=>⟨sl [(12,.pv (.int .i64 (s1x1.length:Int))),(13,.pv (.int .i64 0))],26,[]⟩) (fun x=>iter (F195_b1 s1x1) x.1 x.2=some r) (fun x=>x.1) (BIG,()) (Weak.slots kp) h ?_
 clear h
 intro⟨n9,_⟩ h
 replace h:=iter_some h;obtain⟨m7,rfl,h⟩:=h
 rw[F195_b1]at h
 try dsimp only at h
 refine AW.st ?_
 refine AW.seq ?_
 apply AW.rg hS [14]
 ·exact di
 refine AW.seq ?_
 refine AW.iff_ h rfl rfl (fun hb8 h=>?_) (fun hb8 h=>?_)
 ·cases h
 refine AW.exit ?_
 refine AW.seq ?_
 apply AW.rg hS [4]
 ·exact di
 refine AW.ret ?_
 cases h
 exact fin
set_option maxHeartbeats 4000000 in
theorem g_F125(c:AllG env [(S192 F192),(S193 F193),(S194 F194),(S195 F195)]):GoodH env (S125 F125):=by
 obtain⟨O,X,hS,hX,hpf,hk⟩:=orcs (pf:=pfn) c
 have pf_192:O.pf 192=true:=pft hpf 192 rfl
 have pf_193:O.pf 193=true:=pft hpf 193 rfl
 have pf_194:O.pf 194=true:=pft hpf 194 rfl
 have pf_195:O.pf 195=true:=pft hpf 195 rfl
 refine GH (fn:=Tryz.f125) fn_125 rfl rfl 65 rfl [] rfl ?_
 rintro(⟨a1,b2⟩:Msg×Msg) (r:Bool) h m em
 refine GHs rfl rfl em rfl rfl rfl ?_
 clear em m
 replace h:F125 a1 b2=some r:=h
 rw[F125]at h
 refine AW.seq ?_
 apply AW.rg hS [2,3]
 ·exact di
 refine AW.seq ?_
 apply AW.rg hS [2,3,5]
 ·exact di
 refine AW.seq ?_
 apply AW.rg hS [2,3,5,6]
 ·exact di
 refine AW.seq ?_
 replace h:=obs h;obtain⟨r4,q5,h⟩:=h
 have f6:=(hk 0 192 rfl).ret a1 q5 rfl rfl
 try dsimp only at f6
 replace h:=obs h;obtain⟨r7,q8,h⟩:=h
 have f9:=(hk 0 192 rfl).ret b2 q8 rfl rfl
 try dsimp only at f9
 refine AW.cases ((decide (r4.e0_=r7.e0_)&&(decide (r4.e1_=r7.e1_)&&(decide (r4.e2_=r7.e2_)&&(decide (r4.e3_=r7.e3_)&&(decide (r4.e4_=r7.e4_)&&(decide (r4.e5_=r7.e5_)&&(decide (r4.e6_=r7.e6_)&&(decide (r4.e7_=r7.e7_)&&(decide (r4.e8_=r7.e8_)&&(decide (r4.e9_=r7.e9_)&&(decide (r4.e10_=r7.e10_)&&(decide (r4.e11_=r7.e11_)&&(decide (r4.e12_=r7.e12_))))))))))))))) (fun hsp28=>?_) (fun hsp28=>?_)
 ·replace h:=bif_t hsp28 h
  try simp only[Bool.and_eq_true,Bool.or_eq_false_iff]at hsp28
  replace h:=obs h;obtain⟨r10,q11,h⟩:=h
  have f12:=(hk 1 193 rfl).ret a1 q11 rfl rfl
  try dsimp only at f12
  replace h:=obs h;obtain⟨r13,q14,h⟩:=h
  have f15:=(hk 1 193 rfl).ret b2 q14 rfl rfl
  try dsimp only at f15
  refine AW.cases ((decide (r10.e0_=r13.e0_)&&(decide (r10.e1_=r13.e1_)&&(decide (r10.e2_=r13.e2_)&&(decide (r10.e3_=r13.e3_)&&(decide (r10.e4_=r13.e4_)&&(decide (r10.e5_=r13.e5_)))))))) (fun hsp29=>?_) (fun hsp29=>?_)
  ·replace h:=bif_t hsp29 h
   try simp only[Bool.and_eq_true,Bool.or_eq_false_iff]at hsp29
   refine AW.cases (decide (a1.term_=b2.term_)) (fun hsp30=>?_) (fun hsp30=>?_)
   ·replace h:=bif_t hsp30 h
    refine AW.cases (decide (a1.err_=b2.err_)) (fun hsp31=>?_) (fun hsp31=>?_)
    ·replace h:=bif_t hsp31 h
     refine AW.cases ((decide (a1.qid_.type_=b2.qid_.type_)&&(decide (a1.qid_.vers_=b2.qid_.vers_)&&(decide (a1.qid_.path_=b2.qid_.path_))))) (fun hsp32=>?_) (fun hsp32=>?_)
     ·replace h:=bif_t hsp32 h
      try simp only[Bool.and_eq_true,Bool.or_eq_false_iff]at hsp32
      refine AW.cases ((decide (a1.stat_.type_=b2.stat_.type_)&&(decide (a1.stat_.dev_=b2.stat_.dev_)&&(decide (a1.stat_.qid_.type_=b2.stat_.qid_.type_)&&(decide (a1.stat_.qid_.vers_=b2.stat_.qid_.vers_)&&(decide (a1.stat_.qid_.path_=b2.stat_.qid_.path_)&&(decide (a1.stat_.mode_=b2.stat_.mode_)&&(decide (a1.stat_.atime_=b2.stat_.atime_)&&(decide (a1.stat_.mtime_=b2.stat_.mtime_)&&(decide (a1.stat_.length_=b2.stat_.length_)&&(decide (a1.stat_.name_=b2.stat_.name_)&&(decide (a1.stat_.uid_=b2.stat_.uid_)&&(decide (a1.stat_.gid_=b2.stat_.gid_)&&(decide (a1.stat_.muid_=b2.stat_.muid_))))))))))))))) (fun hsp33=>?_) (fun hsp33=>?_)
      ·replace h:=bif_t hsp33 h
       try simp only[Bool.and_eq_true,Bool.or_eq_false_iff]at hsp33
       replace h:=obs h;obtain⟨r16,q17,h⟩:=h
       have f18:=(hk 2 194 rfl).ret (a1.names_,b2.names_) q17 rfl rfl
       try dsimp only at f18
       refine AW.cases (r16) (fun hsp34=>?_) (fun hsp34=>?_)
       ·replace h:=bif_t hsp34 h
        replace h:=obs h;obtain⟨r19,q20,h⟩:=h
        have f21:=(hk 3 195 rfl).ret (a1.qids_,b2.qids_) q20 rfl rfl
        try dsimp only at f21
        refine AW.dregV mixed hS [2,5,10,13] [(0,0),(1,0),(2,0),(3,0),(3,1),(4,0),(4,1),(5,1),(6,2),(7,2),(8,2),(9,2),(10,2),(11,2),(11,3),(12,2),(12,3),(13,3),(14,4),(15,4),(16,4),(17,4),(18,4),(19,4),(20,4),(21,4),(22,4),(23,4),(24,4),(25,4),(26,4),(27,4),(28,4),(29,4),(30,4),(31,4),(32,4),(33,4),(34,4),(35,4),(36,4),(37,4),(38,4),(39,4),(40,4),(41,4),(42,4),(43,4),(44,4),(45,4),(46,4),(47,4),(48,4),(49,4),(50,4),(51,4),(52,4),(53,4),(54,4),(55,4),(56,4),(57,4),(58,4)] [.fn 192 [],.pv (.agg [.int .i64 a1.kind_,.int .i64 a1.tag_,.int .i64 a1.fid_,.int .i64 a1.newFid_,.int .i64 a1.authFid_,.int .i64 a1.oldTag_,.int .i64 a1.msize_,.str a1.version_,.str a1.user_,.str a1.attach_,.slice (List.map PV.str a1.names_),.slice (List.map Qid.pv a1.qids_),.int .i64 a1.qid_.type_,.int .i64 a1.qid_.vers_,.int .i64 a1.qid_.path_,.int .i64 a1.iounit_,.int .i64 a1.mode_,.int .i64 a1.perm_,.str a1.name_,.int .i64 a1.offset_,.int .i64 a1.count_,.str a1.data_,.int .i64 a1.stat_.type_,.int .i64 a1.stat_.dev_,.int .i64 a1.stat_.qid_.type_,.int .i64 a1.stat_.qid_.vers_,.int .i64 a1.stat_.qid_.path_,.int .i64 a1.stat_.mode_,.int .i64 a1.stat_.atime_,.int .i64 a1.stat_.mtime_,.int .i64 a1.stat_.length_,.str a1.stat_.name_,.str a1.stat_.uid_,.str a1.stat_.gid_,.str a1.stat_.muid_,.int .i64 a1.err_,.int .i64 a1.lease_,.int .i64 a1.term_,.str a1.session_]),.pv (.agg [.int .i64 r4.e0_,.int .i64 r4.e1_,.int .i64 r4.e2_,.int .i64 r4.e3_,.int .i64 r4.e4_,.int .i64 r4.e5_,.int .i64 r4.e6_,.int .i64 r4.e7_,.int .i64 r4.e8_,.int .i64 r4.e9_,.int .i64 r4.e10_,.int .i64 r4.e11_,.int .i64 r4.e12_]),.fn 192 [],.pv (.agg [.int .i64 b2.kind_,.int .i64 b2.tag_,.int .i64 b2.fid_,.int .i64 b2.newFid_,.int .i64 b2.authFid_,.int .i64 b2.oldTag_,.int .i64 b2.msize_,.str b2.version_,.str b2.user_,.str b2.attach_,.slice (List.map PV.str b2.names_),.slice (List.map Qid.pv b2.qids_),.int .i64 b2.qid_.type_,.int .i64 b2.qid_.vers_,.int .i64 b2.qid_.path_,.int .i64 b2.iounit_,.int .i64 b2.mode_,.int .i64 b2.perm_,.str b2.name_,.int .i64 b2.offset_,.int .i64 b2.count_,.str b2.data_,.int .i64 b2.stat_.type_,.int .i64 b2.stat_.dev_,.int .i64 b2.stat_.qid_.type_,.int .i64 b2.stat_.qid_.vers_,.int .i64 b2.stat_.qid_.path_,.int .i64 b2.stat_.mode_,.int .i64 b2.stat_.atime_,.int .i64 b2.stat_.mtime_,.int .i64 b2.stat_.length_,.str b2.stat_.name_,.str b2.stat_.uid_,.str b2.stat_.gid_,.str b2.stat_.muid_,.int .i64 b2.err_,.int .i64 b2.lease_,.int .i64 b2.term_,.str b2.session_]),.pv (.agg [.int .i64 r7.e0_,.int .i64 r7.e1_,.int .i64 r7.e2_,.int .i64 r7.e3_,.int .i64 r7.e4_,.int .i64 r7.e5_,.int .i64 r7.e6_,.int .i64 r7.e7_,.int .i64 r7.e8_,.int .i64 r7.e9_,.int .i64 r7.e10_,.int .i64 r7.e11_,.int .i64 r7.e12_]),.pv (.bool (decide (r4.e0_=r7.e0_)&&(decide (r4.e1_=r7.e1_)&&(decide (r4.e2_=r7.e2_)&&(decide (r4.e3_=r7.e3_)&&(decide (r4.e4_=r7.e4_)&&(decide (r4.e5_=r7.e5_)&&(decide (r4.e6_=r7.e6_)&&(decide (r4.e7_=r7.e7_)&&(decide (r4.e8_=r7.e8_)&&(decide (r4.e9_=r7.e9_)&&(decide (r4.e10_=r7.e10_)&&(decide (r4.e11_=r7.e11_)&&(decide (r4.e12_=r7.e12_))))))))))))))),.pv (.bool true),.fn 193 [],.pv (.agg [.int .i64 a1.kind_,.int .i64 a1.tag_,.int .i64 a1.fid_,.int .i64 a1.newFid_,.int .i64 a1.authFid_,.int .i64 a1.oldTag_,.int .i64 a1.msize_,.str a1.version_,.str a1.user_,.str a1.attach_,.slice (List.map PV.str a1.names_),.slice (List.map Qid.pv a1.qids_),.int .i64 a1.qid_.type_,.int .i64 a1.qid_.vers_,.int .i64 a1.qid_.path_,.int .i64 a1.iounit_,.int .i64 a1.mode_,.int .i64 a1.perm_,.str a1.name_,.int .i64 a1.offset_,.int .i64 a1.count_,.str a1.data_,.int .i64 a1.stat_.type_,.int .i64 a1.stat_.dev_,.int .i64 a1.stat_.qid_.type_,.int .i64 a1.stat_.qid_.vers_,.int .i64 a1.stat_.qid_.path_,.int .i64 a1.stat_.mode_,.int .i64 a1.stat_.atime_,.int .i64 a1.stat_.mtime_,.int .i64 a1.stat_.length_,.str a1.stat_.name_,.str a1.stat_.uid_,.str a1.stat_.gid_,.str a1.stat_.muid_,.int .i64 a1.err_,.int .i64 a1.lease_,.int .i64 a1.term_,.str a1.session_]),.pv (.agg [.str r10.e0_,.str r10.e1_,.str r10.e2_,.str r10.e3_,.str r10.e4_,.str r10.e5_]),.fn 193 [],.pv (.agg [.int .i64 b2.kind_,.int .i64 b2.tag_,.int .i64 b2.fid_,.int .i64 b2.newFid_,.int .i64 b2.authFid_,.int .i64 b2.oldTag_,.int .i64 b2.msize_,.str b2.version_,.str b2.user_,.str b2.attach_,.slice (List.map PV.str b2.names_),.slice (List.map Qid.pv b2.qids_),.int .i64 b2.qid_.type_,.int .i64 b2.qid_.vers_,.int .i64 b2.qid_.path_,.int .i64 b2.iounit_,.int .i64 b2.mode_,.int .i64 b2.perm_,.str b2.name_,.int .i64 b2.offset_,.int .i64 b2.count_,.str b2.data_,.int .i64 b2.stat_.type_,.int .i64 b2.stat_.dev_,.int .i64 b2.stat_.qid_.type_,.int .i64 b2.stat_.qid_.vers_,.int .i64 b2.stat_.qid_.path_,.int .i64 b2.stat_.mode_,.int .i64 b2.stat_.atime_,.int .i64 b2.stat_.mtime_,.int .i64 b2.stat_.length_,.str b2.stat_.name_,.str b2.stat_.uid_,.str b2.stat_.gid_,.str b2.stat_.muid_,.int .i64 b2.err_,.int .i64 b2.lease_,.int .i64 b2.term_,.str b2.session_]),.pv (.agg [.str r13.e0_,.str r13.e1_,.str r13.e2_,.str r13.e3_,.str r13.e4_,.str r13.e5_]),.pv (.bool (decide (r10.e0_=r13.e0_)&&(decide (r10.e1_=r13.e1_)&&(decide (r10.e2_=r13.e2_)&&(decide (r10.e3_=r13.e3_)&&(decide (r10.e4_=r13.e4_)&&(decide (r10.e5_=r13.e5_)))))))),.pv (.bool (decide (r10.e0_=r13.e0_)&&(decide (r10.e1_=r13.e1_)&&(decide (r10.e2_=r13.e2_)&&(decide (r10.e3_=r13.e3_)&&(decide (r10.e4_=r13.e4_)&&(decide (r10.e5_=r13.e5_)))))))),.pv (.bool true),.ref 0 37,.pv (.int .i64 a1.term_),.ref 1 37,.pv (.int .i64 b2.term_),.pv (.bool (decide (a1.term_=b2.term_))),.pv (.bool (decide (a1.term_=b2.term_))),.pv (.bool true),.ref 0 35,.pv (.int .i64 a1.err_),.ref 1 35,.pv (.int .i64 b2.err_),.pv (.bool (decide (a1.err_=b2.err_))),.pv (.bool (decide (a1.err_=b2.err_))),.pv (.bool true),.ref 0 12,.pv (.agg [.int .i64 a1.qid_.type_,.int .i64 a1.qid_.vers_,.int .i64 a1.qid_.path_]),.ref 1 12,.pv (.agg [.int .i64 b2.qid_.type_,.int .i64 b2.qid_.vers_,.int .i64 b2.qid_.path_]),.pv (.bool (decide (a1.qid_.type_=b2.qid_.type_)&&(decide (a1.qid_.vers_=b2.qid_.vers_)&&(decide (a1.qid_.path_=b2.qid_.path_))))),.pv (.bool (decide (a1.qid_.type_=b2.qid_.type_)&&(decide (a1.qid_.vers_=b2.qid_.vers_)&&(decide (a1.qid_.path_=b2.qid_.path_))))),.pv (.bool true),.ref 0 22,.pv (.agg [.int .i64 a1.stat_.type_,.int .i64 a1.stat_.dev_,.int .i64 a1.stat_.qid_.type_,.int .i64 a1.stat_.qid_.vers_,.int .i64 a1.stat_.qid_.path_,.int .i64 a1.stat_.mode_,.int .i64 a1.stat_.atime_,.int .i64 a1.stat_.mtime_,.int .i64 a1.stat_.length_,.str a1.stat_.name_,.str a1.stat_.uid_,.str a1.stat_.gid_,.str a1.stat_.muid_]),.ref 1 22,.pv (.agg [.int .i64 b2.stat_.type_,.int .i64 b2.stat_.dev_,.int .i64 b2.stat_.qid_.type_,.int .i64 b2.stat_.qid_.vers_,.int .i64 b2.stat_.qid_.path_,.int .i64 b2.stat_.mode_,.int .i64 b2.stat_.atime_,.int .i64 b2.stat_.mtime_,.int .i64 b2.stat_.length_,.str b2.stat_.name_,.str b2.stat_.uid_,.str b2.stat_.gid_,.str b2.stat_.muid_]),.pv (.bool (decide (a1.stat_.type_=b2.stat_.type_)&&(decide (a1.stat_.dev_=b2.stat_.dev_)&&(decide (a1.stat_.qid_.type_=b2.stat_.qid_.type_)&&(decide (a1.stat_.qid_.vers_=b2.stat_.qid_.vers_)&&(decide (a1.stat_.qid_.path_=b2.stat_.qid_.path_)&&(decide (a1.stat_.mode_=b2.stat_.mode_)&&(decide (a1.stat_.atime_=b2.stat_.atime_)&&(decide (a1.stat_.mtime_=b2.stat_.mtime_)&&(decide (a1.stat_.length_=b2.stat_.length_)&&(decide (a1.stat_.name_=b2.stat_.name_)&&(decide (a1.stat_.uid_=b2.stat_.uid_)&&(decide (a1.stat_.gid_=b2.stat_.gid_)&&(decide (a1.stat_.muid_=b2.stat_.muid_))))))))))))))),.pv (.bool (decide (a1.stat_.type_=b2.stat_.type_)&&(decide (a1.stat_.dev_=b2.stat_.dev_)&&(decide (a1.stat_.qid_.type_=b2.stat_.qid_.type_)&&(decide (a1.stat_.qid_.vers_=b2.stat_.qid_.vers_)&&(decide (a1.stat_.qid_.path_=b2.stat_.qid_.path_)&&(decide (a1.stat_.mode_=b2.stat_.mode_)&&(decide (a1.stat_.atime_=b2.stat_.atime_)&&(decide (a1.stat_.mtime_=b2.stat_.mtime_)&&(decide (a1.stat_.length_=b2.stat_.length_)&&(decide (a1.stat_.name_=b2.stat_.name_)&&(decide (a1.stat_.uid_=b2.stat_.uid_)&&(decide (a1.stat_.gid_=b2.stat_.gid_)&&(decide (a1.stat_.muid_=b2.stat_.muid_))))))))))))))),.pv (.bool true),.ref 0 10,.pv (.slice (List.map PV.str a1.names_)),.ref 1 10,.pv (.slice (List.map PV.str b2.names_)),.pv (.bool r16),.pv (.bool r16),.pv (.bool true),.ref 0 11,.pv (.slice (List.map Qid.pv a1.qids_)),.ref 1 11,.pv (.slice (List.map Qid.pv b2.qids_)),.pv (.bool r19),.pv (.bool r19),.pv (.bool r19)] [[.var [.pv (.int .i64 a1.kind_),.pv (.int .i64 a1.tag_),.pv (.int .i64 a1.fid_),.pv (.int .i64 a1.newFid_),.pv (.int .i64 a1.authFid_),.pv (.int .i64 a1.oldTag_),.pv (.int .i64 a1.msize_),.pv (.str a1.version_),.pv (.str a1.user_),.pv (.str a1.attach_),.pv (.slice (List.map PV.str a1.names_)),.pv (.slice (List.map Qid.pv a1.qids_)),.pv (.int .i64 a1.qid_.type_),.pv (.int .i64 a1.qid_.vers_),.pv (.int .i64 a1.qid_.path_),.pv (.int .i64 a1.iounit_),.pv (.int .i64 a1.mode_),.pv (.int .i64 a1.perm_),.pv (.str a1.name_),.pv (.int .i64 a1.offset_),.pv (.int .i64 a1.count_),.pv (.str a1.data_),.pv (.int .i64 a1.stat_.type_),.pv (.int .i64 a1.stat_.dev_),.pv (.int .i64 a1.stat_.qid_.type_),.pv (.int .i64 a1.stat_.qid_.vers_),.pv (.int .i64 a1.stat_.qid_.path_),.pv (.int .i64 a1.stat_.mode_),.pv (.int .i64 a1.stat_.atime_),.pv (.int .i64 a1.stat_.mtime_),.pv (.int .i64 a1.stat_.length_),.pv (.str a1.stat_.name_),.pv (.str a1.stat_.uid_),.pv (.str a1.stat_.gid_),.pv (.str a1.stat_.muid_),.pv (.int .i64 a1.err_),.pv (.int .i64 a1.lease_),.pv (.int .i64 a1.term_),.pv (.str a1.session_)],.var [.pv (.int .i64 b2.kind_),.pv (.int .i64 b2.tag_),.pv (.int .i64 b2.fid_),.pv (.int .i64 b2.newFid_),.pv (.int .i64 b2.authFid_),.pv (.int .i64 b2.oldTag_),.pv (.int .i64 b2.msize_),.pv (.str b2.version_),.pv (.str b2.user_),.pv (.str b2.attach_),.pv (.slice (List.map PV.str b2.names_)),.pv (.slice (List.map Qid.pv b2.qids_)),.pv (.int .i64 b2.qid_.type_),.pv (.int .i64 b2.qid_.vers_),.pv (.int .i64 b2.qid_.path_),.pv (.int .i64 b2.iounit_),.pv (.int .i64 b2.mode_),.pv (.int .i64 b2.perm_),.pv (.str b2.name_),.pv (.int .i64 b2.offset_),.pv (.int .i64 b2.count_),.pv (.str b2.data_),.pv (.int .i64 b2.stat_.type_),.pv (.int .i64 b2.stat_.dev_),.pv (.int .i64 b2.stat_.qid_.type_),.pv (.int .i64 b2.stat_.qid_.vers_),.pv (.int .i64 b2.stat_.qid_.path_),.pv (.int .i64 b2.stat_.mode_),.pv (.int .i64 b2.stat_.atime_),.pv (.int .i64 b2.stat_.mtime_),.pv (.int .i64 b2.stat_.length_),.pv (.str b2.stat_.name_),.pv (.str b2.stat_.uid_),.pv (.str b2.stat_.gid_),.pv (.str b2.stat_.muid_),.pv (.int .i64 b2.err_),.pv (.int .i64 b2.lease_),.pv (.int .i64 b2.term_),.pv (.str b2.session_)]],[.var [.pv (.int .i64 a1.kind_),.pv (.int .i64 a1.tag_),.pv (.int .i64 a1.fid_),.pv (.int .i64 a1.newFid_),.pv (.int .i64 a1.authFid_),.pv (.int .i64 a1.oldTag_),.pv (.int .i64 a1.msize_),.pv (.str a1.version_),.pv (.str a1.user_),.pv (.str a1.attach_),.pv (.slice (List.map PV.str a1.names_)),.pv (.slice (List.map Qid.pv a1.qids_)),.pv (.int .i64 a1.qid_.type_),.pv (.int .i64 a1.qid_.vers_),.pv (.int .i64 a1.qid_.path_),.pv (.int .i64 a1.iounit_),.pv (.int .i64 a1.mode_),.pv (.int .i64 a1.perm_),.pv (.str a1.name_),.pv (.int .i64 a1.offset_),.pv (.int .i64 a1.count_),.pv (.str a1.data_),.pv (.int .i64 a1.stat_.type_),.pv (.int .i64 a1.stat_.dev_),.pv (.int .i64 a1.stat_.qid_.type_),.pv (.int .i64 a1.stat_.qid_.vers_),.pv (.int .i64 a1.stat_.qid_.path_),.pv (.int .i64 a1.stat_.mode_),.pv (.int .i64 a1.stat_.atime_),.pv (.int .i64 a1.stat_.mtime_),.pv (.int .i64 a1.stat_.length_),.pv (.str a1.stat_.name_),.pv (.str a1.stat_.uid_),.pv (.str a1.stat_.gid_),.pv (.str a1.stat_.muid_),.pv (.int .i64 a1.err_),.pv (.int .i64 a1.lease_),.pv (.int .i64 a1.term_),.pv (.str a1.session_)],.var [.pv (.int .i64 b2.kind_),.pv (.int .i64 b2.tag_),.pv (.int .i64 b2.fid_),.pv (.int .i64 b2.newFid_),.pv (.int .i64 b2.authFid_),.pv (.int .i64 b2.oldTag_),.pv (.int .i64 b2.msize_),.pv (.str b2.version_),.pv (.str b2.user_),.pv (.str b2.attach_),.pv (.slice (List.map PV.str b2.names_)),.pv (.slice (List.map Qid.pv b2.qids_)),.pv (.int .i64 b2.qid_.type_),.pv (.int .i64 b2.qid_.vers_),.pv (.int .i64 b2.qid_.path_),.pv (.int .i64 b2.iounit_),.pv (.int .i64 b2.mode_),.pv (.int .i64 b2.perm_),.pv (.str b2.name_),.pv (.int .i64 b2.offset_),.pv (.int .i64 b2.count_),.pv (.str b2.data_),.pv (.int .i64 b2.stat_.type_),.pv (.int .i64 b2.stat_.dev_),.pv (.int .i64 b2.stat_.qid_.type_),.pv (.int .i64 b2.stat_.qid_.vers_),.pv (.int .i64 b2.stat_.qid_.path_),.pv (.int .i64 b2.stat_.mode_),.pv (.int .i64 b2.stat_.atime_),.pv (.int .i64 b2.stat_.mtime_),.pv (.int .i64 b2.stat_.length_),.pv (.str b2.stat_.name_),.pv (.str b2.stat_.uid_),.pv (.str b2.stat_.gid_),.pv (.str b2.stat_.muid_),.pv (.int .i64 b2.err_),.pv (.int .i64 b2.lease_),.pv (.int .i64 b2.term_),.pv (.str b2.session_)]],[.var [.pv (.int .i64 a1.kind_),.pv (.int .i64 a1.tag_),.pv (.int .i64 a1.fid_),.pv (.int .i64 a1.newFid_),.pv (.int .i64 a1.authFid_),.pv (.int .i64 a1.oldTag_),.pv (.int .i64 a1.msize_),.pv (.str a1.version_),.pv (.str a1.user_),.pv (.str a1.attach_),.pv (.slice (List.map PV.str a1.names_)),.pv (.slice (List.map Qid.pv a1.qids_)),.pv (.int .i64 a1.qid_.type_),.pv (.int .i64 a1.qid_.vers_),.pv (.int .i64 a1.qid_.path_),.pv (.int .i64 a1.iounit_),.pv (.int .i64 a1.mode_),.pv (.int .i64 a1.perm_),.pv (.str a1.name_),.pv (.int .i64 a1.offset_),.pv (.int .i64 a1.count_),.pv (.str a1.data_),.pv (.int .i64 a1.stat_.type_),.pv (.int .i64 a1.stat_.dev_),.pv (.int .i64 a1.stat_.qid_.type_),.pv (.int .i64 a1.stat_.qid_.vers_),.pv (.int .i64 a1.stat_.qid_.path_),.pv (.int .i64 a1.stat_.mode_),.pv (.int .i64 a1.stat_.atime_),.pv (.int .i64 a1.stat_.mtime_),.pv (.int .i64 a1.stat_.length_),.pv (.str a1.stat_.name_),.pv (.str a1.stat_.uid_),.pv (.str a1.stat_.gid_),.pv (.str a1.stat_.muid_),.pv (.int .i64 a1.err_),.pv (.int .i64 a1.lease_),.pv (.int .i64 a1.term_),.pv (.str a1.session_)],.var [.pv (.int .i64 b2.kind_),.pv (.int .i64 b2.tag_),.pv (.int .i64 b2.fid_),.pv (.int .i64 b2.newFid_),.pv (.int .i64 b2.authFid_),.pv (.int .i64 b2.oldTag_),.pv (.int .i64 b2.msize_),.pv (.str b2.version_),.pv (.str b2.user_),.pv (.str b2.attach_),.pv (.slice (List.map PV.str b2.names_)),.pv (.slice (List.map Qid.pv b2.qids_)),.pv (.int .i64 b2.qid_.type_),.pv (.int .i64 b2.qid_.vers_),.pv (.int .i64 b2.qid_.path_),.pv (.int .i64 b2.iounit_),.pv (.int .i64 b2.mode_),.pv (.int .i64 b2.perm_),.pv (.str b2.name_),.pv (.int .i64 b2.offset_),.pv (.int .i64 b2.count_),.pv (.str b2.data_),.pv (.int .i64 b2.stat_.type_),.pv (.int .i64 b2.stat_.dev_),.pv (.int .i64 b2.stat_.qid_.type_),.pv (.int .i64 b2.stat_.qid_.vers_),.pv (.int .i64 b2.stat_.qid_.path_),.pv (.int .i64 b2.stat_.mode_),.pv (.int .i64 b2.stat_.atime_),.pv (.int .i64 b2.stat_.mtime_),.pv (.int .i64 b2.stat_.length_),.pv (.str b2.stat_.name_),.pv (.str b2.stat_.uid_),.pv (.str b2.stat_.gid_),.pv (.str b2.stat_.muid_),.pv (.int .i64 b2.err_),.pv (.int .i64 b2.lease_),.pv (.int .i64 b2.term_),.pv (.str b2.session_)]],[.var [.pv (.int .i64 a1.kind_),.pv (.int .i64 a1.tag_),.pv (.int .i64 a1.fid_),.pv (.int .i64 a1.newFid_),.pv (.int .i64 a1.authFid_),.pv (.int .i64 a1.oldTag_),.pv (.int .i64 a1.msize_),.pv (.str a1.version_),.pv (.str a1.user_),.pv (.str a1.attach_),.pv (.slice (List.map PV.str a1.names_)),.pv (.slice (List.map Qid.pv a1.qids_)),.pv (.int .i64 a1.qid_.type_),.pv (.int .i64 a1.qid_.vers_),.pv (.int .i64 a1.qid_.path_),.pv (.int .i64 a1.iounit_),.pv (.int .i64 a1.mode_),.pv (.int .i64 a1.perm_),.pv (.str a1.name_),.pv (.int .i64 a1.offset_),.pv (.int .i64 a1.count_),.pv (.str a1.data_),.pv (.int .i64 a1.stat_.type_),.pv (.int .i64 a1.stat_.dev_),.pv (.int .i64 a1.stat_.qid_.type_),.pv (.int .i64 a1.stat_.qid_.vers_),.pv (.int .i64 a1.stat_.qid_.path_),.pv (.int .i64 a1.stat_.mode_),.pv (.int .i64 a1.stat_.atime_),.pv (.int .i64 a1.stat_.mtime_),.pv (.int .i64 a1.stat_.length_),.pv (.str a1.stat_.name_),.pv (.str a1.stat_.uid_),.pv (.str a1.stat_.gid_),.pv (.str a1.stat_.muid_),.pv (.int .i64 a1.err_),.pv (.int .i64 a1.lease_),.pv (.int .i64 a1.term_),.pv (.str a1.session_)],.var [.pv (.int .i64 b2.kind_),.pv (.int .i64 b2.tag_),.pv (.int .i64 b2.fid_),.pv (.int .i64 b2.newFid_),.pv (.int .i64 b2.authFid_),.pv (.int .i64 b2.oldTag_),.pv (.int .i64 b2.msize_),.pv (.str b2.version_),.pv (.str b2.user_),.pv (.str b2.attach_),.pv (.slice (List.map PV.str b2.names_)),.pv (.slice (List.map Qid.pv b2.qids_)),.pv (.int .i64 b2.qid_.type_),.pv (.int .i64 b2.qid_.vers_),.pv (.int .i64 b2.qid_.path_),.pv (.int .i64 b2.iounit_),.pv (.int .i64 b2.mode_),.pv (.int .i64 b2.perm_),.pv (.str b2.name_),.pv (.int .i64 b2.offset_),.pv (.int .i64 b2.count_),.pv (.str b2.data_),.pv (.int .i64 b2.stat_.type_),.pv (.int .i64 b2.stat_.dev_),.pv (.int .i64 b2.stat_.qid_.type_),.pv (.int .i64 b2.stat_.qid_.vers_),.pv (.int .i64 b2.stat_.qid_.path_),.pv (.int .i64 b2.stat_.mode_),.pv (.int .i64 b2.stat_.atime_),.pv (.int .i64 b2.stat_.mtime_),.pv (.int .i64 b2.stat_.length_),.pv (.str b2.stat_.name_),.pv (.str b2.stat_.uid_),.pv (.str b2.stat_.gid_),.pv (.str b2.stat_.muid_),.pv (.int .i64 b2.err_),.pv (.int .i64 b2.lease_),.pv (.int .i64 b2.term_),.pv (.str b2.session_)]],[.var [.pv (.int .i64 a1.kind_),.pv (.int .i64 a1.tag_),.pv (.int .i64 a1.fid_),.pv (.int .i64 a1.newFid_),.pv (.int .i64 a1.authFid_),.pv (.int .i64 a1.oldTag_),.pv (.int .i64 a1.msize_),.pv (.str a1.version_),.pv (.str a1.user_),.pv (.str a1.attach_),.pv (.slice (List.map PV.str a1.names_)),.pv (.slice (List.map Qid.pv a1.qids_)),.pv (.int .i64 a1.qid_.type_),.pv (.int .i64 a1.qid_.vers_),.pv (.int .i64 a1.qid_.path_),.pv (.int .i64 a1.iounit_),.pv (.int .i64 a1.mode_),.pv (.int .i64 a1.perm_),.pv (.str a1.name_),.pv (.int .i64 a1.offset_),.pv (.int .i64 a1.count_),.pv (.str a1.data_),.pv (.int .i64 a1.stat_.type_),.pv (.int .i64 a1.stat_.dev_),.pv (.int .i64 a1.stat_.qid_.type_),.pv (.int .i64 a1.stat_.qid_.vers_),.pv (.int .i64 a1.stat_.qid_.path_),.pv (.int .i64 a1.stat_.mode_),.pv (.int .i64 a1.stat_.atime_),.pv (.int .i64 a1.stat_.mtime_),.pv (.int .i64 a1.stat_.length_),.pv (.str a1.stat_.name_),.pv (.str a1.stat_.uid_),.pv (.str a1.stat_.gid_),.pv (.str a1.stat_.muid_),.pv (.int .i64 a1.err_),.pv (.int .i64 a1.lease_),.pv (.int .i64 a1.term_),.pv (.str a1.session_)],.var [.pv (.int .i64 b2.kind_),.pv (.int .i64 b2.tag_),.pv (.int .i64 b2.fid_),.pv (.int .i64 b2.newFid_),.pv (.int .i64 b2.authFid_),.pv (.int .i64 b2.oldTag_),.pv (.int .i64 b2.msize_),.pv (.str b2.version_),.pv (.str b2.user_),.pv (.str b2.attach_),.pv (.slice (List.map PV.str b2.names_)),.pv (.slice (List.map Qid.pv b2.qids_)),.pv (.int .i64 b2.qid_.type_),.pv (.int .i64 b2.qid_.vers_),.pv (.int .i64 b2.qid_.path_),.pv (.int .i64 b2.iounit_),.pv (.int .i64 b2.mode_),.pv (.int .i64 b2.perm_),.pv (.str b2.name_),.pv (.int .i64 b2.offset_),.pv (.int .i64 b2.count_),.pv (.str b2.data_),.pv (.int .i64 b2.stat_.type_),.pv (.int .i64 b2.stat_.dev_),.pv (.int .i64 b2.stat_.qid_.type_),.pv (.int .i64 b2.stat_.qid_.vers_),.pv (.int .i64 b2.stat_.qid_.path_),.pv (.int .i64 b2.stat_.mode_),.pv (.int .i64 b2.stat_.atime_),.pv (.int .i64 b2.stat_.mtime_),.pv (.int .i64 b2.stat_.length_),.pv (.str b2.stat_.name_),.pv (.str b2.stat_.uid_),.pv (.str b2.stat_.gid_),.pv (.str b2.stat_.muid_),.pv (.int .i64 b2.err_),.pv (.int .i64 b2.lease_),.pv (.int .i64 b2.term_),.pv (.str b2.session_)]]] [(7,.fn 192 []),(8,.pv (.agg [.int .i64 a1.kind_,.int .i64 a1.tag_,.int .i64 a1.fid_,.int .i64 a1.newFid_,.int .i64 a1.authFid_,.int .i64 a1.oldTag_,.int .i64 a1.msize_,.str a1.version_,.str a1.user_,.str a1.attach_,.slice (List.map PV.str a1.names_),.slice (List.map Qid.pv a1.qids_),.int .i64 a1.qid_.type_,.int .i64 a1.qid_.vers_,.int .i64 a1.qid_.path_,.int .i64 a1.iounit_,.int .i64 a1.mode_,.int .i64 a1.perm_,.str a1.name_,.int .i64 a1.offset_,.int .i64 a1.count_,.str a1.data_,.int .i64 a1.stat_.type_,.int .i64 a1.stat_.dev_,.int .i64 a1.stat_.qid_.type_,.int .i64 a1.stat_.qid_.vers_,.int .i64 a1.stat_.qid_.path_,.int .i64 a1.stat_.mode_,.int .i64 a1.stat_.atime_,.int .i64 a1.stat_.mtime_,.int .i64 a1.stat_.length_,.str a1.stat_.name_,.str a1.stat_.uid_,.str a1.stat_.gid_,.str a1.stat_.muid_,.int .i64 a1.err_,.int .i64 a1.lease_,.int .i64 a1.term_,.str a1.session_])),(9,.pv (.agg [.int .i64 r4.e0_,.int .i64 r4.e1_,.int .i64 r4.e2_,.int .i64 r4.e3_,.int .i64 r4.e4_,.int .i64 r4.e5_,.int .i64 r4.e6_,.int .i64 r4.e7_,.int .i64 r4.e8_,.int .i64 r4.e9_,.int .i64 r4.e10_,.int .i64 r4.e11_,.int .i64 r4.e12_])),(10,.fn 192 []),(11,.pv (.agg [.int .i64 b2.kind_,.int .i64 b2.tag_,.int .i64 b2.fid_,.int .i64 b2.newFid_,.int .i64 b2.authFid_,.int .i64 b2.oldTag_,.int .i64 b2.msize_,.str b2.version_,.str b2.user_,.str b2.attach_,.slice (List.map PV.str b2.names_),.slice (List.map Qid.pv b2.qids_),.int .i64 b2.qid_.type_,.int .i64 b2.qid_.vers_,.int .i64 b2.qid_.path_,.int .i64 b2.iounit_,.int .i64 b2.mode_,.int .i64 b2.perm_,.str b2.name_,.int .i64 b2.offset_,.int .i64 b2.count_,.str b2.data_,.int .i64 b2.stat_.type_,.int .i64 b2.stat_.dev_,.int .i64 b2.stat_.qid_.type_,.int .i64 b2.stat_.qid_.vers_,.int .i64 b2.stat_.qid_.path_,.int .i64 b2.stat_.mode_,.int .i64 b2.stat_.atime_,.int .i64 b2.stat_.mtime_,.int .i64 b2.stat_.length_,.str b2.stat_.name_,.str b2.stat_.uid_,.str b2.stat_.gid_,.str b2.stat_.muid_,.int .i64 b2.err_,.int .i64 b2.lease_,.int .i64 b2.term_,.str b2.session_])),(12,.pv (.agg [.int .i64 r7.e0_,.int .i64 r7.e1_,.int .i64 r7.e2_,.int .i64 r7.e3_,.int .i64 r7.e4_,.int .i64 r7.e5_,.int .i64 r7.e6_,.int .i64 r7.e7_,.int .i64 r7.e8_,.int .i64 r7.e9_,.int .i64 r7.e10_,.int .i64 r7.e11_,.int .i64 r7.e12_])),(13,.pv (.bool (decide (r4.e0_=r7.e0_)&&(decide (r4.e1_=r7.e1_)&&(decide (r4.e2_=r7.e2_)&&(decide (r4.e3_=r7.e3_)&&(decide (r4.e4_=r7.e4_)&&(decide (r4.e5_=r7.e5_)&&(decide (r4.e6_=r7.e6_)&&(decide (r4.e7_=r7.e7_)&&(decide (r4.e8_=r7.e8_)&&(decide (r4.e9_=r7.e9_)&&(decide (r4.e10_=r7.e10_)&&(decide (r4.e11_=r7.e11_)&&(decide (r4.e12_=r7.e12_)))))))))))))))),(14,.pv (.bool true)),(15,.fn 193 []),(16,.pv (.agg [.int .i64 a1.kind_,.int .i64 a1.tag_,.int .i64 a1.fid_,.int .i64 a1.newFid_,.int .i64 a1.authFid_,.int .i64 a1.oldTag_,.int .i64 a1.msize_,.str a1.version_,.str a1.user_,.str a1.attach_,.slice (List.map PV.str a1.names_),.slice (List.map Qid.pv a1.qids_),.int .i64 a1.qid_.type_,.int .i64 a1.qid_.vers_,.int .i64 a1.qid_.path_,.int .i64 a1.iounit_,.int .i64 a1.mode_,.int .i64 a1.perm_,.str a1.name_,.int .i64 a1.offset_,.int .i64 a1.count_,.str a1.data_,.int .i64 a1.stat_.type_,.int .i64 a1.stat_.dev_,.int .i64 a1.stat_.qid_.type_,.int .i64 a1.stat_.qid_.vers_,.int .i64 a1.stat_.qid_.path_,.int .i64 a1.stat_.mode_,.int .i64 a1.stat_.atime_,.int .i64 a1.stat_.mtime_,.int .i64 a1.stat_.length_,.str a1.stat_.name_,.str a1.stat_.uid_,.str a1.stat_.gid_,.str a1.stat_.muid_,.int .i64 a1.err_,.int .i64 a1.lease_,.int .i64 a1.term_,.str a1.session_])),(17,.pv (.agg [.str r10.e0_,.str r10.e1_,.str r10.e2_,.str r10.e3_,.str r10.e4_,.str r10.e5_])),(18,.fn 193 []),(19,.pv (.agg [.int .i64 b2.kind_,.int .i64 b2.tag_,.int .i64 b2.fid_,.int .i64 b2.newFid_,.int .i64 b2.authFid_,.int .i64 b2.oldTag_,.int .i64 b2.msize_,.str b2.version_,.str b2.user_,.str b2.attach_,.slice (List.map PV.str b2.names_),.slice (List.map Qid.pv b2.qids_),.int .i64 b2.qid_.type_,.int .i64 b2.qid_.vers_,.int .i64 b2.qid_.path_,.int .i64 b2.iounit_,.int .i64 b2.mode_,.int .i64 b2.perm_,.str b2.name_,.int .i64 b2.offset_,.int .i64 b2.count_,.str b2.data_,.int .i64 b2.stat_.type_,.int .i64 b2.stat_.dev_,.int .i64 b2.stat_.qid_.type_,.int .i64 b2.stat_.qid_.vers_,.int .i64 b2.stat_.qid_.path_,.int .i64 b2.stat_.mode_,.int .i64 b2.stat_.atime_,.int .i64 b2.stat_.mtime_,.int .i64 b2.stat_.length_,.str b2.stat_.name_,.str b2.stat_.uid_,.str b2.stat_.gid_,.str b2.stat_.muid_,.int .i64 b2.err_,.int .i64 b2.lease_,.int .i64 b2.term_,.str b2.session_])),(20,.pv (.agg [.str r13.e0_,.str r13.e1_,.str r13.e2_,.str r13.e3_,.str r13.e4_,.str r13.e5_])),(21,.pv (.bool (decide (r10.e0_=r13.e0_)&&(decide (r10.e1_=r13.e1_)&&(decide (r10.e2_=r13.e2_)&&(decide (r10.e3_=r13.e3_)&&(decide (r10.e4_=r13.e4_)&&(decide (r10.e5_=r13.e5_))))))))),(22,.pv (.bool (decide (r10.e0_=r13.e0_)&&(decide (r10.e1_=r13.e1_)&&(decide (r10.e2_=r13.e2_)&&(decide (r10.e3_=r13.e3_)&&(decide (r10.e4_=r13.e4_)&&(decide (r10.e5_=r13.e5_))))))))),(23,.pv (.bool true)),(24,.ref 0 37),(25,.pv (.int .i64 a1.term_)),(26,.ref 1 37),(27,.pv (.int .i64 b2.term_)),(28,.pv (.bool (decide (a1.term_=b2.term_)))),(29,.pv (.bool (decide (a1.term_=b2.term_)))),(30,.pv (.bool true)),(31,.ref 0 35),(32,.pv (.int .i64 a1.err_)),(33,.ref 1 35),(34,.pv (.int .i64 b2.err_)),(35,.pv (.bool (decide (a1.err_=b2.err_)))),(36,.pv (.bool (decide (a1.err_=b2.err_)))),(37,.pv (.bool true)),(38,.ref 0 12),(39,.pv (.agg [.int .i64 a1.qid_.type_,.int .i64 a1.qid_.vers_,.int .i64 a1.qid_.path_])),(40,.ref 1 12),(41,.pv (.agg [.int .i64 b2.qid_.type_,.int .i64 b2.qid_.vers_,.int .i64 b2.qid_.path_])),(42,.pv (.bool (decide (a1.qid_.type_=b2.qid_.type_)&&(decide (a1.qid_.vers_=b2.qid_.vers_)&&(decide (a1.qid_.path_=b2.qid_.path_)))))),(43,.pv (.bool (decide (a1.qid_.type_=b2.qid_.type_)&&(decide (a1.qid_.vers_=b2.qid_.vers_)&&(decide (a1.qid_.path_=b2.qid_.path_)))))),(44,.pv (.bool true)),(45,.ref 0 22),(46,.pv (.agg [.int .i64 a1.stat_.type_,.int .i64 a1.stat_.dev_,.int .i64 a1.stat_.qid_.type_,.int .i64 a1.stat_.qid_.vers_,.int .i64 a1.stat_.qid_.path_,.int .i64 a1.stat_.mode_,.int .i64 a1.stat_.atime_,.int .i64 a1.stat_.mtime_,.int .i64 a1.stat_.length_,.str a1.stat_.name_,.str a1.stat_.uid_,.str a1.stat_.gid_,.str a1.stat_.muid_])),(47,.ref 1 22),(48,.pv (.agg [.int .i64 b2.stat_.type_,.int .i64 b2.stat_.dev_,.int .i64 b2.stat_.qid_.type_,.int .i64 b2.stat_.qid_.vers_,.int .i64 b2.stat_.qid_.path_,.int .i64 b2.stat_.mode_,.int .i64 b2.stat_.atime_,.int .i64 b2.stat_.mtime_,.int .i64 b2.stat_.length_,.str b2.stat_.name_,.str b2.stat_.uid_,.str b2.stat_.gid_,.str b2.stat_.muid_])),(49,.pv (.bool (decide (a1.stat_.type_=b2.stat_.type_)&&(decide (a1.stat_.dev_=b2.stat_.dev_)&&(decide (a1.stat_.qid_.type_=b2.stat_.qid_.type_)&&(decide (a1.stat_.qid_.vers_=b2.stat_.qid_.vers_)&&(decide (a1.stat_.qid_.path_=b2.stat_.qid_.path_)&&(decide (a1.stat_.mode_=b2.stat_.mode_)&&(decide (a1.stat_.atime_=b2.stat_.atime_)&&(decide (a1.stat_.mtime_=b2.stat_.mtime_)&&(decide (a1.stat_.length_=b2.stat_.length_)&&(decide (a1.stat_.name_=b2.stat_.name_)&&(decide (a1.stat_.uid_=b2.stat_.uid_)&&(decide (a1.stat_.gid_=b2.stat_.gid_)&&(decide (a1.stat_.muid_=b2.stat_.muid_)))))))))))))))),(50,.pv (.bool (decide (a1.stat_.type_=b2.stat_.type_)&&(decide (a1.stat_.dev_=b2.stat_.dev_)&&(decide (a1.stat_.qid_.type_=b2.stat_.qid_.type_)&&(decide (a1.stat_.qid_.vers_=b2.stat_.qid_.vers_)&&(decide (a1.stat_.qid_.path_=b2.stat_.qid_.path_)&&(decide (a1.stat_.mode_=b2.stat_.mode_)&&(decide (a1.stat_.atime_=b2.stat_.atime_)&&(decide (a1.stat_.mtime_=b2.stat_.mtime_)&&(decide (a1.stat_.length_=b2.stat_.length_)&&(decide (a1.stat_.name_=b2.stat_.name_)&&(decide (a1.stat_.uid_=b2.stat_.uid_)&&(decide (a1.stat_.gid_=b2.stat_.gid_)&&(decide (a1.stat_.muid_=b2.stat_.muid_)))))))))))))))),(51,.pv (.bool true)),(52,.ref 0 10),(53,.pv (.slice (List.map PV.str a1.names_))),(54,.ref 1 10),(55,.pv (.slice (List.map PV.str b2.names_))),(56,.pv (.bool r16)),(57,.pv (.bool r16)),(58,.pv (.bool true)),(59,.ref 0 11),(60,.pv (.slice (List.map Qid.pv a1.qids_))),(61,.ref 1 11),(62,.pv (.slice (List.map Qid.pv b2.qids_))),(63,.pv (.bool r19)),(64,.pv (.bool r19)),(4,.pv (.bool r19)),(2,.ref 0 0),(3,.ref 1 0),(5,.fn 192 []),(6,.fn 193 [])] (by kernel_rfl) (by kernel_rfl) (by kernel_rfl) ?_ [(4,.pv (.bool r19))] [.var [.pv (.int .i64 a1.kind_),.pv (.int .i64 a1.tag_),.pv (.int .i64 a1.fid_),.pv (.int .i64 a1.newFid_),.pv (.int .i64 a1.authFid_),.pv (.int .i64 a1.oldTag_),.pv (.int .i64 a1.msize_),.pv (.str a1.version_),.pv (.str a1.user_),.pv (.str a1.attach_),.pv (.slice (List.map PV.str a1.names_)),.pv (.slice (List.map Qid.pv a1.qids_)),.pv (.int .i64 a1.qid_.type_),.pv (.int .i64 a1.qid_.vers_),.pv (.int .i64 a1.qid_.path_),.pv (.int .i64 a1.iounit_),.pv (.int .i64 a1.mode_),.pv (.int .i64 a1.perm_),.pv (.str a1.name_),.pv (.int .i64 a1.offset_),.pv (.int .i64 a1.count_),.pv (.str a1.data_),.pv (.int .i64 a1.stat_.type_),.pv (.int .i64 a1.stat_.dev_),.pv (.int .i64 a1.stat_.qid_.type_),.pv (.int .i64 a1.stat_.qid_.vers_),.pv (.int .i64 a1.stat_.qid_.path_),.pv (.int .i64 a1.stat_.mode_),.pv (.int .i64 a1.stat_.atime_),.pv (.int .i64 a1.stat_.mtime_),.pv (.int .i64 a1.stat_.length_),.pv (.str a1.stat_.name_),.pv (.str a1.stat_.uid_),.pv (.str a1.stat_.gid_),.pv (.str a1.stat_.muid_),.pv (.int .i64 a1.err_),.pv (.int .i64 a1.lease_),.pv (.int .i64 a1.term_),.pv (.str a1.session_)],.var [.pv (.int .i64 b2.kind_),.pv (.int .i64 b2.tag_),.pv (.int .i64 b2.fid_),.pv (.int .i64 b2.newFid_),.pv (.int .i64 b2.authFid_),.pv (.int .i64 b2.oldTag_),.pv (.int .i64 b2.msize_),.pv (.str b2.version_),.pv (.str b2.user_),.pv (.str b2.attach_),.pv (.slice (List.map PV.str b2.names_)),.pv (.slice (List.map Qid.pv b2.qids_)),.pv (.int .i64 b2.qid_.type_),.pv (.int .i64 b2.qid_.vers_),.pv (.int .i64 b2.qid_.path_),.pv (.int .i64 b2.iounit_),.pv (.int .i64 b2.mode_),.pv (.int .i64 b2.perm_),.pv (.str b2.name_),.pv (.int .i64 b2.offset_),.pv (.int .i64 b2.count_),.pv (.str b2.data_),.pv (.int .i64 b2.stat_.type_),.pv (.int .i64 b2.stat_.dev_),.pv (.int .i64 b2.stat_.qid_.type_),.pv (.int .i64 b2.stat_.qid_.vers_),.pv (.int .i64 b2.stat_.qid_.path_),.pv (.int .i64 b2.stat_.mode_),.pv (.int .i64 b2.stat_.atime_),.pv (.int .i64 b2.stat_.mtime_),.pv (.int .i64 b2.stat_.length_),.pv (.str b2.stat_.name_),.pv (.str b2.stat_.uid_),.pv (.str b2.stat_.gid_),.pv (.str b2.stat_.muid_),.pv (.int .i64 b2.err_),.pv (.int .i64 b2.lease_),.pv (.int .i64 b2.term_),.pv (.str b2.session_)]] ⟨rfl,trivial⟩ rfl ?_
        ·repeat'(first|exact Facts.nil|refine Facts.cons rfl rfl rfl ?_ ?_)
         all_goals exact dv1 (an pf_192 (an f6 (an f9 (an hsp28 (an pf_193 (an f12 (an f15 (an hsp29 (an hsp30 (an hsp31 (an hsp32 (an hsp33 (an pf_194 (an f18 (an hsp34 (an pf_195 f21))))))))))))))))
        refine AW.ret ?_
        cases h
        exact fin
       replace h:=bif_f hsp34 h
       cases h
      replace h:=bif_f hsp33 h
      try simp only[Bool.and_eq_true,Bool.or_eq_false_iff]at hsp33
      cases h
     replace h:=bif_f hsp32 h
     try simp only[Bool.and_eq_true,Bool.or_eq_false_iff]at hsp32
     cases h
    replace h:=bif_f hsp31 h
    cases h
   replace h:=bif_f hsp30 h
   cases h
  replace h:=bif_f hsp29 h
  try simp only[Bool.and_eq_true,Bool.or_eq_false_iff]at hsp29
  cases h
 replace h:=bif_f hsp28 h
 try simp only[Bool.and_eq_true,Bool.or_eq_false_iff]at hsp28
 cases h
end Go.Abs.U54
