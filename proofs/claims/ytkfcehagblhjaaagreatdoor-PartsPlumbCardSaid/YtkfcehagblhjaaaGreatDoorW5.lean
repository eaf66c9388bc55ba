import Derived.Test.YtkfcehagblhjaaaGreatDoorD1
set_option linter.unusedVariables false
set_option linter.unusedSimpArgs false
set_option linter.defProp false
set_option maxRecDepth 8000
namespace Go.Abs.U54
open Go.RowKit Go.Proofs
set_option maxHeartbeats 4000000 in
theorem g_F54(c:AllG env [(S53 F53)]):GoodH env (S54 F54):=by
 obtain⟨O,X,hS,hX,hpf,hk⟩:=orcs (pf:=pfn) c
 have pf_53:O.pf 53=true:=pft hpf 53 rfl
 refine GH (fn:=Tryz.f54) fn_54 rfl rfl 37 rfl [] rfl ?_
 rintro(⟨width1,x2,x3,x4⟩:Int×Str×Int×Bool) (r:Int×Int) h m em
 refine GHs rfl rfl em rfl rfl rfl ?_
 clear em m
 replace h:F54 width1 x2 x3 x4=some r:=h
 rw[F54]at h
 refine AW.seq ?_
 apply AW.rg hS [0,1]
 ·exact di
 refine AW.seq ?_
 refine AW.seq ?_
 apply AW.rg hS [0,1,12]
 ·exact di
 refine AW.iff_ h rfl rfl (fun hb7 h=>?_) (fun hb7 h=>?_)
 ·cases h
 refine AW.skip ?_
 refine AW.seq ?_
 replace h:=obs h;obtain⟨⟨r8,r9,r10⟩,q11,h⟩:=h
 dsimp only at h
 have f12:=(hk 0 53 rfl).ret (x2,x3,width1) q11 rfl rfl
 try dsimp only at f12
 apply AW.dgk mixed hS [0,5,6,7] (ordp hpf (by kernel_rfl))
 ·exact di1 (an pf_53 f12)
 refine AW.seq ?_
 refine AW.seq ?_
 apply AW.rg hS [0,5,6,28]
 ·exact di
 refine AW.iff_ h rfl rfl (fun hb13 h=>?_) (fun hb13 h=>?_)
 ·cases h
 refine AW.skip ?_
 refine AW.seq ?_
 apply AW.rg hS [5]
 ·exact di
 refine AW.seq ?_
 apply AW.rg hS [4]
 ·exact di
 refine AW.ret ?_
 cases h
 exact fin
set_option maxHeartbeats 4000000 in
theorem g_F56(c:AllG env [(S54 F54)]):GoodH env (S56 F56):=by
 obtain⟨O,X,hS,hX,hpf,hk⟩:=orcs (pf:=pfn) c
 have pf_54:O.pf 54=false:=pft hpf 54 rfl
 refine GH (fn:=Tryz.f56) fn_56 rfl rfl 168 rfl [] rfl ?_
 rintro(⟨letter1,x2,x3,x4,x5,x6,x7,x8,x9,x10,x11,x12,x13,x14,x15,x16,x17,x18,x19,x20,x21,x22,x23,x24,x25,x26,x27,x28,x29,x30,x31,x32,x33,x34,x35,x36,x37,x38,x39,x40,x41,x42,x43⟩:Int×Str×Int×Bool×Int×Int×Int×Int×Int×Int×Int×Str×Str×Str×(List Str)×(List Qid)×Int×Int×Int×Int×Int×Int×Str×Int×Int×Str×Int×Int×Int×Int×Int×Int×Int×Int×Int×Str×Str×Str×Str×Int×Int×Int×Str) (r:Int×Int) h m em
 refine GHs rfl rfl em rfl rfl rfl ?_
 clear em m
 replace h:F56 letter1 x2 x3 x4 x5 x6 x7 x8 x9 x10 x11 x12 x13 x14 x15 x16 x17 x18 x19 x20 x21 x22 x23 x24 x25 x26 x27 x28 x29 x30 x31 x32 x33 x34 x35 x36 x37 x38 x39 x40 x41 x42 x43=some r:=h
 rw[F56]at h
 refine AW.seq ?_
 apply AW.rg hS [0,1,6]
 ·exact di
 refine AW.block ?_
 refine AW.seq ?_
 apply AW.rg hS [0,1,6,7]
 ·exact di
 refine AW.iff_ h rfl rfl (fun hb46 h=>?_) (fun hb46 h=>?_)
 ·cases h
 refine AW.seq ?_
 apply AW.rg hS [0,1,6,14]
 ·exact di
 refine AW.iff_ h rfl rfl (fun hb47 h=>?_) (fun hb47 h=>?_)
 ·cases h
 refine AW.seq ?_
 apply AW.rg hS [0,1,6,21]
 ·exact di
 refine AW.iff_ h rfl rfl (fun hb48 h=>?_) (fun hb48 h=>?_)
 ·cases h
 refine AW.seq ?_
 apply AW.rg hS [0,1,6,28]
 ·exact di
 refine AW.iff_ h rfl rfl (fun hb49 h=>?_) (fun hb49 h=>?_)
 ·cases h
 refine AW.seq ?_
 apply AW.rg hS [0,1,6,35]
 ·exact di
 refine AW.iff_ h rfl rfl (fun hb50 h=>?_) (fun hb50 h=>?_)
 ·cases h
 refine AW.seq ?_
 apply AW.rg hS [0,1,6,42]
 ·exact di
 refine AW.iff_ h rfl rfl (fun hb51 h=>?_) (fun hb51 h=>?_)
 ·cases h
 refine AW.seq ?_
 apply AW.rg hS [0,1,6,49]
 ·exact di
 refine AW.iff_ h rfl rfl (fun hb52 h=>?_) (fun hb52 h=>?_)
 ·cases h
 refine AW.seq ?_
 apply AW.rg hS [0,1,56]
 ·exact di
 refine AW.iff_ h rfl rfl (fun hb53 h=>?_) (fun hb53 h=>?_)
 ·replace h:=obs h;obtain⟨⟨r54,x55⟩,q56,h⟩:=h
  dsimp only at h
  have f57:=(hk 0 54 rfl).ret (4,x2,x3,x4) q56 rfl rfl
  try dsimp only at f57
  have e58:=ecall0 f57 rfl rfl rfl rfl
  apply AW.rg hS []
  ·exact di1 (an pf_54 e58)
  cases h
  exact fin
 cases h
set_option maxHeartbeats 4000000 in
theorem g_F18(c:AllG env [(S53 F53),(S54 F54),(S55 F55),(S56 F56),(S57 F57),(S58 F58)]):GoodH env (S18 F18):=by
 obtain⟨O,X,hS,hX,hpf,hk⟩:=orcs (pf:=pfn) c
 have pf_53:O.pf 53=true:=pft hpf 53 rfl
 have pf_54:O.pf 54=false:=pft hpf 54 rfl
 have pf_55:O.pf 55=true:=pft hpf 55 rfl
 have pf_56:O.pf 56=false:=pft hpf 56 rfl
 have pf_57:O.pf 57=true:=pft hpf 57 rfl
 have pf_58:O.pf 58=true:=pft hpf 58 rfl
 refine GH (fn:=Tryz.f18) fn_18 rfl rfl 100 rfl [] rfl ?_
 rintro(⟨s1,at2⟩:Str×Int) (r:Msg×Int×Int) h m em
 refine GHs rfl rfl em rfl rfl rfl ?_
 clear em m
 replace h:F18 s1 at2=some r:=h
 rw[F18]at h
 refine AW.seq ?_
 apply AW.rg hS [0,1,4]
 ·exact di
 refine AW.seq ?_
 replace h:=obs h;obtain⟨⟨r6,r7,r8⟩,q9,h⟩:=h
 dsimp only at h
 have f10:=(hk 0 53 rfl).ret (s1,at2,4) q9 rfl rfl
 try dsimp only at f10
 apply AW.rg hS [0,1,4,7,9]
 ·exact di1 (an pf_53 f10)
 refine AW.seq ?_
 refine AW.block ?_
 refine AW.seq ?_
 apply AW.rg hS [0,1,4,7,22]
 ·exact di
 refine AW.iff_ h rfl rfl (fun hb11 h=>?_) (fun hb11 h=>?_)
 ·cases h
 refine AW.seq ?_
 apply AW.rg hS [0,1,4,7,27]
 ·exact di
 refine AW.iff_ h rfl rfl (fun hb12 h=>?_) (fun hb12 h=>?_)
 ·cases h
 refine AW.seq ?_
 apply AW.rg hS [0,1,4,7,31]
 ·exact di
 refine AW.iff_ h rfl rfl (fun hb13 h=>?_) (fun hb13 h=>?_)
 ·cases h
 refine AW.seq ?_
 apply AW.rg hS [0,1,4,7,35]
 ·exact di
 refine AW.iff_ h rfl rfl (fun hb14 h=>?_) (fun hb14 h=>?_)
 ·cases h
 refine AW.skip ?_
 refine AW.seq ?_
 replace h:=obs h;obtain⟨t15,q16,h⟩:=h
 have f17:=sslice_f q16
 try simp only[Int.toNat_natCast,Int.toNat_zero,Int.reduceToNat,Nat.sub_zero,List.drop_zero,List.length_map]at f17
 have f17e:=f17.2.2.2.2
 try simp only[Int.toNat_natCast,Int.toNat_zero,Int.reduceToNat,Nat.sub_zero,List.drop_zero,List.length_map]at f17e
 have f17l:=f17.2.2.1
 try simp only[Int.toNat_natCast,Int.toNat_zero,Int.reduceToNat,Nat.sub_zero,List.drop_zero,List.length_map]at f17l
 apply AW.rg hS [1,4,7,10]
 ·exact di1 (an f17.1 (an f17.2.1 (an f17l (an f17.2.2.2.1 f17e))))
 refine AW.seq ?_
 replace h:=obs h;obtain⟨⟨r18,x19⟩,q20,h⟩:=h
 dsimp only at h
 have f21:=(hk 1 54 rfl).ret (1,t15,4,true) q20 rfl rfl
 try dsimp only at f21
 have e22:ecall O [.var [.pv (.int .i64 0),.pv (.int .i64 0),.pv (.int .i64 0),.pv (.int .i64 0),.pv (.int .i64 0),.pv (.int .i64 0),.pv (.int .i64 0),.pv (.str []),.pv (.str []),.pv (.str []),.nils,.nils,.pv (.int .i64 0),.pv (.int .i64 0),.pv (.int .i64 0),.pv (.int .i64 0),.pv (.int .i64 0),.pv (.int .i64 0),.pv (.str []),.pv (.int .i64 0),.pv (.int .i64 0),.pv (.str []),.pv (.int .i64 0),.pv (.int .i64 0),.pv (.int .i64 0),.pv (.int .i64 0),.pv (.int .i64 0),.pv (.int .i64 0),.pv (.int .i64 0),.pv (.int .i64 0),.pv (.int .i64 0),.pv (.str []),.pv (.str []),.pv (.str []),.pv (.str []),.pv (.int .i64 0),.pv (.int .i64 0),.pv (.int .i64 0),.pv (.str [])],.var [.pv (.str t15),.pv (.int .i64 4),.pv (.bool true)]] 54 [.ref 1 0,.pv (.int .i64 1)]=some (retAV [.pv (.int .i64 r18)],[.var [.pv (.int .i64 0),.pv (.int .i64 0),.pv (.int .i64 0),.pv (.int .i64 0),.pv (.int .i64 0),.pv (.int .i64 0),.pv (.int .i64 0),.pv (.str []),.pv (.str []),.pv (.str []),.nils,.nils,.pv (.int .i64 0),.pv (.int .i64 0),.pv (.int .i64 0),.pv (.int .i64 0),.pv (.int .i64 0),.pv (.int .i64 0),.pv (.str []),.pv (.int .i64 0),.pv (.int .i64 0),.pv (.str []),.pv (.int .i64 0),.pv (.int .i64 0),.pv (.int .i64 0),.pv (.int .i64 0),.pv (.int .i64 0),.pv (.int .i64 0),.pv (.int .i64 0),.pv (.int .i64 0),.pv (.int .i64 0),.pv (.str []),.pv (.str []),.pv (.str []),.pv (.str []),.pv (.int .i64 0),.pv (.int .i64 0),.pv (.int .i64 0),.pv (.str [])],.var [.pv (.str t15),.pv (.int .i64 x19),.pv (.bool true)]]):=ecall_eq rfl rfl rfl f21 rfl rfl rfl
 replace h:=obs h;obtain⟨⟨r23,x24⟩,q25,h⟩:=h
 dsimp only at h
 have f26:=(hk 1 54 rfl).ret (2,t15,x19,true) q25 rfl rfl
 try dsimp only at f26
 have e27:ecall O [.var [.pv (.int .i64 0),.pv (.int .i64 0),.pv (.int .i64 0),.pv (.int .i64 0),.pv (.int .i64 0),.pv (.int .i64 0),.pv (.int .i64 0),.pv (.str []),.pv (.str []),.pv (.str []),.nils,.nils,.pv (.int .i64 0),.pv (.int .i64 0),.pv (.int .i64 0),.pv (.int .i64 0),.pv (.int .i64 0),.pv (.int .i64 0),.pv (.str []),.pv (.int .i64 0),.pv (.int .i64 0),.pv (.str []),.pv (.int .i64 0),.pv (.int .i64 0),.pv (.int .i64 0),.pv (.int .i64 0),.pv (.int .i64 0),.pv (.int .i64 0),.pv (.int .i64 0),.pv (.int .i64 0),.pv (.int .i64 0),.pv (.str []),.pv (.str []),.pv (.str []),.pv (.str []),.pv (.int .i64 0),.pv (.int .i64 0),.pv (.int .i64 0),.pv (.str [])],.var [.pv (.str t15),.pv (.int .i64 x19),.pv (.bool true)]] 54 [.ref 1 0,.pv (.int .i64 2)]=some (retAV [.pv (.int .i64 r23)],[.var [.pv (.int .i64 0),.pv (.int .i64 0),.pv (.int .i64 0),.pv (.int .i64 0),.pv (.int .i64 0),.pv (.int .i64 0),.pv (.int .i64 0),.pv (.str []),.pv (.str []),.pv (.str []),.nils,.nils,.pv (.int .i64 0),.pv (.int .i64 0),.pv (.int .i64 0),.pv (.int .i64 0),.pv (.int .i64 0),.pv (.int .i64 0),.pv (.str []),.pv (.int .i64 0),.pv (.int .i64 0),.pv (.str []),.pv (.int .i64 0),.pv (.int .i64 0),.pv (.int .i64 0),.pv (.int .i64 0),.pv (.int .i64 0),.pv (.int .i64 0),.pv (.int .i64 0),.pv (.int .i64 0),.pv (.int .i64 0),.pv (.str []),.pv (.str []),.pv (.str []),.pv (.str []),.pv (.int .i64 0),.pv (.int .i64 0),.pv (.int .i64 0),.pv (.str [])],.var [.pv (.str t15),.pv (.int .i64 x24),.pv (.bool true)]]):=ecall_eq rfl rfl rfl f26 rfl rfl rfl
 apply AW.rg hS [1,4,7,10,11]
 ·exact di1 (an pf_54 (an e22 e27))
 refine AW.seq ?_
 replace h:=obs h;obtain⟨r28,q29,h⟩:=h
 have f30:=(hk 2 55 rfl).ret r18 q29 rfl rfl
 try dsimp only at f30
 apply AW.rg hS [1,4,7,10,11,12]
 ·exact di1 (an pf_55 f30)
 refine AW.seq ?_
 refine AW.seq ?_
 apply AW.rg hS [1,4,7,10,11,12,60,61]
 ·exact di
 refine AW.block ?_
 refine AW.lp (α:=Nat×Int×Int×Int) (fun(_,i31,x32,x33)=>⟨sl [(1,.pv (.int .i64 at2)),(4,.ref 0 0),(7,.pv (.int .i64 r6)),(10,.ref 1 0),(11,.ref 2 0),(12,.pv (.str r28)),(60,.pv (.int .i64 (r28.length:Int))),(61,.pv (.int .i64 i31))],100,[.var [.pv (.int .i64 0),.pv (.int .i64 0),.pv (.int .i64 0),.pv (.int .i64 0),.pv (.int .i64 0),.pv (.int .i64 0),.pv (.int .i64 0),.pv (.str []),.pv (.str []),.pv (.str []),.nils,.nils,.pv (.int .i64 0),.pv (.int .i64 0),.pv (.int .i64 0),.pv (.int .i64 0),.pv (.int .i64 0),.pv (.int .i64 0),.pv (.str []),.pv (.int .i64 0),.pv (.int .i64 0),.pv (.str []),.pv (.int .i64 0),.pv (.int .i64 0),.pv (.int .i64 0),.pv (.int .i64 0),.pv (.int .i64 0),.pv (.int .i64 0),.pv (.int .i64 0),.pv (.int .i64 0),.pv (.int .i64 0),.pv (.str []),.pv (.str []),.pv (.str []),.pv (.str []),.pv (.int .i64 0),.pv (.int .i64 0),.pv (.int .i64 0),.pv (.str [])],.var [.pv (.str t15),.pv (.int .i64 x32),.pv (.bool true)],.var [.pv (.int .i64 r18),.pv (.int .i64 r23),.pv (.int .i64 x33),.pv (.int .i64 0),.pv (.int .i64 0),.pv (.int .i64 0),.pv (.int .i64 0),.pv (.str []),.pv (.str []),.pv (.str []),.pv (.slice (List.map PV.str [])),.pv (.slice (List.map Qid.pv [])),.pv (.int .i64 0),.pv (.int .i64 0),.pv (.int .i64 0),.pv (.int .i64 0),.pv (.int .i64 0),.pv (.int .i64 0),.pv (.str []),.pv (.int .i64 0),.pv (.int .i64 0),.pv (.str []),.pv (.int .i64 0),.pv (.int .i64 0),.pv (.int .i64 0),.pv (.int .i64 0),.pv (.int .i64 0),.pv (.int .i64 0),.pv (.int .i64 0),.pv (.int .i64 0),.pv (.int .i64 0),.pv (.str []),.pv (.str []),.pv (.str []),.pv (.str []),.pv (.int .i64 0),.pv (.int .i64 0),.pv (.int .i64 0),.pv (.str [])]]⟩) (fun x=>iter (F18_b1 r28 t15 r18 r23 r6 at2) x.1 x.2=some r) (fun x=>x.1) (BIG,(0,x24,0)) (Weak.slots kp) h ?_
 clear h
 intro⟨n54,i31,x32,x33⟩ h
 replace h:=iter_some h;obtain⟨m36,rfl,h⟩:=h
 rw[F18_b1]at h
 try dsimp only at h
 refine AW.st ?_
 refine AW.seq ?_
 apply AW.rg hS [1,4,7,10,11,12,60,61,62]
 ·exact di
 refine AW.seq ?_
 refine AW.iff_ h rfl rfl (fun hb37 h=>?_) (fun hb37 h=>?_)
 ·refine AW.skip ?_
  refine AW.seq ?_
  refine AW.block ?_
  refine AW.seq ?_
  apply AW.rg hS [1,4,7,10,11,12,13,60,61]
  ·exact di
  replace h:=obs h;obtain⟨c38,q39,h⟩:=h
  have f40:=sidx_f q39
  replace h:=obs h;obtain⟨⟨x41,x42⟩,q43,h⟩:=h
  dsimp only at h
  have f44:=(hk 3 56 rfl).ret (c38,t15,x32,true,r18,r23,x33,0,0,0,0,([]:Str),([]:Str),([]:Str),([]:List Str),([]:List Qid),0,0,0,0,0,0,([]:Str),0,0,([]:Str),0,0,0,0,0,0,0,0,0,([]:Str),([]:Str),([]:Str),([]:Str),0,0,0,([]:Str)) q43 rfl rfl
  try dsimp only at f44
  try simp only[List.map_cons,List.map_nil,oPV_none,oPV_some,Attr.pv_eq,P22_eq,Plumb.pv_eq,Token.pv_eq,P50_eq,Redir.pv_eq,P51_eq,Cmd.pv_eq,P46_eq,Word.pv_eq,P54_eq,Var.pv_eq,P324_eq,GEnv.pv_eq,GValue.pv_eq,P59_eq,Qid.pv_eq,P66_eq,Dir.pv_eq,Msg.pv_eq,Call.pv_eq,P60_eq,Client.pv_eq,S274.pv_eq,S276.pv_eq,P81_eq,Port.pv_eq,Pattern.pv_eq,P153_eq,Rule.pv_eq,P29_eq,P30_eq,Plumber.pv_eq]at f44
  have e45:ecall O [.var [.pv (.int .i64 0),.pv (.int .i64 0),.pv (.int .i64 0),.pv (.int .i64 0),.pv (.int .i64 0),.pv (.int .i64 0),.pv (.int .i64 0),.pv (.str []),.pv (.str []),.pv (.str []),.nils,.nils,.pv (.int .i64 0),.pv (.int .i64 0),.pv (.int .i64 0),.pv (.int .i64 0),.pv (.int .i64 0),.pv (.int .i64 0),.pv (.str []),.pv (.int .i64 0),.pv (.int .i64 0),.pv (.str []),.pv (.int .i64 0),.pv (.int .i64 0),.pv (.int .i64 0),.pv (.int .i64 0),.pv (.int .i64 0),.pv (.int .i64 0),.pv (.int .i64 0),.pv (.int .i64 0),.pv (.int .i64 0),.pv (.str []),.pv (.str []),.pv (.str []),.pv (.str []),.pv (.int .i64 0),.pv (.int .i64 0),.pv (.int .i64 0),.pv (.str [])],.var [.pv (.str t15),.pv (.int .i64 x32),.pv (.bool true)],.var [.pv (.int .i64 r18),.pv (.int .i64 r23),.pv (.int .i64 x33),.pv (.int .i64 0),.pv (.int .i64 0),.pv (.int .i64 0),.pv (.int .i64 0),.pv (.str []),.pv (.str []),.pv (.str []),.pv (.slice (List.map PV.str [])),.pv (.slice (List.map Qid.pv [])),.pv (.int .i64 0),.pv (.int .i64 0),.pv (.int .i64 0),.pv (.int .i64 0),.pv (.int .i64 0),.pv (.int .i64 0),.pv (.str []),.pv (.int .i64 0),.pv (.int .i64 0),.pv (.str []),.pv (.int .i64 0),.pv (.int .i64 0),.pv (.int .i64 0),.pv (.int .i64 0),.pv (.int .i64 0),.pv (.int .i64 0),.pv (.int .i64 0),.pv (.int .i64 0),.pv (.int .i64 0),.pv (.str []),.pv (.str []),.pv (.str []),.pv (.str []),.pv (.int .i64 0),.pv (.int .i64 0),.pv (.int .i64 0),.pv (.str [])]] 56 [.ref 1 0,.ref 2 0,.pv (.int .u8 c38)]=some (retAV [],[.var [.pv (.int .i64 0),.pv (.int .i64 0),.pv (.int .i64 0),.pv (.int .i64 0),.pv (.int .i64 0),.pv (.int .i64 0),.pv (.int .i64 0),.pv (.str []),.pv (.str []),.pv (.str []),.nils,.nils,.pv (.int .i64 0),.pv (.int .i64 0),.pv (.int .i64 0),.pv (.int .i64 0),.pv (.int .i64 0),.pv (.int .i64 0),.pv (.str []),.pv (.int .i64 0),.pv (.int .i64 0),.pv (.str []),.pv (.int .i64 0),.pv (.int .i64 0),.pv (.int .i64 0),.pv (.int .i64 0),.pv (.int .i64 0),.pv (.int .i64 0),.pv (.int .i64 0),.pv (.int .i64 0),.pv (.int .i64 0),.pv (.str []),.pv (.str []),.pv (.str []),.pv (.str []),.pv (.int .i64 0),.pv (.int .i64 0),.pv (.int .i64 0),.pv (.str [])],.var [.pv (.str t15),.pv (.int .i64 x41),.pv (.bool true)],.var [.pv (.int .i64 r18),.pv (.int .i64 r23),.pv (.int .i64 x42),.pv (.int .i64 0),.pv (.int .i64 0),.pv (.int .i64 0),.pv (.int .i64 0),.pv (.str []),.pv (.str []),.pv (.str []),.pv (.slice (List.map PV.str [])),.pv (.slice (List.map Qid.pv [])),.pv (.int .i64 0),.pv (.int .i64 0),.pv (.int .i64 0),.pv (.int .i64 0),.pv (.int .i64 0),.pv (.int .i64 0),.pv (.str []),.pv (.int .i64 0),.pv (.int .i64 0),.pv (.str []),.pv (.int .i64 0),.pv (.int .i64 0),.pv (.int .i64 0),.pv (.int .i64 0),.pv (.int .i64 0),.pv (.int .i64 0),.pv (.int .i64 0),.pv (.int .i64 0),.pv (.int .i64 0),.pv (.str []),.pv (.str []),.pv (.str []),.pv (.str []),.pv (.int .i64 0),.pv (.int .i64 0),.pv (.int .i64 0),.pv (.str [])]]):=ecall_eq rfl rfl rfl f44 rfl rfl rfl
  try simp only[List.map_cons,List.map_nil,oPV_none,oPV_some,Attr.pv_eq,P22_eq,Plumb.pv_eq,Token.pv_eq,P50_eq,Redir.pv_eq,P51_eq,Cmd.pv_eq,P46_eq,Word.pv_eq,P54_eq,Var.pv_eq,P324_eq,GEnv.pv_eq,GValue.pv_eq,P59_eq,Qid.pv_eq,P66_eq,Dir.pv_eq,Msg.pv_eq,Call.pv_eq,P60_eq,Client.pv_eq,S274.pv_eq,S276.pv_eq,P81_eq,Port.pv_eq,Pattern.pv_eq,P153_eq,Rule.pv_eq,P29_eq,P30_eq,Plumber.pv_eq]at e45
  apply AW.rg hS [1,4,7,10,11,12,60,61]
  ·exact di1 (an f40.1 (an f40.2.1 (an f40.2.2 (an pf_56 e45))))
  apply AW.rg hS [1,4,7,10,11,12,60,61]
  ·exact di
  exact⟨(m36,(IntKind.wrap .i64 (i31+1),x41,x42)),h,(Weak.norm (m:=3) (Nat.le_of_ble_eq_true rfl) kp hq rfl rfl),Nat.lt_succ_self _⟩
 refine AW.exit ?_
 refine AW.seq ?_
 refine AW.seq ?_
 replace h:=obs h;obtain⟨r46,q47,h⟩:=h
 have f48:=(hk 4 57 rfl).ret r18 q47 rfl rfl
 try dsimp only at f48
 refine AW.reg hS [(1,.pv (.int .i64 at2)),(4,.ref 0 0),(7,.pv (.int .i64 r6)),(11,.ref 2 0),(88,.pv (.bool ((decide (r46=[])||!true)||!decide (x32=r6))))] [.var [.pv (.int .i64 0),.pv (.int .i64 0),.pv (.int .i64 0),.pv (.int .i64 0),.pv (.int .i64 0),.pv (.int .i64 0),.pv (.int .i64 0),.pv (.str []),.pv (.str []),.pv (.str []),.nils,.nils,.pv (.int .i64 0),.pv (.int .i64 0),.pv (.int .i64 0),.pv (.int .i64 0),.pv (.int .i64 0),.pv (.int .i64 0),.pv (.str []),.pv (.int .i64 0),.pv (.int .i64 0),.pv (.str []),.pv (.int .i64 0),.pv (.int .i64 0),.pv (.int .i64 0),.pv (.int .i64 0),.pv (.int .i64 0),.pv (.int .i64 0),.pv (.int .i64 0),.pv (.int .i64 0),.pv (.int .i64 0),.pv (.str []),.pv (.str []),.pv (.str []),.pv (.str []),.pv (.int .i64 0),.pv (.int .i64 0),.pv (.int .i64 0),.pv (.str [])],.var [.pv (.str t15),.pv (.int .i64 x32),.pv (.bool true)],.var [.pv (.int .i64 r18),.pv (.int .i64 r23),.pv (.int .i64 x33),.pv (.int .i64 0),.pv (.int .i64 0),.pv (.int .i64 0),.pv (.int .i64 0),.pv (.str []),.pv (.str []),.pv (.str []),.pv (.slice (List.map PV.str [])),.pv (.slice (List.map Qid.pv [])),.pv (.int .i64 0),.pv (.int .i64 0),.pv (.int .i64 0),.pv (.int .i64 0),.pv (.int .i64 0),.pv (.int .i64 0),.pv (.str []),.pv (.int .i64 0),.pv (.int .i64 0),.pv (.str []),.pv (.int .i64 0),.pv (.int .i64 0),.pv (.int .i64 0),.pv (.int .i64 0),.pv (.int .i64 0),.pv (.int .i64 0),.pv (.int .i64 0),.pv (.int .i64 0),.pv (.int .i64 0),.pv (.str []),.pv (.str []),.pv (.str []),.pv (.str []),.pv (.int .i64 0),.pv (.int .i64 0),.pv (.int .i64 0),.pv (.str [])]] ?_ ?_
 ·clear h hk hpf hS hX c
  exact dh1 (an pf_57 f48)
 refine AW.iff_ h rfl rfl (fun hb49 h=>?_) (fun hb49 h=>?_)
 ·cases h
 refine AW.skip ?_
 refine AW.seq ?_
 refine AW.seq ?_
 replace h:=obs h;obtain⟨r50,q51,h⟩:=h
 have f52:=(hk 5 58 rfl).ret (Msg.mk r18 r23 x33 0 0 0 0 [] [] [] [] [] (Qid.mk 0 0 0) 0 0 0 [] 0 0 [] (Dir.mk 0 0 (Qid.mk 0 0 0) 0 0 0 0 [] [] [] []) 0 0 0 []) q51 rfl rfl
 try dsimp only at f52
 try simp only[List.map_cons,List.map_nil,oPV_none,oPV_some,Attr.pv_eq,P22_eq,Plumb.pv_eq,Token.pv_eq,P50_eq,Redir.pv_eq,P51_eq,Cmd.pv_eq,P46_eq,Word.pv_eq,P54_eq,Var.pv_eq,P324_eq,GEnv.pv_eq,GValue.pv_eq,P59_eq,Qid.pv_eq,P66_eq,Dir.pv_eq,Msg.pv_eq,Call.pv_eq,P60_eq,Client.pv_eq,S274.pv_eq,S276.pv_eq,P81_eq,Port.pv_eq,Pattern.pv_eq,P153_eq,Rule.pv_eq,P29_eq,P30_eq,Plumber.pv_eq]at f52
 apply AW.rg hS [1,4,7,11,14]
 ·exact di1 (an pf_58 f52)
 refine AW.seq ?_
 apply AW.rg hS [1,4,7,11,93]
 ·exact di
 refine AW.iff_ h rfl rfl (fun hb53 h=>?_) (fun hb53 h=>?_)
 ·cases h
 refine AW.skip ?_
 refine AW.seq ?_
 apply AW.rg hS [4,5,6]
 ·exact di
 refine AW.ret ?_
 cases h
 exact fin
set_option maxHeartbeats 4000000 in
theorem g_F4(c:AllG env [(S14 F14),(S13 F13),(S15 F15),(S17 F17),(S16 F16),(S18 F18)]):GoodH env (S4 F4):=by
 obtain⟨O,X,hS,hX,hpf,hk⟩:=orcs (pf:=pfn) c
 have pf_13:O.pf 13=true:=pft hpf 13 rfl
 have pf_14:O.pf 14=true:=pft hpf 14 rfl
 have pf_15:O.pf 15=true:=pft hpf 15 rfl
 have pf_16:O.pf 16=true:=pft hpf 16 rfl
 have pf_17:O.pf 17=true:=pft hpf 17 rfl
 have pf_18:O.pf 18=true:=pft hpf 18 rfl
 refine GH (fn:=Tryz.f4) fn_4 rfl rfl 101 rfl [] rfl ?_
 rintro(⟨⟩:Unit) (r:Bool) h m em
 refine GHs rfl rfl em rfl rfl rfl ?_
 clear em m
 replace h:F4=some r:=h
 rw[F4]at h
 refine AW.seq ?_
 apply AW.rg hS []
 ·exact di
 refine AW.seq ?_
 replace h:=obs h;obtain⟨r2,q3,h⟩:=h
 have f4:=(hk 0 14 rfl).ret ([97,32,98]:Str) q3 rfl rfl
 try dsimp only at f4
 try simp only[List.map_cons,List.map_nil,oPV_none,oPV_some,Attr.pv_eq,P22_eq,Plumb.pv_eq,Token.pv_eq,P50_eq,Redir.pv_eq,P51_eq,Cmd.pv_eq,P46_eq,Word.pv_eq,P54_eq,Var.pv_eq,P324_eq,GEnv.pv_eq,GValue.pv_eq,P59_eq,Qid.pv_eq,P66_eq,Dir.pv_eq,Msg.pv_eq,Call.pv_eq,P60_eq,Client.pv_eq,S274.pv_eq,S276.pv_eq,P81_eq,Port.pv_eq,Pattern.pv_eq,P153_eq,Rule.pv_eq,P29_eq,P30_eq,Plumber.pv_eq]at f4
 replace h:=obs h;obtain⟨s5,q6,h⟩:=h
 have f7:=catO_f q6
 try simp only[List.length_cons,List.length_nil,List.length_replicate,Nat.zero_add,Nat.reduceAdd,Nat.reduceLeDiff,Nat.add_zero,Nat.reduceMul]at f7
 replace h:=obs h;obtain⟨⟨r8,r9,r10⟩,q11,h⟩:=h
 dsimp only at h
 have f12:=(hk 1 13 rfl).ret s5 q11 rfl rfl
 try dsimp only at f12
 apply AW.rg hS [1,3]
 ·exact di1 (an pf_14 (an f4 (an f7.1 (an f7.2 (an pf_13 f12)))))
 refine AW.seq ?_
 refine AW.seq ?_
 replace h:=obs h;obtain⟨u13,q14,h⟩:=h
 have f15:=lidx_g (guardO_t q14)
 try simp only[Int.toNat_natCast,Int.toNat_zero,Int.reduceToNat,Nat.sub_zero,List.drop_zero,List.length_map]at f15
 refine AW.reg hS [(1,.pv (.slice (List.map Cmd.pv r8))),(34,.pv (.bool ((!decide (r10=0)||!decide ((r8.length:Int)=1))||!decide ((u13.words_.length:Int)=2))))] [] ?_ ?_
 ·clear h hk hpf hS hX c
  exact dh1 (an f15.1 f15.2.1)
 refine AW.iff_ h rfl rfl (fun hb16 h=>?_) (fun hb16 h=>?_)
 ·cases h
 refine AW.skip ?_
 refine AW.seq ?_
 replace h:=obs h;obtain⟨u17,q18,h⟩:=h
 have f19:=lidx_f q18
 try simp only[Int.toNat_natCast,Int.toNat_zero,Int.reduceToNat,Nat.sub_zero,List.drop_zero,List.length_map]at f19
 replace h:=obs h;obtain⟨u20,q21,h⟩:=h
 have f22:=lidx_f q21
 try simp only[Int.toNat_natCast,Int.toNat_zero,Int.reduceToNat,Nat.sub_zero,List.drop_zero,List.length_map]at f22
 replace h:=obs h;obtain⟨⟨r23,r24,r25⟩,q26,h⟩:=h
 dsimp only at h
 have f27:=(hk 2 15 rfl).ret (([]:List GEnv),0,u20) q26 rfl rfl
 try dsimp only at f27
 try simp only[List.map_cons,List.map_nil,oPV_none,oPV_some,Attr.pv_eq,P22_eq,Plumb.pv_eq,Token.pv_eq,P50_eq,Redir.pv_eq,P51_eq,Cmd.pv_eq,P46_eq,Word.pv_eq,P54_eq,Var.pv_eq,P324_eq,GEnv.pv_eq,GValue.pv_eq,P59_eq,Qid.pv_eq,P66_eq,Dir.pv_eq,Msg.pv_eq,Call.pv_eq,P60_eq,Client.pv_eq,S274.pv_eq,S276.pv_eq,P81_eq,Port.pv_eq,Pattern.pv_eq,P153_eq,Rule.pv_eq,P29_eq,P30_eq,Plumber.pv_eq]at f27
 apply AW.rg hS [3,4]
 ·exact di1 (an f19.1 (an f19.2.1 (an f22.1 (an f22.2.1 (an pf_15 f27)))))
 refine AW.seq ?_
 replace h:=obs h;obtain⟨r28,q29,h⟩:=h
 have f30:=hk 3 17 rfl
 replace f30:=f30.ret () ((S17_F F17).trans q29) rfl rfl
 try dsimp only at f30
 replace h:=obs h;obtain⟨⟨r31,r32,r33,r34⟩,q35,h⟩:=h
 dsimp only at h
 have f36:=(hk 4 16 rfl).ret (r28,Msg.mk 120 0 7 0 0 0 0 [] [] [] [] [] (Qid.mk 0 0 0) 0 0 0 [] 0 0 [] (Dir.mk 0 0 (Qid.mk 0 0 0) 0 0 0 0 [] [] [] []) 0 0 0 []) q35 rfl rfl
 try dsimp only at f36
 try simp only[List.map_cons,List.map_nil,oPV_none,oPV_some,Attr.pv_eq,P22_eq,Plumb.pv_eq,Token.pv_eq,P50_eq,Redir.pv_eq,P51_eq,Cmd.pv_eq,P46_eq,Word.pv_eq,P54_eq,Var.pv_eq,P324_eq,GEnv.pv_eq,GValue.pv_eq,P59_eq,Qid.pv_eq,P66_eq,Dir.pv_eq,Msg.pv_eq,Call.pv_eq,P60_eq,Client.pv_eq,S274.pv_eq,S276.pv_eq,P81_eq,Port.pv_eq,Pattern.pv_eq,P153_eq,Rule.pv_eq,P29_eq,P30_eq,Plumber.pv_eq]at f36
 apply AW.rg hS [3,4,7,8,9]
 ·exact di1 (an pf_17 (an f30 (an pf_16 f36)))
 refine AW.seq ?_
 replace h:=obs h;obtain⟨⟨r37,r38,r39⟩,q40,h⟩:=h
 dsimp only at h
 have f41:=(hk 5 18 rfl).ret (r33,0) q40 rfl rfl
 try dsimp only at f41
 apply AW.rg hS [3,4,7,8,9,10,11,12]
 ·exact di1 (an pf_18 f41)
 refine AW.seq ?_
 replace h:=obs h;obtain⟨w42,q43,h⟩:=h
 have f44:=lidx_g (guardO_t q43)
 try simp only[Int.toNat_natCast,Int.toNat_zero,Int.reduceToNat,Nat.sub_zero,List.drop_zero,List.length_map]at f44
 refine AW.reg hS [(0,.pv (.bool ((((((((decide (r25=0)&&decide ((r23.length:Int)=1))&&decide (w42=[97,32,98]))&&decide (r34=0))&&decide (r32=1))&&decide (r39=0))&&decide (r38=(r33.length:Int)))&&decide (r37.fid_=7))&&decide (r37.tag_=1))))] [.var [.pv (.bool r31.up_),.pv (.int .i64 r31.msize_),.pv (.str r31.session_),.pv (.slice (List.map (PV.int .i64) r31.fids_)),.pv (.slice (List.map Call.pv r31.calls_)),.pv (.str r31.partial_)],.var [.pv (.int .i64 r37.kind_),.pv (.int .i64 r37.tag_),.pv (.int .i64 r37.fid_),.pv (.int .i64 r37.newFid_),.pv (.int .i64 r37.authFid_),.pv (.int .i64 r37.oldTag_),.pv (.int .i64 r37.msize_),.pv (.str r37.version_),.pv (.str r37.user_),.pv (.str r37.attach_),.pv (.slice (List.map PV.str r37.names_)),.pv (.slice (List.map Qid.pv r37.qids_)),.pv (.int .i64 r37.qid_.type_),.pv (.int .i64 r37.qid_.vers_),.pv (.int .i64 r37.qid_.path_),.pv (.int .i64 r37.iounit_),.pv (.int .i64 r37.mode_),.pv (.int .i64 r37.perm_),.pv (.str r37.name_),.pv (.int .i64 r37.offset_),.pv (.int .i64 r37.count_),.pv (.str r37.data_),.pv (.int .i64 r37.stat_.type_),.pv (.int .i64 r37.stat_.dev_),.pv (.int .i64 r37.stat_.qid_.type_),.pv (.int .i64 r37.stat_.qid_.vers_),.pv (.int .i64 r37.stat_.qid_.path_),.pv (.int .i64 r37.stat_.mode_),.pv (.int .i64 r37.stat_.atime_),.pv (.int .i64 r37.stat_.mtime_),.pv (.int .i64 r37.stat_.length_),.pv (.str r37.stat_.name_),.pv (.str r37.stat_.uid_),.pv (.str r37.stat_.gid_),.pv (.str r37.stat_.muid_),.pv (.int .i64 r37.err_),.pv (.int .i64 r37.lease_),.pv (.int .i64 r37.term_),.pv (.str r37.session_)]] ?_ ?_
 ·clear h hk hpf hS hX c
  exact dh1 (an f44.1 f44.2.1)
 refine AW.ret ?_
 cases h
 exact fin
set_option maxHeartbeats 4000000 in
theorem g_F277(c:AllG env [(S149 F149)]):GoodH env (S277 F277):=by
 obtain⟨O,X,hS,hX,hpf,hk⟩:=orcs (pf:=pfn) c
 have pf_149:O.pf 149=true:=pft hpf 149 rfl
 refine GH (fn:=Tryz.f277) fn_277 rfl rfl 13 rfl [] rfl ?_
 rintro(⟨s1,prefix2⟩:Str×Str) (r:Str) h m em
 refine GHs rfl rfl em rfl rfl rfl ?_
 clear em m
 replace h:F277 s1 prefix2=some r:=h
 rw[F277]at h
 refine AW.seq ?_
 apply AW.rg hS [0,1]
 ·exact di
 refine AW.seq ?_
 refine AW.seq ?_
 replace h:=obs h;obtain⟨r4,q5,h⟩:=h
 have f6:=(hk 0 149 rfl).ret (s1,prefix2) q5 rfl rfl
 try dsimp only at f6
 apply AW.rg hS [0,1,7]
 ·exact di1 (an pf_149 f6)
 refine AW.iff_ h rfl rfl (fun hb7 h=>?_) (fun hb7 h=>?_)
 ·refine AW.seq ?_
  replace h:=obs h;obtain⟨t8,q9,h⟩:=h
  have f10:=sslice_f q9
  try simp only[Int.toNat_natCast,Int.toNat_zero,Int.reduceToNat,Nat.sub_zero,List.drop_zero,List.length_map]at f10
  have f10e:=f10.2.2.2.2
  try simp only[Int.toNat_natCast,Int.toNat_zero,Int.reduceToNat,Nat.sub_zero,List.drop_zero,List.length_map]at f10e
  have f10l:=f10.2.2.1
  try simp only[Int.toNat_natCast,Int.toNat_zero,Int.reduceToNat,Nat.sub_zero,List.drop_zero,List.length_map]at f10l
  apply AW.rg hS [4]
  ·exact di1 (an f10.1 (an f10.2.1 (an f10l (an f10.2.2.2.1 f10e))))
  refine AW.ret ?_
  cases h
  exact fin
 refine AW.skip ?_
 refine AW.seq ?_
 apply AW.rg hS [4]
 ·exact di
 refine AW.ret ?_
 cases h
 exact fin
set_option maxHeartbeats 4000000 in
theorem g_F227(c:AllG env [(S277 F277)]):GoodH env (S227 F227):=by
 obtain⟨O,X,hS,hX,hpf,hk⟩:=orcs (pf:=pfn) c
 have pf_277:O.pf 277=true:=pft hpf 277 rfl
 refine GH (fn:=Tryz.f227) fn_227 rfl rfl 8 rfl [] rfl ?_
 rintro(⟨s1,prefix2⟩:Str×Str) (r:Str) h m em
 refine GHs rfl rfl em rfl rfl rfl ?_
 clear em m
 replace h:F227 s1 prefix2=some r:=h
 rw[F227]at h
 refine AW.seq ?_
 apply AW.rg hS [0,1]
 ·exact di
 refine AW.seq ?_
 replace h:=obs h;obtain⟨r4,q5,h⟩:=h
 have f6:=(hk 0 277 rfl).ret (s1,prefix2) q5 rfl rfl
 try dsimp only at f6
 apply AW.rg hS [4]
 ·exact di1 (an pf_277 f6)
 refine AW.ret ?_
 cases h
 exact fin
set_option maxHeartbeats 4000000 in
theorem g_F157(c:AllG env [(S227 F227)]):GoodH env (S157 F157):=by
 obtain⟨O,X,hS,hX,hpf,hk⟩:=orcs (pf:=pfn) c
 have pf_227:O.pf 227=true:=pft hpf 227 rfl
 refine GH (fn:=Tryz.f157) fn_157 rfl rfl 55 rfl [] rfl ?_
 rintro(s1:Str) (r:Bool) h m em
 refine GHs rfl rfl em rfl rfl rfl ?_
 clear em m
 replace h:F157 s1=some r:=h
 rw[F157]at h
 refine AW.seq ?_
 apply AW.rg hS [0]
 ·exact di
 refine AW.seq ?_
 replace h:=obs h;obtain⟨r3,q4,h⟩:=h
 have f5:=(hk 0 227 rfl).ret (s1,([33]:Str)) q4 rfl rfl
 try dsimp only at f5
 try simp only[List.map_cons,List.map_nil,oPV_none,oPV_some,Attr.pv_eq,P22_eq,Plumb.pv_eq,Token.pv_eq,P50_eq,Redir.pv_eq,P51_eq,Cmd.pv_eq,P46_eq,Word.pv_eq,P54_eq,Var.pv_eq,P324_eq,GEnv.pv_eq,GValue.pv_eq,P59_eq,Qid.pv_eq,P66_eq,Dir.pv_eq,Msg.pv_eq,Call.pv_eq,P60_eq,Client.pv_eq,S274.pv_eq,S276.pv_eq,P81_eq,Port.pv_eq,Pattern.pv_eq,P153_eq,Rule.pv_eq,P29_eq,P30_eq,Plumber.pv_eq]at f5
 apply AW.rg hS [0]
 ·exact di1 (an pf_227 f5)
 refine AW.seq ?_
 refine AW.seq ?_
 replace h:=obs h;obtain⟨c6,q7,h⟩:=h
 have f8:=sidx_g (guardO_t q7)
 try simp only[Int.toNat_natCast,Int.toNat_zero,Int.reduceToNat,Nat.sub_zero,List.drop_zero,List.length_map]at f8
 refine AW.reg hS [(0,.pv (.str r3)),(23,.pv (.bool (((decide (r3=[])||decide (32<(r3.length:Int)))||decide (c6<97))||decide (122<c6))))] [] ?_ ?_
 ·clear h hk hpf hS hX c
  exact dh1 (an f8.1 (an f8.2.1 f8.2.2))
 refine AW.iff_ h rfl rfl (fun hb9 h=>?_) (fun hb9 h=>?_)
 ·refine AW.seq ?_
  apply AW.rg hS [2]
  ·exact di
  refine AW.ret ?_
  cases h
  exact fin
 refine AW.skip ?_
 refine AW.seq ?_
 refine AW.seq ?_
 apply AW.rg hS [0,25,26]
 ·exact di
 refine AW.block ?_
 refine AW.lp (α:=Nat×Int) (fun(_,i10)=>⟨sl [(0,.pv (.str r3)),(25,.pv (.int .i64 (r3.length:Int))),(26,.pv (.int .i64 i10))],55,[]⟩) (fun x=>iter (F157_b1 r3) x.1 x.2=some r) (fun x=>x.1) (BIG,0) (Weak.slots kp) h ?_
 clear h
 intro⟨n19,i10⟩ h
 replace h:=iter_some h;obtain⟨m13,rfl,h⟩:=h
 rw[F157_b1]at h
 try dsimp only at h
 refine AW.st ?_
 refine AW.seq ?_
 apply AW.rg hS [0,25,26,27]
 ·exact di
 refine AW.seq ?_
 refine AW.iff_ h rfl rfl (fun hb14 h=>?_) (fun hb14 h=>?_)
 ·refine AW.skip ?_
  refine AW.seq ?_
  refine AW.block ?_
  refine AW.seq ?_
  apply AW.rg hS [0,3,25,26]
  ·exact di
  refine AW.seq ?_
  replace h:=obs h;obtain⟨c15,q16,h⟩:=h
  have f17:=sidx_f q16
  apply AW.rg hS [0,4,25,26]
  ·exact di1 (an f17.1 (an f17.2.1 f17.2.2))
  refine AW.seq ?_
  refine AW.reg hS [(0,.pv (.str r3)),(25,.pv (.int .i64 (r3.length:Int))),(26,.pv (.int .i64 i10)),(53,.pv (.bool ((((decide (c15<97)||decide (122<c15))&&(decide (c15<48)||decide (57<c15)))&&!decide (c15=45))&&!decide (c15=95))))] [] ?_ ?_
  ·clear h hk hpf hS hX c
   exact dh
  refine AW.iff_ h rfl rfl (fun hb18 h=>?_) (fun hb18 h=>?_)
  ·refine AW.seq ?_
   apply AW.rg hS [2]
   ·exact di
   refine AW.ret ?_
   cases h
   exact fin
  refine AW.skip ?_
  apply AW.rg hS [0,25,26]
  ·exact di
  exact⟨(m13,IntKind.wrap .i64 (i10+1)),h,(Weak.norm (m:=0) (Nat.le_of_ble_eq_true rfl) kp hq rfl rfl),Nat.lt_succ_self _⟩
 refine AW.exit ?_
 refine AW.seq ?_
 apply AW.rg hS [2]
 ·exact di
 refine AW.ret ?_
 cases h
 exact fin
set_option maxHeartbeats 4000000 in
theorem g_F131(c:AllG env [SL_IndexByte]):GoodH env (S131 F131):=by
 obtain⟨O,X,hS,hX,hpf,hk⟩:=orcs (pf:=pfn) c
 have pf_90:O.pf 90=true:=pft hpf 90 rfl
 refine GH (fn:=Tryz.f131) fn_131 rfl rfl 21 rfl [] rfl ?_
 rintro(⟨s1,stops2⟩:Str×Str) (r:Int) h m em
 refine GHs rfl rfl em rfl rfl rfl ?_
 clear em m
 replace h:F131 s1 stops2=some r:=h
 rw[F131]at h
 refine AW.seq ?_
 apply AW.rg hS [0,1]
 ·exact di
 refine AW.seq ?_
 refine AW.seq ?_
 apply AW.rg hS [0,1,7,8]
 ·exact di
 refine AW.block ?_
 refine AW.lp (α:=Nat×Int) (fun(_,i4)=>⟨sl [(0,.pv (.str s1)),(1,.pv (.str stops2)),(7,.pv (.int .i64 (s1.length:Int))),(8,.pv (.int .i64 i4))],21,[]⟩) (fun x=>iter (F131_b1 s1 stops2) x.1 x.2=some r) (fun x=>x.1) (BIG,0) (Weak.slots kp) h ?_
 clear h
 intro⟨n16,i4⟩ h
 replace h:=iter_some h;obtain⟨m7,rfl,h⟩:=h
 rw[F131_b1]at h
 try dsimp only at h
 refine AW.st ?_
 refine AW.seq ?_
 apply AW.rg hS [0,1,7,8,9]
 ·exact di
 refine AW.seq ?_
 refine AW.iff_ h rfl rfl (fun hb8 h=>?_) (fun hb8 h=>?_)
 ·refine AW.skip ?_
  refine AW.seq ?_
  refine AW.block ?_
  refine AW.seq ?_
  apply AW.rg hS [0,1,5,7,8]
  ·exact di
  refine AW.seq ?_
  replace h:=obs h;obtain⟨c9,q10,h⟩:=h
  have f11:=sidx_f q10
  replace h:=obs h;obtain⟨n12,q13,h⟩:=h
  have f14:=(hk 0 90 rfl).ret (stops2,c9) q13 rfl rfl
  try dsimp only at f14
  apply AW.rg hS [0,1,5,7,8,16]
  ·exact di1 (an f11.1 (an f11.2.1 (an f11.2.2 (an pf_90 f14))))
  refine AW.iff_ h rfl rfl (fun hb15 h=>?_) (fun hb15 h=>?_)
  ·refine AW.seq ?_
   apply AW.rg hS [4]
   ·exact di
   refine AW.ret ?_
   cases h
   exact fin
  refine AW.skip ?_
  apply AW.rg hS [0,1,7,8]
  ·exact di
  exact⟨(m7,IntKind.wrap .i64 (i4+1)),h,(Weak.norm (m:=0) (Nat.le_of_ble_eq_true rfl) kp hq rfl rfl),Nat.lt_succ_self _⟩
 refine AW.exit ?_
 refine AW.seq ?_
 apply AW.rg hS [4]
 ·exact di
 refine AW.ret ?_
 cases h
 exact fin
set_option maxHeartbeats 4000000 in
theorem g_F158(c:AllG env []):GoodH env (S158 F158):=by
 obtain⟨O,X,hS,hX,hpf,hk⟩:=orcs (pf:=pfn) c
 refine GH (fn:=Tryz.f158) fn_158 rfl rfl 9 rfl [] rfl ?_
 rintro(⟨b1,x2,x3,x4⟩:Attr×Str×Str×Bool) (r:Bool) h m em
 refine GHs rfl rfl em rfl rfl rfl ?_
 clear em m
 replace h:F158 b1 x2 x3 x4=some r:=h
 rw[F158]at h
 refine AW.seq ?_
 apply AW.rg hS [1,2]
 ·exact di
 refine AW.seq ?_
 apply AW.rg hS [3]
 ·exact di
 refine AW.ret ?_
 cases h
 exact fin
set_option maxHeartbeats 4000000 in
theorem g_F207(c:AllG env [(S158 F158)]):GoodH env (S207 F207):=by
 obtain⟨O,X,hS,hX,hpf,hk⟩:=orcs (pf:=pfn) c
 have pf_158:O.pf 158=false:=pft hpf 158 rfl
 refine GH (fn:=Tryz.f207) fn_207 rfl rfl 19 rfl [] rfl ?_
 rintro(⟨s1,x2,x3,x4⟩:(List Attr)×Str×Str×Bool) (r:Int) h m em
 refine GHs rfl rfl em rfl rfl rfl ?_
 clear em m
 replace h:F207 s1 x2 x3 x4=some r:=h
 rw[F207]at h
 refine AW.seq ?_
 apply AW.rg hS [0,1]
 ·exact di
 refine AW.seq ?_
 refine AW.seq ?_
 apply AW.rg hS [0,1,7,8]
 ·exact di
 refine AW.block ?_
 refine AW.lp (α:=Nat×Int) (fun(_,i6)=>⟨sl [(0,.pv (.slice (List.map Attr.pv s1))),(1,.fn 158 [0]),(7,.pv (.int .i64 (s1.length:Int))),(8,.pv (.int .i64 i6))],19,[.var [.pv (.str x2),.pv (.str x3),.pv (.bool x4)]]⟩) (fun x=>iter (F207_b1 s1 x2 x3 x4) x.1 x.2=some r) (fun x=>x.1) (BIG,0) (Weak.slots kp) h ?_
 clear h
 intro⟨n19,i6⟩ h
 replace h:=iter_some h;obtain⟨m9,rfl,h⟩:=h
 rw[F207_b1]at h
 try dsimp only at h
 refine AW.st ?_
 refine AW.seq ?_
 apply AW.rg hS [0,1,7,8,9]
 ·exact di
 refine AW.seq ?_
 refine AW.iff_ h rfl rfl (fun hb10 h=>?_) (fun hb10 h=>?_)
 ·refine AW.skip ?_
  refine AW.seq ?_
  refine AW.block ?_
  refine AW.seq ?_
  apply AW.rg hS [0,1,5,7,8]
  ·exact di
  refine AW.seq ?_
  replace h:=obs h;obtain⟨u11,q12,h⟩:=h
  have f13:=lidx_f q12
  replace h:=obs h;obtain⟨r14,q15,h⟩:=h
  have f16:=(hk 0 158 rfl).ret (u11,x2,x3,x4) q15 rfl rfl
  try dsimp only at f16
  have e17:ecall O [.var [.pv (.str x2),.pv (.str x3),.pv (.bool x4)]] 158 [.pv (.agg [.str u11.name_,.str u11.value_,.bool u11.query_]),.ref 0 0]=some (retAV [.pv (.bool r14)],[.var [.pv (.str x2),.pv (.str x3),.pv (.bool x4)]]):=ecall_eq rfl rfl rfl f16 rfl rfl rfl
  apply AW.rg hS [0,1,5,7,8,16]
  ·exact di1 (an f13.1 (an f13.2.1 (an pf_158 e17)))
  refine AW.iff_ h rfl rfl (fun hb18 h=>?_) (fun hb18 h=>?_)
  ·refine AW.seq ?_
   apply AW.rg hS [4]
   ·exact di
   refine AW.ret ?_
   cases h
   exact fin
  refine AW.skip ?_
  apply AW.rg hS [0,1,7,8]
  ·exact di
  exact⟨(m9,IntKind.wrap .i64 (i6+1)),h,(Weak.norm (m:=1) (Nat.le_of_ble_eq_true rfl) kp hq rfl rfl),Nat.lt_succ_self _⟩
 refine AW.exit ?_
 refine AW.seq ?_
 apply AW.rg hS [4]
 ·exact di
 refine AW.ret ?_
 cases h
 exact fin
set_option maxHeartbeats 4000000 in
theorem g_F129(c:AllG env [(S207 F207)]):GoodH env (S129 F129):=by
 obtain⟨O,X,hS,hX,hpf,hk⟩:=orcs (pf:=pfn) c
 have pf_207:O.pf 207=false:=pft hpf 207 rfl
 refine GH (fn:=Tryz.f129) fn_129 rfl rfl 9 rfl [] rfl ?_
 rintro(⟨s1,x2,x3,x4⟩:(List Attr)×Str×Str×Bool) (r:Bool) h m em
 refine GHs rfl rfl em rfl rfl rfl ?_
 clear em m
 replace h:F129 s1 x2 x3 x4=some r:=h
 rw[F129]at h
 refine AW.seq ?_
 apply AW.rg hS [0,1]
 ·exact di
 refine AW.seq ?_
 replace h:=obs h;obtain⟨r6,q7,h⟩:=h
 have f8:=(hk 0 207 rfl).ret (s1,x2,x3,x4) q7 rfl rfl
 try dsimp only at f8
 have e9:ecall O [.var [.pv (.str x2),.pv (.str x3),.pv (.bool x4)]] 207 [.pv (.slice (List.map Attr.pv s1)),.fn 158 [0]]=some (retAV [.pv (.int .i64 r6)],[.var [.pv (.str x2),.pv (.str x3),.pv (.bool x4)]]):=ecall_eq rfl rfl rfl f8 rfl rfl rfl
 apply AW.rg hS [4]
 ·exact di1 (an pf_207 e9)
 refine AW.ret ?_
 cases h
 exact fin
set_option maxHeartbeats 4000000 in
theorem g_F86(c:AllG env [(S157 F157),(S131 F131),(S129 F129)]):GoodH env (S86 F86):=by
 obtain⟨O,X,hS,hX,hpf,hk⟩:=orcs (pf:=pfn) c
 have pf_129:O.pf 129=false:=pft hpf 129 rfl
 have pf_131:O.pf 131=true:=pft hpf 131 rfl
 have pf_157:O.pf 157=true:=pft hpf 157 rfl
 refine GH (fn:=Tryz.f86) fn_86 rfl rfl 39 rfl [] rfl ?_
 rintro(⟨before1,a2⟩:(List Attr)×Attr) (r:Int) h m em
 refine GHs rfl rfl em rfl rfl rfl ?_
 clear em m
 replace h:F86 before1 a2=some r:=h
 rw[F86]at h
 refine AW.seq ?_
 apply AW.rg hS [0,3]
 ·exact di
 refine AW.seq ?_
 refine AW.block ?_
 refine AW.seq ?_
 apply AW.rg hS [0,3,5]
 ·exact di
 refine AW.iff_ h rfl rfl (fun hb4 h=>?_) (fun hb4 h=>?_)
 ·refine AW.seq ?_
  apply AW.rg hS [4]
  ·exact di
  refine AW.ret ?_
  cases h
  exact fin
 refine AW.seq ?_
 replace h:=obs h;obtain⟨r5,q6,h⟩:=h
 have f7:=(hk 0 157 rfl).ret a2.name_ q6 rfl rfl
 try dsimp only at f7
 apply AW.rg hS [0,3,9]
 ·exact di1 (an pf_157 f7)
 refine AW.iff_ h rfl rfl (fun hb8 h=>?_) (fun hb8 h=>?_)
 ·refine AW.seq ?_
  apply AW.rg hS [4]
  ·exact di
  refine AW.ret ?_
  cases h
  exact fin
 refine AW.seq ?_
 refine AW.reg hS [(0,.pv (.slice (List.map Attr.pv before1))),(3,.ref 0 0),(14,.pv (.bool (a2.query_&&!decide (a2.value_=[]))))] [.var [.pv (.str a2.name_),.pv (.str a2.value_),.pv (.bool a2.query_)]] ?_ ?_
 ·clear h hk hpf hS hX c
  exact dh
 refine AW.iff_ h rfl rfl (fun hb9 h=>?_) (fun hb9 h=>?_)
 ·refine AW.seq ?_
  apply AW.rg hS [4]
  ·exact di
  refine AW.ret ?_
  cases h
  exact fin
 refine AW.seq ?_
 replace h:=obs h;obtain⟨r10,q11,h⟩:=h
 have f12:=(hk 1 131 rfl).ret (a2.value_,([0,10,13]:Str)) q11 rfl rfl
 try dsimp only at f12
 try simp only[List.map_cons,List.map_nil,oPV_none,oPV_some,Attr.pv_eq,P22_eq,Plumb.pv_eq,Token.pv_eq,P50_eq,Redir.pv_eq,P51_eq,Cmd.pv_eq,P46_eq,Word.pv_eq,P54_eq,Var.pv_eq,P324_eq,GEnv.pv_eq,GValue.pv_eq,P59_eq,Qid.pv_eq,P66_eq,Dir.pv_eq,Msg.pv_eq,Call.pv_eq,P60_eq,Client.pv_eq,S274.pv_eq,S276.pv_eq,P81_eq,Port.pv_eq,Pattern.pv_eq,P153_eq,Rule.pv_eq,P29_eq,P30_eq,Plumber.pv_eq]at f12
 apply AW.dgk mixed hS [0,3,22] (ordp hpf (by kernel_rfl))
 ·exact di1 (an pf_131 f12)
 refine AW.iff_ h rfl rfl (fun hb13 h=>?_) (fun hb13 h=>?_)
 ·refine AW.seq ?_
  apply AW.rg hS [4]
  ·exact di
  refine AW.ret ?_
  cases h
  exact fin
 refine AW.seq ?_
 apply AW.rg hS [0,3,30]
 ·exact di
 refine AW.iff_ h rfl rfl (fun hb14 h=>?_) (fun hb14 h=>?_)
 ·refine AW.seq ?_
  apply AW.rg hS [4]
  ·exact di
  refine AW.ret ?_
  cases h
  exact fin
 refine AW.seq ?_
 replace h:=obs h;obtain⟨r15,q16,h⟩:=h
 have f17:=(hk 2 129 rfl).ret (before1,a2.name_,a2.value_,a2.query_) q16 rfl rfl
 try dsimp only at f17
 have e18:ecall O [.var [.pv (.str a2.name_),.pv (.str a2.value_),.pv (.bool a2.query_)]] 129 [.pv (.slice (List.map Attr.pv before1)),.fn 158 [0]]=some (retAV [.pv (.bool r15)],[.var [.pv (.str a2.name_),.pv (.str a2.value_),.pv (.bool a2.query_)]]):=ecall_eq rfl rfl rfl f17 rfl rfl rfl
 apply AW.rg hS [35]
 ·exact di1 (an pf_129 e18)
 refine AW.iff_ h rfl rfl (fun hb19 h=>?_) (fun hb19 h=>?_)
 ·refine AW.seq ?_
  apply AW.rg hS [4]
  ·exact di
  refine AW.ret ?_
  cases h
  exact fin
 refine AW.skip ?_
 refine AW.seq ?_
 apply AW.rg hS [4]
 ·exact di
 refine AW.ret ?_
 cases h
 exact fin
set_option maxHeartbeats 4000000 in
theorem g_F60(c:AllG env [(S86 F86)]):GoodH env (S60 F60):=by
 obtain⟨O,X,hS,hX,hpf,hk⟩:=orcs (pf:=pfn) c
 have pf_86:O.pf 86=true:=pft hpf 86 rfl
 refine GH (fn:=Tryz.f60) fn_60 rfl rfl 22 rfl [] rfl ?_
 rintro(l1:(List Attr)) (r:Int) h m em
 refine GHs rfl rfl em rfl rfl rfl ?_
 clear em m
 replace h:F60 l1=some r:=h
 rw[F60]at h
 refine AW.seq ?_
 apply AW.rg hS [0]
 ·exact di
 refine AW.seq ?_
 refine AW.seq ?_
 apply AW.rg hS [0,6,7,8]
 ·exact di
 refine AW.block ?_
 refine AW.lp (α:=Nat×Int) (fun(_,i3)=>⟨sl [(0,.pv (.slice (List.map Attr.pv l1))),(6,.pv (.slice (List.map Attr.pv l1))),(7,.pv (.int .i64 (l1.length:Int))),(8,.pv (.int .i64 i3))],22,[]⟩) (fun x=>iter (F60_b1 l1) x.1 x.2=some r) (fun x=>x.1) (BIG,0) (Weak.slots kp) h ?_
 clear h
 intro⟨n18,i3⟩ h
 replace h:=iter_some h;obtain⟨m6,rfl,h⟩:=h
 rw[F60_b1]at h
 try dsimp only at h
 refine AW.st ?_
 refine AW.seq ?_
 apply AW.rg hS [0,6,7,8,9]
 ·exact di
 refine AW.seq ?_
 refine AW.iff_ h rfl rfl (fun hb7 h=>?_) (fun hb7 h=>?_)
 ·refine AW.skip ?_
  refine AW.seq ?_
  refine AW.block ?_
  refine AW.seq ?_
  replace h:=obs h;obtain⟨u8,q9,h⟩:=h
  have f10:=lidx_f q9
  apply AW.rg hS [0,3,4,6,7,8]
  ·exact di1 (an f10.1 f10.2.1)
  refine AW.seq ?_
  replace h:=obs h;obtain⟨l11,q12,h⟩:=h
  have f13:=lslicek_f q12
  try simp only[Int.toNat_natCast,Int.toNat_zero,Int.reduceToNat,Nat.sub_zero,List.drop_zero,List.length_map]at f13
  have f13l:=f13.2.2.1
  have f13m:=lslice_m Attr.pv q12
  try simp only[Int.toNat_natCast,Int.toNat_zero,Int.reduceToNat,Nat.sub_zero,List.drop_zero,List.length_map]at f13l f13m
  replace h:=obs h;obtain⟨r14,q15,h⟩:=h
  have f16:=(hk 0 86 rfl).ret (l11,u8) q15 rfl rfl
  try dsimp only at f16
  apply AW.dgk mixed hS [0,5,6,7,8] (ordp hpf (by kernel_rfl))
  ·exact di1 (an f13.1 (an f13.2.1 (an f13l (an f13.2.2.2 (an f13m (an pf_86 f16))))))
  clear f13 f13l f13m
  refine AW.seq ?_
  apply AW.rg hS [0,5,6,7,8,19]
  ·exact di
  refine AW.iff_ h rfl rfl (fun hb17 h=>?_) (fun hb17 h=>?_)
  ·refine AW.seq ?_
   apply AW.rg hS [2]
   ·exact di
   refine AW.ret ?_
   cases h
   exact fin
  refine AW.skip ?_
  apply AW.rg hS [0,6,7,8]
  ·exact di
  exact⟨(m6,IntKind.wrap .i64 (i3+1)),h,(Weak.norm (m:=0) (Nat.le_of_ble_eq_true rfl) kp hq rfl rfl),Nat.lt_succ_self _⟩
 refine AW.exit ?_
 refine AW.seq ?_
 apply AW.rg hS [2]
 ·exact di
 refine AW.ret ?_
 cases h
 exact fin
set_option maxHeartbeats 4000000 in
theorem g_F130(c:AllG env []):GoodH env (S130 F130):=by
 obtain⟨O,X,hS,hX,hpf,hk⟩:=orcs (pf:=pfn) c
 refine GH (fn:=Tryz.f130) fn_130 rfl rfl 5 rfl [] rfl ?_
 rintro(a1:Attr) (r:Bool) h m em
 refine GHs rfl rfl em rfl rfl rfl ?_
 clear em m
 replace h:F130 a1=some r:=h
 rw[F130]at h
 refine AW.seq ?_
 apply AW.rg hS [1]
 ·exact di
 refine AW.seq ?_
 apply AW.rg hS [2]
 ·exact di
 refine AW.ret ?_
 cases h
 exact fin
set_option maxHeartbeats 4000000 in
theorem g_F207x1(c:AllG env [(S130 F130)]):GoodH env (S207x1 F207x1):=by
 obtain⟨O,X,hS,hX,hpf,hk⟩:=orcs (pf:=pfn) c
 have pf_130:O.pf 130=true:=pft hpf 130 rfl
 refine GH (fn:=Tryz.f207) fn_207 rfl rfl 19 rfl [] rfl ?_
 rintro(s1:(List Attr)) (r:Int) h m em
 refine GHs rfl rfl em rfl rfl rfl ?_
 clear em m
 replace h:F207x1 s1=some r:=h
 rw[F207x1]at h
 refine AW.seq ?_
 apply AW.rg hS [0,1]
 ·exact di
 refine AW.seq ?_
 refine AW.seq ?_
 apply AW.rg hS [0,1,7,8]
 ·exact di
 refine AW.block ?_
 refine AW.lp (α:=Nat×Int) (fun(_,i3)=>⟨sl [(0,.pv (.slice (List.map Attr.pv s1))),(1,.fn 130 []),(7,.pv (.int .i64 (s1.length:Int))),(8,.pv (.int .i64 i3))],19,[]⟩) (fun x=>iter (F207x1_b1 s1) x.1 x.2=some r) (fun x=>x.1) (BIG,0) (Weak.slots kp) h ?_
 clear h
 intro⟨n15,i3⟩ h
 replace h:=iter_some h;obtain⟨m6,rfl,h⟩:=h
 rw[F207x1_b1]at h
 try dsimp only at h
 refine AW.st ?_
 refine AW.seq ?_
 apply AW.rg hS [0,1,7,8,9]
 ·exact di
 refine AW.seq ?_
 refine AW.iff_ h rfl rfl (fun hb7 h=>?_) (fun hb7 h=>?_)
 ·refine AW.skip ?_
  refine AW.seq ?_
  refine AW.block ?_
  refine AW.seq ?_
  apply AW.rg hS [0,1,5,7,8]
  ·exact di
  refine AW.seq ?_
  replace h:=obs h;obtain⟨u8,q9,h⟩:=h
  have f10:=lidx_f q9
  replace h:=obs h;obtain⟨r11,q12,h⟩:=h
  have f13:=(hk 0 130 rfl).ret u8 q12 rfl rfl
  try dsimp only at f13
  apply AW.rg hS [0,1,5,7,8,16]
  ·exact di1 (an f10.1 (an f10.2.1 (an pf_130 f13)))
  refine AW.iff_ h rfl rfl (fun hb14 h=>?_) (fun hb14 h=>?_)
  ·refine AW.seq ?_
   apply AW.rg hS [4]
   ·exact di
   refine AW.ret ?_
   cases h
   exact fin
  refine AW.skip ?_
  apply AW.rg hS [0,1,7,8]
  ·exact di
  exact⟨(m6,IntKind.wrap .i64 (i3+1)),h,(Weak.norm (m:=0) (Nat.le_of_ble_eq_true rfl) kp hq rfl rfl),Nat.lt_succ_self _⟩
 refine AW.exit ?_
 refine AW.seq ?_
 apply AW.rg hS [4]
 ·exact di
 refine AW.ret ?_
 cases h
 exact fin
set_option maxHeartbeats 4000000 in
theorem g_F129x1(c:AllG env [(S207x1 F207x1)]):GoodH env (S129x1 F129x1):=by
 obtain⟨O,X,hS,hX,hpf,hk⟩:=orcs (pf:=pfn) c
 have pf_207:O.pf 207=false:=pft hpf 207 rfl
 refine GH (fn:=Tryz.f129) fn_129 rfl rfl 9 rfl [] rfl ?_
 rintro(s1:(List Attr)) (r:Bool) h m em
 refine GHs rfl rfl em rfl rfl rfl ?_
 clear em m
 replace h:F129x1 s1=some r:=h
 rw[F129x1]at h
 refine AW.seq ?_
 apply AW.rg hS [0,1]
 ·exact di
 refine AW.seq ?_
 replace h:=obs h;obtain⟨r3,q4,h⟩:=h
 have f5:=(hk 0 207 rfl).ret s1 q4 rfl rfl
 try dsimp only at f5
 have e6:ecall O [] 207 [.pv (.slice (List.map Attr.pv s1)),.fn 130 []]=some (retAV [.pv (.int .i64 r3)],[]):=ecall_eq rfl rfl rfl f5 rfl rfl rfl
 apply AW.rg hS [4]
 ·exact di1 (an pf_207 e6)
 refine AW.ret ?_
 cases h
 exact fin
set_option maxHeartbeats 4000000 in
theorem g_F61(c:AllG env [(S129x1 F129x1)]):GoodH env (S61 F61):=by
 obtain⟨O,X,hS,hX,hpf,hk⟩:=orcs (pf:=pfn) c
 have pf_129:O.pf 129=false:=pft hpf 129 rfl
 refine GH (fn:=Tryz.f61) fn_61 rfl rfl 5 rfl [] rfl ?_
 rintro(l1:(List Attr)) (r:Bool) h m em
 refine GHs rfl rfl em rfl rfl rfl ?_
 clear em m
 replace h:F61 l1=some r:=h
 rw[F61]at h
 refine AW.seq ?_
 apply AW.rg hS [0]
 ·exact di
 refine AW.seq ?_
 replace h:=obs h;obtain⟨r3,q4,h⟩:=h
 have f5:=(hk 0 129 rfl).ret l1 q4 rfl rfl
 try dsimp only at f5
 have e6:ecall O [] 129 [.pv (.slice (List.map Attr.pv l1)),.fn 130 []]=some (retAV [.pv (.bool r3)],[]):=ecall_eq rfl rfl rfl f5 rfl rfl rfl
 apply AW.rg hS [2]
 ·exact di1 (an pf_129 e6)
 refine AW.ret ?_
 cases h
 exact fin
set_option maxHeartbeats 4000000 in
theorem g_F19(c:AllG env [SL_SContains,(S60 F60),(S61 F61)]):GoodH env (S19 F19):=by
 obtain⟨O,X,hS,hX,hpf,hk⟩:=orcs (pf:=pfn) c
 have pf_59:O.pf 59=true:=pft hpf 59 rfl
 have pf_60:O.pf 60=true:=pft hpf 60 rfl
 have pf_61:O.pf 61=true:=pft hpf 61 rfl
 refine GH (fn:=Tryz.f19) fn_19 rfl rfl 39 rfl [] rfl ?_
 rintro(m1:Plumb) (r:Int) h m em
 refine GHs rfl rfl em rfl rfl rfl ?_
 clear em m
 replace h:F19 m1=some r:=h
 rw[F19]at h
 refine AW.seq ?_
 apply AW.rg hS [1]
 ·exact di
 refine AW.seq ?_
 refine AW.seq ?_
 apply AW.rg hS [1,14,15,16]
 ·exact di
 refine AW.block ?_
 refine AW.lp (α:=Nat×Int) (fun(_,i3)=>⟨sl [(1,.ref 0 0),(14,.full (List.map PV.str [m1.src_,m1.dst_,m1.dir_,m1.type_])),(15,.pv (.int .i64 ([m1.src_,m1.dst_,m1.dir_,m1.type_].length:Int))),(16,.pv (.int .i64 i3))],39,[.var [.pv (.str m1.src_),.pv (.str m1.dst_),.pv (.str m1.dir_),.pv (.str m1.type_),.pv (.slice (List.map Attr.pv m1.attrs_)),.pv (.str m1.data_)]]⟩) (fun x=>iter (F19_b1 m1) x.1 x.2=some r) (fun x=>x.1) (BIG,0) (Weak.slots kp) h ?_
 clear h
 intro⟨n25,i3⟩ h
 replace h:=iter_some h;obtain⟨m6,rfl,h⟩:=h
 rw[F19_b1]at h
 try dsimp only at h
 refine AW.st ?_
 refine AW.seq ?_
 apply AW.rg hS [1,14,15,16,17]
 ·exact di
 refine AW.seq ?_
 refine AW.iff_ h rfl rfl (fun hb7 h=>?_) (fun hb7 h=>?_)
 ·refine AW.skip ?_
  refine AW.seq ?_
  refine AW.block ?_
  refine AW.seq ?_
  replace h:=obs h;obtain⟨w8,q9,h⟩:=h
  have f10:=lidx_f q9
  have f10m:(List.map PV.str [m1.src_,m1.dst_,m1.dir_,m1.type_])[Int.toNat i3]?=some (PV.str w8):=by rw[List.getElem?_map,f10.2.1];rfl
  try simp only[List.map_cons,List.map_nil]at f10m
  apply AW.rg hS [1,4,14,15,16]
  ·exact di1 (an f10.1 (an f10.2.1 f10m))
  refine AW.seq ?_
  refine AW.seq ?_
  apply AW.rg hS [1,4,14,15,16,22]
  ·exact di
  refine AW.iff_ h rfl rfl (fun hb11 h=>?_) (fun hb11 h=>?_)
  ·refine AW.seq ?_
   apply AW.rg hS [2]
   ·exact di
   refine AW.ret ?_
   cases h
   exact fin
  refine AW.skip ?_
  refine AW.seq ?_
  replace h:=obs h;obtain⟨ok12,q13,h⟩:=h
  have f14:=(hk 0 59 rfl).ret (w8,([10]:Str)) q13 rfl rfl
  try dsimp only at f14
  try simp only[List.map_cons,List.map_nil,oPV_none,oPV_some,Attr.pv_eq,P22_eq,Plumb.pv_eq,Token.pv_eq,P50_eq,Redir.pv_eq,P51_eq,Cmd.pv_eq,P46_eq,Word.pv_eq,P54_eq,Var.pv_eq,P324_eq,GEnv.pv_eq,GValue.pv_eq,P59_eq,Qid.pv_eq,P66_eq,Dir.pv_eq,Msg.pv_eq,Call.pv_eq,P60_eq,Client.pv_eq,S274.pv_eq,S276.pv_eq,P81_eq,Port.pv_eq,Pattern.pv_eq,P153_eq,Rule.pv_eq,P29_eq,P30_eq,Plumber.pv_eq]at f14
  apply AW.rg hS [1,14,15,16,24]
  ·exact di1 (an pf_59 f14)
  refine AW.iff_ h rfl rfl (fun hb15 h=>?_) (fun hb15 h=>?_)
  ·refine AW.seq ?_
   apply AW.rg hS [2]
   ·exact di
   refine AW.ret ?_
   cases h
   exact fin
  refine AW.skip ?_
  apply AW.rg hS [1,14,15,16]
  ·exact di
  exact⟨(m6,IntKind.wrap .i64 (i3+1)),h,(Weak.norm (m:=1) (Nat.le_of_ble_eq_true rfl) kp hq rfl rfl),Nat.lt_succ_self _⟩
 refine AW.exit ?_
 refine AW.seq ?_
 refine AW.seq ?_
 replace h:=obs h;obtain⟨r16,q17,h⟩:=h
 have f18:=(hk 1 60 rfl).ret m1.attrs_ q17 rfl rfl
 try dsimp only at f18
 apply AW.rg hS [1,5]
 ·exact di1 (an pf_60 f18)
 refine AW.seq ?_
 apply AW.rg hS [1,5,30]
 ·exact di
 refine AW.iff_ h rfl rfl (fun hb19 h=>?_) (fun hb19 h=>?_)
 ·refine AW.seq ?_
  apply AW.rg hS [2]
  ·exact di
  refine AW.ret ?_
  cases h
  exact fin
 refine AW.skip ?_
 refine AW.seq ?_
 refine AW.seq ?_
 replace h:=obs h;obtain⟨r20,q21,h⟩:=h
 have f22:=(hk 2 61 rfl).ret m1.attrs_ q21 rfl rfl
 try dsimp only at f22
 apply AW.rg hS [1,34]
 ·exact di1 (an pf_61 f22)
 refine AW.iff_ h rfl rfl (fun hb23 h=>?_) (fun hb23 h=>?_)
 ·refine AW.seq ?_
  apply AW.rg hS [2]
  ·exact di
  refine AW.ret ?_
  cases h
  exact fin
 refine AW.skip ?_
 refine AW.seq ?_
 refine AW.seq ?_
 apply AW.rg hS [38]
 ·exact di
 refine AW.iff_ h rfl rfl (fun hb24 h=>?_) (fun hb24 h=>?_)
 ·refine AW.seq ?_
  apply AW.rg hS [2]
  ·exact di
  refine AW.ret ?_
  cases h
  exact fin
 refine AW.skip ?_
 refine AW.seq ?_
 apply AW.rg hS [2]
 ·exact di
 refine AW.ret ?_
 cases h
 exact fin
set_option maxHeartbeats 4000000 in
theorem g_F62(c:AllG env [(S131 F131),SL_ReplaceAll]):GoodH env (S62 F62):=by
 obtain⟨O,X,hS,hX,hpf,hk⟩:=orcs (pf:=pfn) c
 have pf_44:O.pf 44=true:=pft hpf 44 rfl
 have pf_131:O.pf 131=true:=pft hpf 131 rfl
 refine GH (fn:=Tryz.f62) fn_62 rfl rfl 17 rfl [] rfl ?_
 rintro(s1:Str) (r:Str) h m em
 refine GHs rfl rfl em rfl rfl rfl ?_
 clear em m
 replace h:F62 s1=some r:=h
 rw[F62]at h
 refine AW.seq ?_
 apply AW.rg hS [0]
 ·exact di
 refine AW.seq ?_
 refine AW.seq ?_
 replace h:=obs h;obtain⟨r3,q4,h⟩:=h
 replace q4:=guardO_t q4
 have f5:=fun hg=>(hk 0 131 rfl).ret (s1,([32,9,39]:Str)) (q4 hg) rfl rfl
 try dsimp only at f5
 try simp only[List.map_cons,List.map_nil,oPV_none,oPV_some,Attr.pv_eq,P22_eq,Plumb.pv_eq,Token.pv_eq,P50_eq,Redir.pv_eq,P51_eq,Cmd.pv_eq,P46_eq,Word.pv_eq,P54_eq,Var.pv_eq,P324_eq,GEnv.pv_eq,GValue.pv_eq,P59_eq,Qid.pv_eq,P66_eq,Dir.pv_eq,Msg.pv_eq,Call.pv_eq,P60_eq,Client.pv_eq,S274.pv_eq,S276.pv_eq,P81_eq,Port.pv_eq,Pattern.pv_eq,P153_eq,Rule.pv_eq,P29_eq,P30_eq,Plumber.pv_eq]at f5
 refine AW.reg hS [(0,.pv (.str s1)),(11,.pv (.bool (!decide (s1=[])&&decide (r3=(s1.length:Int)))))] [] ?_ ?_
 ·clear h hk hpf hS hX c
  exact dh1 (an pf_131 f5)
 refine AW.iff_ h rfl rfl (fun hb6 h=>?_) (fun hb6 h=>?_)
 ·refine AW.seq ?_
  apply AW.rg hS [2]
  ·exact di
  refine AW.ret ?_
  cases h
  exact fin
 refine AW.skip ?_
 refine AW.seq ?_
 replace h:=obs h;obtain⟨t7,q8,h⟩:=h
 have f9:=(hk 1 44 rfl).ret (s1,([39]:Str),([39,39]:Str)) q8 rfl rfl
 try dsimp only at f9
 try simp only[List.map_cons,List.map_nil,oPV_none,oPV_some,Attr.pv_eq,P22_eq,Plumb.pv_eq,Token.pv_eq,P50_eq,Redir.pv_eq,P51_eq,Cmd.pv_eq,P46_eq,Word.pv_eq,P54_eq,Var.pv_eq,P324_eq,GEnv.pv_eq,GValue.pv_eq,P59_eq,Qid.pv_eq,P66_eq,Dir.pv_eq,Msg.pv_eq,Call.pv_eq,P60_eq,Client.pv_eq,S274.pv_eq,S276.pv_eq,P81_eq,Port.pv_eq,Pattern.pv_eq,P153_eq,Rule.pv_eq,P29_eq,P30_eq,Plumber.pv_eq]at f9
 replace h:=obs h;obtain⟨s10,q11,h⟩:=h
 have f12:=catO_f q11
 try simp only[List.length_cons,List.length_nil,List.length_replicate,Nat.zero_add,Nat.reduceAdd,Nat.reduceLeDiff,Nat.add_zero,Nat.reduceMul]at f12
 replace h:=obs h;obtain⟨s13,q14,h⟩:=h
 have f15:=catO_f q14
 try simp only[List.length_cons,List.length_nil,List.length_replicate,Nat.zero_add,Nat.reduceAdd,Nat.reduceLeDiff,Nat.add_zero,Nat.reduceMul]at f15
 apply AW.rg hS [2]
 ·exact di1 (an pf_44 (an f9 (an f12.1 (an f12.2 (an f15.1 f15.2)))))
 refine AW.ret ?_
 cases h
 exact fin
set_option maxHeartbeats 4000000 in
theorem g_F20(c:AllG env [(S60 F60),(S62 F62),SL_Join]):GoodH env (S20 F20):=by
 obtain⟨O,X,hS,hX,hpf,hk⟩:=orcs (pf:=pfn) c
 have pf_21:O.pf 21=true:=pft hpf 21 rfl
 have pf_60:O.pf 60=true:=pft hpf 60 rfl
 have pf_62:O.pf 62=true:=pft hpf 62 rfl
 refine GH (fn:=Tryz.f20) fn_20 rfl rfl 43 rfl [] rfl ?_
 rintro(l1:(List Attr)) (r:Str×Int) h m em
 refine GHs rfl rfl em rfl rfl rfl ?_
 clear em m
 replace h:F20 l1=some r:=h
 rw[F20]at h
 refine AW.seq ?_
 apply AW.rg hS [0]
 ·exact di
 refine AW.seq ?_
 refine AW.seq ?_
 replace h:=obs h;obtain⟨r4,q5,h⟩:=h
 have f6:=(hk 0 60 rfl).ret l1 q5 rfl rfl
 try dsimp only at f6
 apply AW.rg hS [0,4]
 ·exact di1 (an pf_60 f6)
 refine AW.seq ?_
 apply AW.rg hS [0,11]
 ·exact di
 refine AW.iff_ h rfl rfl (fun hb7 h=>?_) (fun hb7 h=>?_)
 ·cases h
 refine AW.skip ?_
 refine AW.seq ?_
 replace h:=obs h;obtain⟨u8,q9,h⟩:=h
 have f10:=mkO_f q9
 have f10m:=emakeSlice_0 (H:=[]) (k1:=.i64) (k2:=.i64) T_54 T_9 rfl rfl (of_eq_true f10.1) (of_eq_true f10.2) (by decide) (by decide)
 refine AW.reg hS [(0,.pv (.slice (List.map Attr.pv l1))),(5,.vec 0 (List.length ([]:List Str)))] [.row 9 1 (List.map PV.str ([]:List Str)) false] ?_ ?_
 ·simp -implicitDefEqProofs only[RUNS,qindex,Nat.reduceAdd,Nat.reduceLeDiff,Nat.reduceSub,reduceIte,Nat.reduceEqDiff,Nat.reduceLT,reduceCtorEq,Nat.reduceMul,Nat.reduceBEq,Int.reduceEq,Int.reduceToNat,Int.toNat_zero,Nat.sub_zero,if_true,if_false,eq_self,ne_eq,TYS,f10m,List.length_nil,List.map_nil]<;>(try simp only[List.length_take,List.length_drop,List.length_map])
 refine AW.seq ?_
 refine AW.seq ?_
 apply AW.rg hS [5,16,17,18]
 ·exact di
 refine AW.block ?_
 refine AW.lp (α:=Nat×Int×(List Str)) (fun(_,i11,l12)=>⟨sl [(5,.vec 0 (List.length l12)),(16,.pv (.slice (List.map Attr.pv l1))),(17,.pv (.int .i64 (l1.length:Int))),(18,.pv (.int .i64 i11))],43,[.row 9 1 (List.map PV.str l12) false]⟩) (fun x=>iter (F20_b1 l1) x.1 x.2=some r) (fun x=>x.1) (BIG,(0,([]:List Str))) (Weak.slots kp) h ?_
 clear h
 intro⟨n36,i11,l12⟩ h
 replace h:=iter_some h;obtain⟨m15,rfl,h⟩:=h
 rw[F20_b1]at h
 try dsimp only at h
 refine AW.st ?_
 refine AW.seq ?_
 apply AW.rg hS [5,16,17,18,19]
 ·exact di
 refine AW.seq ?_
 refine AW.iff_ h rfl rfl (fun hb16 h=>?_) (fun hb16 h=>?_)
 ·refine AW.skip ?_
  refine AW.seq ?_
  refine AW.block ?_
  refine AW.seq ?_
  replace h:=obs h;obtain⟨u17,q18,h⟩:=h
  have f19:=lidx_f q18
  apply AW.rg hS [5,7,16,17,18]
  ·exact di1 (an f19.1 f19.2.1)
  refine AW.seq ?_
  apply AW.rg hS [5,7,16,17,18,23]
  ·exact di
  refine AW.iff_ h rfl rfl (fun hb20 h=>?_) (fun hb20 h=>?_)
  ·cases h
  replace h:=obs h;obtain⟨s21,q22,h⟩:=h
  have f23:=catO_f q22
  try simp only[List.length_cons,List.length_nil,List.length_replicate,Nat.zero_add,Nat.reduceAdd,Nat.reduceLeDiff,Nat.add_zero,Nat.reduceMul]at f23
  replace h:=obs h;obtain⟨r24,q25,h⟩:=h
  have f26:=(hk 1 62 rfl).ret u17.value_ q25 rfl rfl
  try dsimp only at f26
  replace h:=obs h;obtain⟨s27,q28,h⟩:=h
  have f29:=catO_f q28
  try simp only[List.length_cons,List.length_nil,List.length_replicate,Nat.zero_add,Nat.reduceAdd,Nat.reduceLeDiff,Nat.add_zero,Nat.reduceMul]at f29
  replace h:=obs h;obtain⟨out30,q31,h⟩:=h
  have f32:=appO_f q31
  try simp only[List.length_cons,List.length_nil,List.length_replicate,Nat.zero_add,Nat.reduceAdd,Nat.reduceLeDiff,Nat.add_zero,Nat.reduceMul]at f32
  have f32m:=appO_m PV.str q31
  try simp only[List.map_cons,List.map_nil,List.nil_append,oPV_none,oPV_some,Attr.pv_eq,P22_eq,Plumb.pv_eq,Token.pv_eq,P50_eq,Redir.pv_eq,P51_eq,Cmd.pv_eq,P46_eq,Word.pv_eq,P54_eq,Var.pv_eq,P324_eq,GEnv.pv_eq,GValue.pv_eq,P59_eq,Qid.pv_eq,P66_eq,Dir.pv_eq,Msg.pv_eq,Call.pv_eq,P60_eq,Client.pv_eq,S274.pv_eq,S276.pv_eq,P81_eq,Port.pv_eq,Pattern.pv_eq,P153_eq,Rule.pv_eq,P29_eq,P30_eq,Plumber.pv_eq]at f32m
  have f32n:=appO_n q31
  try simp only[List.length_cons,List.length_nil,Nat.zero_add]at f32n
  refine AW.dreg mixed hS (ordp hpf (by kernel_rfl)) [(5,.vec 0 (List.length out30)),(16,.pv (.slice (List.map Attr.pv l1))),(17,.pv (.int .i64 (l1.length:Int))),(18,.pv (.int .i64 i11))] [.row 9 1 (List.map PV.str out30) false,.var [.pv (.str u17.name_),.pv (.str u17.value_),.pv (.bool u17.query_)]] ?_ ?_
  ·exact dk1 (an f23.1 (an f23.2 (an pf_62 (an f26 (an f29.1 (an f29.2 (an f32.1 (an f32m f32n))))))))
  clear f32
  clear f32m
  clear f32n
  apply AW.rg hS [5,16,17,18]
  ·exact di
  exact⟨(m15,(IntKind.wrap .i64 (i11+1),out30)),h,(Weak.norm (m:=1) (Nat.le_of_ble_eq_true rfl) kp hq rfl rfl),Nat.lt_succ_self _⟩
 refine AW.exit ?_
 refine AW.seq ?_
 refine AW.weak (Weak.freeze 0 rfl) ?_
 refine AW.weak (σ':=⟨sl [(5,.vec 0 (List.length l12)),(16,.pv (.slice (List.map Attr.pv l1))),(17,.pv (.int .i64 (l1.length:Int))),(18,.pv (.int .i64 i11)),(19,.pv (.bool (decide (i11<(l1.length:Int)))))],43,[.row 9 1 (List.map PV.str l12) true]⟩) (Weak.of_eq (Weak.slots (L:=[(5,.vec 0 (List.length l12)),(16,.pv (.slice (List.map Attr.pv l1))),(17,.pv (.int .i64 (l1.length:Int))),(18,.pv (.int .i64 i11)),(19,.pv (.bool (decide (i11<(l1.length:Int)))))]) kp) (by first|rfl|(simp only[List.length_set,List.length_map];rfl))) ?_
 replace h:=obs h;obtain⟨s33,q34,h⟩:=h
 have f35:=(hk 2 21 rfl).ret (l12,([32]:Str)) q34 rfl rfl
 try dsimp only at f35
 try simp only[List.map_cons,List.map_nil,oPV_none,oPV_some,Attr.pv_eq,P22_eq,Plumb.pv_eq,Token.pv_eq,P50_eq,Redir.pv_eq,P51_eq,Cmd.pv_eq,P46_eq,Word.pv_eq,P54_eq,Var.pv_eq,P324_eq,GEnv.pv_eq,GValue.pv_eq,P59_eq,Qid.pv_eq,P66_eq,Dir.pv_eq,Msg.pv_eq,Call.pv_eq,P60_eq,Client.pv_eq,S274.pv_eq,S276.pv_eq,P81_eq,Port.pv_eq,Pattern.pv_eq,P153_eq,Rule.pv_eq,P29_eq,P30_eq,Plumber.pv_eq]at f35
 apply AW.rg hS [2,3]
 ·exact di1 (an pf_21 f35)
 refine AW.ret ?_
 cases h
 exact fin
set_option maxHeartbeats 4000000 in
theorem g_F66(c:AllG env []):GoodH env (S66 F66):=by
 obtain⟨O,X,hS,hX,hpf,hk⟩:=orcs (pf:=pfn) c
 refine GH (fn:=Tryz.f66) fn_66 rfl rfl 13 rfl [] rfl ?_
 rintro(base1:Int) (r:Bool) h m em
 refine GHs rfl rfl em rfl rfl rfl ?_
 clear em m
 replace h:F66 base1=some r:=h
 rw[F66]at h
 refine AW.seq ?_
 apply AW.rg hS [0]
 ·exact di
 refine AW.seq ?_
 refine AW.reg hS [(2,.pv (.bool ((decide (base1=8)||decide (base1=10))||decide (base1=16))))] [] ?_ ?_
 ·clear h hk hpf hS hX c
  exact dh
 refine AW.ret ?_
 cases h
 exact fin
set_option maxHeartbeats 4000000 in
theorem g_F67(c:AllG env [SL_FormatInt]):GoodH env (S67 F67):=by
 obtain⟨O,X,hS,hX,hpf,hk⟩:=orcs (pf:=pfn) c
 have pf_134:O.pf 134=true:=pft hpf 134 rfl
 refine GH (fn:=Tryz.f67) fn_67 rfl rfl 8 rfl [] rfl ?_
 rintro(⟨i1,base2⟩:Int×Int) (r:Str) h m em
 refine GHs rfl rfl em rfl rfl rfl ?_
 clear em m
 replace h:F67 i1 base2=some r:=h
 rw[F67]at h
 refine AW.seq ?_
 apply AW.rg hS [0,1]
 ·exact di
 refine AW.seq ?_
 replace h:=obs h;obtain⟨s4,q5,h⟩:=h
 have f6:=(hk 0 134 rfl).ret (i1,base2) q5 rfl rfl
 try dsimp only at f6
 apply AW.rg hS [4]
 ·exact di1 (an pf_134 f6)
 refine AW.ret ?_
 cases h
 exact fin
set_option maxHeartbeats 4000000 in
theorem g_F22(c:AllG env [(S66 F66),(S67 F67)]):GoodH env (S22 F22):=by
 obtain⟨O,X,hS,hX,hpf,hk⟩:=orcs (pf:=pfn) c
 have pf_66:O.pf 66=true:=pft hpf 66 rfl
 have pf_67:O.pf 67=true:=pft hpf 67 rfl
 refine GH (fn:=Tryz.f22) fn_22 rfl rfl 11 rfl [] rfl ?_
 rintro(⟨n1,base2⟩:Int×Int) (r:Str) h m em
 refine GHs rfl rfl em rfl rfl rfl ?_
 clear em m
 replace h:F22 n1 base2=some r:=h
 rw[F22]at h
 refine AW.seq ?_
 apply AW.rg hS [0,1]
 ·exact di
 refine AW.seq ?_
 refine AW.seq ?_
 replace h:=obs h;obtain⟨r4,q5,h⟩:=h
 have f6:=(hk 0 66 rfl).ret base2 q5 rfl rfl
 try dsimp only at f6
 apply AW.rg hS [0,1,7]
 ·exact di1 (an pf_66 f6)
 refine AW.iff_ h rfl rfl (fun hb7 h=>?_) (fun hb7 h=>?_)
 ·cases h
 refine AW.skip ?_
 refine AW.seq ?_
 replace h:=obs h;obtain⟨r8,q9,h⟩:=h
 have f10:=(hk 1 67 rfl).ret (n1,base2) q9 rfl rfl
 try dsimp only at f10
 apply AW.rg hS [4]
 ·exact di1 (an pf_67 f10)
 refine AW.ret ?_
 cases h
 exact fin
set_option maxHeartbeats 4000000 in
theorem g_F5(c:AllG env [(S19 F19),(S20 F20),(S22 F22),SL_Join]):GoodH env (S5 F5):=by
 obtain⟨O,X,hS,hX,hpf,hk⟩:=orcs (pf:=pfn) c
 have pf_19:O.pf 19=true:=pft hpf 19 rfl
 have pf_20:O.pf 20=true:=pft hpf 20 rfl
 have pf_21:O.pf 21=true:=pft hpf 21 rfl
 have pf_22:O.pf 22=true:=pft hpf 22 rfl
 refine GH (fn:=Tryz.f5) fn_5 rfl rfl 38 rfl [] rfl ?_
 rintro(m1:Plumb) (r:Str×Int) h m em
 refine GHs rfl rfl em rfl rfl rfl ?_
 clear em m
 replace h:F5 m1=some r:=h
 rw[F5]at h
 refine AW.seq ?_
 apply AW.rg hS [1]
 ·exact di
 refine AW.seq ?_
 refine AW.seq ?_
 replace h:=obs h;obtain⟨r4,q5,h⟩:=h
 have f6:=(hk 0 19 rfl).ret m1 q5 rfl rfl
 try dsimp only at f6
 apply AW.rg hS [1,4]
 ·exact di1 (an pf_19 f6)
 refine AW.seq ?_
 apply AW.rg hS [1,4,10]
 ·exact di
 refine AW.iff_ h rfl rfl (fun hb7 h=>?_) (fun hb7 h=>?_)
 ·refine AW.seq ?_
  apply AW.rg hS [2,3]
  ·exact di
  refine AW.ret ?_
  cases h
  exact fin
 refine AW.skip ?_
 refine AW.seq ?_
 replace h:=obs h;obtain⟨⟨r8,r9⟩,q10,h⟩:=h
 dsimp only at h
 have f11:=(hk 1 20 rfl).ret m1.attrs_ q10 rfl rfl
 try dsimp only at f11
 apply AW.rg hS [1,5,6]
 ·exact di1 (an pf_20 f11)
 refine AW.seq ?_
 refine AW.seq ?_
 apply AW.rg hS [1,5,19]
 ·exact di
 refine AW.iff_ h rfl rfl (fun hb12 h=>?_) (fun hb12 h=>?_)
 ·cases h
 refine AW.skip ?_
 refine AW.seq ?_
 replace h:=obs h;obtain⟨r13,q14,h⟩:=h
 have f15:=(hk 2 22 rfl).ret ((m1.data_.length:Int),10) q14 rfl rfl
 try dsimp only at f15
 replace h:=obs h;obtain⟨s16,q17,h⟩:=h
 have f18:=(hk 3 21 rfl).ret (([m1.src_,m1.dst_,m1.dir_,m1.type_,r8,r13,m1.data_]:List Str),([10]:Str)) q17 rfl rfl
 try dsimp only at f18
 try simp only[List.map_cons,List.map_nil,oPV_none,oPV_some,Attr.pv_eq,P22_eq,Plumb.pv_eq,Token.pv_eq,P50_eq,Redir.pv_eq,P51_eq,Cmd.pv_eq,P46_eq,Word.pv_eq,P54_eq,Var.pv_eq,P324_eq,GEnv.pv_eq,GValue.pv_eq,P59_eq,Qid.pv_eq,P66_eq,Dir.pv_eq,Msg.pv_eq,Call.pv_eq,P60_eq,Client.pv_eq,S274.pv_eq,S276.pv_eq,P81_eq,Port.pv_eq,Pattern.pv_eq,P153_eq,Rule.pv_eq,P29_eq,P30_eq,Plumber.pv_eq]at f18
 apply AW.dgk mixed hS [2,3] (ordp hpf (by kernel_rfl))
 ·exact di1 (an pf_22 (an f15 (an pf_21 f18)))
 refine AW.ret ?_
 cases h
 exact fin
set_option maxHeartbeats 4000000 in
theorem g_F23(c:AllG env []):GoodH env (S23 F23):=by
 obtain⟨O,X,hS,hX,hpf,hk⟩:=orcs (pf:=pfn) c
 refine GH (fn:=Tryz.f23) fn_23 rfl rfl 61 rfl [] rfl ?_
 rintro(s1:Str) (r:Bool) h m em
 refine GHs rfl rfl em rfl rfl rfl ?_
 clear em m
 replace h:F23 s1=some r:=h
 rw[F23]at h
 refine AW.seq ?_
 apply AW.rg hS [0]
 ·exact di
 refine AW.seq ?_
 refine AW.seq ?_
 replace h:=obs h;obtain⟨c3,q4,h⟩:=h
 have f5:=sidx_g (guardO_t q4)
 try simp only[Int.toNat_natCast,Int.toNat_zero,Int.reduceToNat,Nat.sub_zero,List.drop_zero,List.length_map]at f5
 refine AW.reg hS [(0,.pv (.str s1)),(29,.pv (.bool (((((decide (s1=[])||decide (32<(s1.length:Int)))||decide (c3<97))||decide (122<c3))||decide (s1=[114,117,108,101,115]))||decide (s1=[115,101,110,100]))))] [] ?_ ?_
 ·clear h hk hpf hS hX c
  exact dh1 (an f5.1 (an f5.2.1 f5.2.2))
 refine AW.iff_ h rfl rfl (fun hb6 h=>?_) (fun hb6 h=>?_)
 ·cases h
 refine AW.skip ?_
 refine AW.seq ?_
 refine AW.seq ?_
 apply AW.rg hS [0,31,32]
 ·exact di
 refine AW.block ?_
 refine AW.lp (α:=Nat×Int) (fun(_,i7)=>⟨sl [(0,.pv (.str s1)),(31,.pv (.int .i64 (s1.length:Int))),(32,.pv (.int .i64 i7))],61,[]⟩) (fun x=>iter (F23_b1 s1) x.1 x.2=some r) (fun x=>x.1) (BIG,0) (Weak.slots kp) h ?_
 clear h
 intro⟨n16,i7⟩ h
 replace h:=iter_some h;obtain⟨m10,rfl,h⟩:=h
 rw[F23_b1]at h
 try dsimp only at h
 refine AW.st ?_
 refine AW.seq ?_
 apply AW.rg hS [0,31,32,33]
 ·exact di
 refine AW.seq ?_
 refine AW.iff_ h rfl rfl (fun hb11 h=>?_) (fun hb11 h=>?_)
 ·refine AW.skip ?_
  refine AW.seq ?_
  refine AW.block ?_
  refine AW.seq ?_
  apply AW.rg hS [0,3,31,32]
  ·exact di
  refine AW.seq ?_
  replace h:=obs h;obtain⟨c12,q13,h⟩:=h
  have f14:=sidx_f q13
  apply AW.rg hS [0,4,31,32]
  ·exact di1 (an f14.1 (an f14.2.1 f14.2.2))
  refine AW.seq ?_
  refine AW.reg hS [(0,.pv (.str s1)),(31,.pv (.int .i64 (s1.length:Int))),(32,.pv (.int .i64 i7)),(59,.pv (.bool ((((decide (c12<97)||decide (122<c12))&&(decide (c12<48)||decide (57<c12)))&&!decide (c12=45))&&!decide (c12=95))))] [] ?_ ?_
  ·clear h hk hpf hS hX c
   exact dh
  refine AW.iff_ h rfl rfl (fun hb15 h=>?_) (fun hb15 h=>?_)
  ·cases h
  refine AW.skip ?_
  apply AW.rg hS [0,31,32]
  ·exact di
  exact⟨(m10,IntKind.wrap .i64 (i7+1)),h,(Weak.norm (m:=0) (Nat.le_of_ble_eq_true rfl) kp hq rfl rfl),Nat.lt_succ_self _⟩
 refine AW.exit ?_
 refine AW.seq ?_
 apply AW.rg hS [2]
 ·exact di
 refine AW.ret ?_
 cases h
 exact fin
set_option maxHeartbeats 4000000 in
theorem g_F68(c:AllG env []):GoodH env (S68 F68):=by
 obtain⟨O,X,hS,hX,hpf,hk⟩:=orcs (pf:=pfn) c
 refine GH (fn:=Tryz.f68) fn_68 rfl rfl 19 rfl [] rfl ?_
 rintro(⟨s1,v2⟩:(List Str)×Str) (r:Int) h m em
 refine GHs rfl rfl em rfl rfl rfl ?_
 clear em m
 replace h:F68 s1 v2=some r:=h
 rw[F68]at h
 refine AW.seq ?_
 apply AW.rg hS [0,1]
 ·exact di
 refine AW.seq ?_
 refine AW.seq ?_
 apply AW.rg hS [0,1,7,8]
 ·exact di
 refine AW.block ?_
 refine AW.lp (α:=Nat×Int) (fun(_,i4)=>⟨sl [(0,.pv (.slice (List.map PV.str s1))),(1,.pv (.str v2)),(7,.pv (.int .i64 (s1.length:Int))),(8,.pv (.int .i64 i4))],19,[]⟩) (fun x=>iter (F68_b1 s1 v2) x.1 x.2=some r) (fun x=>x.1) (BIG,0) (Weak.slots kp) h ?_
 clear h
 intro⟨n13,i4⟩ h
 replace h:=iter_some h;obtain⟨m7,rfl,h⟩:=h
 rw[F68_b1]at h
 try dsimp only at h
 refine AW.st ?_
 refine AW.seq ?_
 apply AW.rg hS [0,1,7,8,9]
 ·exact di
 refine AW.seq ?_
 refine AW.iff_ h rfl rfl (fun hb8 h=>?_) (fun hb8 h=>?_)
 ·refine AW.skip ?_
  refine AW.seq ?_
  refine AW.block ?_
  refine AW.seq ?_
  apply AW.rg hS [0,1,5,7,8]
  ·exact di
  refine AW.seq ?_
  replace h:=obs h;obtain⟨w9,q10,h⟩:=h
  have f11:=lidx_f q10
  apply AW.rg hS [0,1,7,8,16]
  ·exact di1 (an f11.1 f11.2.1)
  refine AW.iff_ h rfl rfl (fun hb12 h=>?_) (fun hb12 h=>?_)
  ·cases h
  refine AW.skip ?_
  apply AW.rg hS [0,1,7,8]
  ·exact di
  exact⟨(m7,IntKind.wrap .i64 (i4+1)),h,(Weak.norm (m:=0) (Nat.le_of_ble_eq_true rfl) kp hq rfl rfl),Nat.lt_succ_self _⟩
 refine AW.exit ?_
 refine AW.seq ?_
 apply AW.rg hS [4]
 ·exact di
 refine AW.ret ?_
 cases h
 exact fin
set_option maxHeartbeats 4000000 in
theorem g_F24(c:AllG env [(S68 F68)]):GoodH env (S24 F24):=by
 obtain⟨O,X,hS,hX,hpf,hk⟩:=orcs (pf:=pfn) c
 have pf_68:O.pf 68=true:=pft hpf 68 rfl
 refine GH (fn:=Tryz.f24) fn_24 rfl rfl 9 rfl [] rfl ?_
 rintro(⟨s1,v2⟩:(List Str)×Str) (r:Bool) h m em
 refine GHs rfl rfl em rfl rfl rfl ?_
 clear em m
 replace h:F24 s1 v2=some r:=h
 rw[F24]at h
 refine AW.seq ?_
 apply AW.rg hS [0,1]
 ·exact di
 refine AW.seq ?_
 replace h:=obs h;obtain⟨r4,q5,h⟩:=h
 have f6:=(hk 0 68 rfl).ret (s1,v2) q5 rfl rfl
 try dsimp only at f6
 apply AW.rg hS [4]
 ·exact di1 (an pf_68 f6)
 refine AW.ret ?_
 cases h
 exact fin
set_option maxHeartbeats 4000000 in
theorem g_F70(c:AllG env [SL_Len64]):GoodH env (S70 F70):=by
 obtain⟨O,X,hS,hX,hpf,hk⟩:=orcs (pf:=pfn) c
 have pf_144:O.pf 144=true:=pft hpf 144 rfl
 refine GH (fn:=Tryz.f70) fn_70 rfl rfl 8 rfl [] rfl ?_
 rintro(x1:Int) (r:Int) h m em
 refine GHs rfl rfl em rfl rfl rfl ?_
 clear em m
 replace h:F70 x1=some r:=h
 rw[F70]at h
 refine AW.seq ?_
 apply AW.rg hS [0]
 ·exact di
 refine AW.seq ?_
 refine AW.cond (b:=false) rfl (fun hb=>absurd hb (by decide)) (fun _=>?_)
 refine AW.skip ?_
 refine AW.seq ?_
 replace h:=obs h;obtain⟨n4,q5,h⟩:=h
 have f6:=(hk 0 144 rfl).ret x1 q5 rfl rfl
 try dsimp only at f6
 apply AW.rg hS [2]
 ·exact di1 (an pf_144 f6)
 refine AW.ret ?_
 cases h
 exact fin
end Go.Abs.U54
