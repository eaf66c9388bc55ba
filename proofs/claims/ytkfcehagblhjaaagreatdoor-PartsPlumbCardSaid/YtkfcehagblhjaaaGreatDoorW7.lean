import Derived.Test.YtkfcehagblhjaaaGreatDoorD1
set_option linter.unusedVariables false
set_option linter.unusedSimpArgs false
set_option linter.defProp false
set_option maxRecDepth 8000
namespace Go.Abs.U54
open Go.RowKit Go.Proofs
set_option maxHeartbeats 4000000 in
theorem g_F11(c:AllG env [SL_SplitN,(S37 F37),(S38 F38),(S19 F19)]):GoodH env (S11 F11):=by
 obtain⟨O,X,hS,hX,hpf,hk⟩:=orcs (pf:=pfn) c
 have pf_19:O.pf 19=true:=pft hpf 19 rfl
 have pf_36:O.pf 36=true:=pft hpf 36 rfl
 have pf_37:O.pf 37=true:=pft hpf 37 rfl
 have pf_38:O.pf 38=true:=pft hpf 38 rfl
 refine GH (fn:=Tryz.f11) fn_11 rfl rfl 81 rfl [] rfl ?_
 rintro(s1:Str) (r:Plumb×Int) h m em
 refine GHs rfl rfl em rfl rfl rfl ?_
 clear em m
 replace h:F11 s1=some r:=h
 rw[F11]at h
 refine AW.seq ?_
 apply AW.rg hS [0,2]
 ·exact di
 refine AW.seq ?_
 replace h:=obs h;obtain⟨l4,q5,h⟩:=h
 have f6:=(hk 0 36 rfl).ret (s1,([10]:Str),7) q5 rfl rfl
 try dsimp only at f6
 try simp only[List.map_cons,List.map_nil,oPV_none,oPV_some,Attr.pv_eq,P22_eq,Plumb.pv_eq,Token.pv_eq,P50_eq,Redir.pv_eq,P51_eq,Cmd.pv_eq,P46_eq,Word.pv_eq,P54_eq,Var.pv_eq,P324_eq,GEnv.pv_eq,GValue.pv_eq,P59_eq,Qid.pv_eq,P66_eq,Dir.pv_eq,Msg.pv_eq,Call.pv_eq,P60_eq,Client.pv_eq,S274.pv_eq,S276.pv_eq,P81_eq,Port.pv_eq,Pattern.pv_eq,P153_eq,Rule.pv_eq,P29_eq,P30_eq,Plumber.pv_eq]at f6
 apply AW.rg hS [2,4]
 ·exact di1 (an pf_36 f6)
 refine AW.seq ?_
 refine AW.seq ?_
 apply AW.rg hS [2,4,15]
 ·exact di
 refine AW.iff_ h rfl rfl (fun hb7 h=>?_) (fun hb7 h=>?_)
 ·cases h
 refine AW.skip ?_
 refine AW.seq ?_
 replace h:=obs h;obtain⟨w8,q9,h⟩:=h
 have f10:=lidx_f q9
 try simp only[Int.toNat_natCast,Int.toNat_zero,Int.reduceToNat,Nat.sub_zero,List.drop_zero,List.length_map]at f10
 replace h:=obs h;obtain⟨⟨r11,r12,r13⟩,q14,h⟩:=h
 dsimp only at h
 have f15:=(hk 1 37 rfl).ret w8 q14 rfl rfl
 try dsimp only at f15
 apply AW.rg hS [2,4,5,7]
 ·exact di1 (an f10.1 (an f10.2.1 (an pf_37 f15)))
 refine AW.seq ?_
 refine AW.seq ?_
 apply AW.rg hS [2,4,5,26]
 ·exact di
 refine AW.iff_ h rfl rfl (fun hb16 h=>?_) (fun hb16 h=>?_)
 ·cases h
 refine AW.skip ?_
 refine AW.seq ?_
 replace h:=obs h;obtain⟨w17,q18,h⟩:=h
 have f19:=lidx_f q18
 try simp only[Int.toNat_natCast,Int.toNat_zero,Int.reduceToNat,Nat.sub_zero,List.drop_zero,List.length_map]at f19
 replace h:=obs h;obtain⟨⟨r20,r21⟩,q22,h⟩:=h
 dsimp only at h
 have f23:=(hk 2 38 rfl).ret (w17,10,65536) q22 rfl rfl
 try dsimp only at f23
 apply AW.rg hS [2,4,5,7,8]
 ·exact di1 (an f19.1 (an f19.2.1 (an pf_38 f23)))
 refine AW.seq ?_
 refine AW.block ?_
 refine AW.seq ?_
 apply AW.rg hS [2,4,5,8,36]
 ·exact di
 refine AW.iff_ h rfl rfl (fun hb24 h=>?_) (fun hb24 h=>?_)
 ·cases h
 refine AW.seq ?_
 replace h:=obs h;obtain⟨w25,q26,h⟩:=h
 have f27:=lidx_f q26
 try simp only[Int.toNat_natCast,Int.toNat_zero,Int.reduceToNat,Nat.sub_zero,List.drop_zero,List.length_map]at f27
 apply AW.rg hS [2,4,5,8,41]
 ·exact di1 (an f27.1 f27.2.1)
 refine AW.iff_ h rfl rfl (fun hb28 h=>?_) (fun hb28 h=>?_)
 ·cases h
 refine AW.seq ?_
 apply AW.rg hS [2,4,5,49]
 ·exact di1 (an f27.1 f27.2.1)
 refine AW.iff_ h rfl rfl (fun hb29 h=>?_) (fun hb29 h=>?_)
 ·cases h
 refine AW.skip ?_
 refine AW.seq ?_
 replace h:=obs h;obtain⟨w30,q31,h⟩:=h
 have f32:=lidx_f q31
 try simp only[Int.toNat_natCast,Int.toNat_zero,Int.reduceToNat,Nat.sub_zero,List.drop_zero,List.length_map]at f32
 replace h:=obs h;obtain⟨w33,q34,h⟩:=h
 have f35:=lidx_f q34
 try simp only[Int.toNat_natCast,Int.toNat_zero,Int.reduceToNat,Nat.sub_zero,List.drop_zero,List.length_map]at f35
 replace h:=obs h;obtain⟨w36,q37,h⟩:=h
 have f38:=lidx_f q37
 try simp only[Int.toNat_natCast,Int.toNat_zero,Int.reduceToNat,Nat.sub_zero,List.drop_zero,List.length_map]at f38
 replace h:=obs h;obtain⟨w39,q40,h⟩:=h
 have f41:=lidx_f q40
 try simp only[Int.toNat_natCast,Int.toNat_zero,Int.reduceToNat,Nat.sub_zero,List.drop_zero,List.length_map]at f41
 apply AW.dgB mixed hS [(58,none),(61,none),(64,none),(67,none),(71,none)] [2,9] rfl (ordB hpf (B:=[(58,none),(61,none),(64,none),(67,none),(71,none)]) (by kernel_rfl))
 ·exact di1 (an f32.1 (an f32.2.1 (an f35.1 (an f35.2.1 (an f38.1 (an f38.2.1 (an f41.1 (an f41.2.1 (an f27.1 f27.2.1)))))))))
 refine AW.seq ?_
 refine AW.seq ?_
 replace h:=obs h;obtain⟨r42,q43,h⟩:=h
 have f44:=(hk 3 19 rfl).ret (Plumb.mk w30 w33 w36 w39 r11 w25) q43 rfl rfl
 try dsimp only at f44
 apply AW.rg hS [2,9,10]
 ·exact di1 (an pf_19 f44)
 refine AW.seq ?_
 apply AW.rg hS [2,9,77]
 ·exact di
 refine AW.iff_ h rfl rfl (fun hb45 h=>?_) (fun hb45 h=>?_)
 ·cases h
 refine AW.skip ?_
 refine AW.seq ?_
 apply AW.rg hS [2,3]
 ·exact di
 refine AW.ret ?_
 cases h
 exact fin
set_option maxHeartbeats 4000000 in
theorem g_F79(c:AllG env []):GoodH env (S79 F79):=by
 obtain⟨O,X,hS,hX,hpf,hk⟩:=orcs (pf:=pfn) c
 refine GH (fn:=Tryz.f79) fn_79 rfl rfl 30 rfl [] rfl ?_
 rintro(⟨l1,m2⟩:(List Rule)×Plumb) (r:Plumb×Str×Bool) h m em
 refine GHs rfl rfl em rfl rfl rfl ?_
 clear em m
 replace h:F79 l1 m2=some r:=h
 rw[F79]at h
 refine AW.seq ?_
 apply AW.rg hS [0,4]
 ·exact di
 refine AW.seq ?_
 refine AW.seq ?_
 apply AW.rg hS [4,13,14]
 ·exact di
 refine AW.block ?_
 refine AW.lp (α:=Nat×Unit) (fun(_,_)=>⟨sl [(4,.ref 1 0),(13,.pv (.int .i64 (l1.length:Int))),(14,.pv (.int .i64 0))],30,[.var [.pv (.str m2.src_),.pv (.str m2.dst_),.pv (.str m2.dir_),.pv (.str m2.type_),.pv (.slice (List.map Attr.pv m2.attrs_)),.pv (.str m2.data_)],.var [.pv (.str []),.pv (.str []),.pv (.str []),.pv (.str []),.nils,.pv (.str [])]]⟩) (fun x=>iter (F79_b1 l1) x.1 x.2=some r) (fun x=>x.1) (BIG,()) (Weak.slots kp) h ?_
 clear h
 intro⟨n10,_⟩ h
 replace h:=iter_some h;obtain⟨m8,rfl,h⟩:=h
 rw[F79_b1]at h
 try dsimp only at h
 refine AW.st ?_
 refine AW.seq ?_
 apply AW.rg hS [4,15]
 ·exact di
 refine AW.seq ?_
 refine AW.iff_ h rfl rfl (fun hb9 h=>?_) (fun hb9 h=>?_)
 ·cases h
 refine AW.exit ?_
 refine AW.seq ?_
 apply AW.rg hS [4,5,6]
 ·exact di
 refine AW.ret ?_
 cases h
 exact fin
set_option maxHeartbeats 4000000 in
theorem g_F80(c:AllG env []):GoodH env (S80 F80):=by
 obtain⟨O,X,hS,hX,hpf,hk⟩:=orcs (pf:=pfn) c
 refine GH (fn:=Tryz.f80) fn_80 rfl rfl 8 rfl [] rfl ?_
 rintro(⟨x1,x2⟩:Port×Str) (r:Bool) h m em
 refine GHs rfl rfl em rfl rfl rfl ?_
 clear em m
 replace h:F80 x1 x2=some r:=h
 rw[F80]at h
 refine AW.seq ?_
 apply AW.rg hS [1,2]
 ·exact di
 refine AW.seq ?_
 apply AW.rg hS [3]
 ·exact di
 refine AW.ret ?_
 cases h
 exact fin
set_option maxHeartbeats 4000000 in
theorem g_F29x1(c:AllG env [(S80 F80)]):GoodH env (S29x1 F29x1):=by
 obtain⟨O,X,hS,hX,hpf,hk⟩:=orcs (pf:=pfn) c
 have pf_80:O.pf 80=false:=pft hpf 80 rfl
 refine GH (fn:=Tryz.f29) fn_29 rfl rfl 19 rfl [] rfl ?_
 rintro(⟨l1,x2⟩:(List Port)×Str) (r:Int) h m em
 refine GHs rfl rfl em rfl rfl rfl ?_
 clear em m
 replace h:F29x1 l1 x2=some r:=h
 rw[F29x1]at h
 refine AW.seq ?_
 apply AW.rg hS [0,1]
 ·exact di
 refine AW.seq ?_
 refine AW.seq ?_
 apply AW.rg hS [0,1,7,8]
 ·exact di
 refine AW.block ?_
 refine AW.lp (α:=Nat×Unit) (fun(_,_)=>⟨sl [(0,.vec 0 (List.length l1)),(1,.fn 80 [1]),(7,.pv (.int .i64 (l1.length:Int))),(8,.pv (.int .i64 0))],19,[.row 83 3 (List.map Port.pv l1) false,.var [.pv (.str x2)]]⟩) (fun x=>iter (F29x1_b1 l1 x2) x.1 x.2=some r) (fun x=>x.1) (BIG,()) (Weak.slots kp) h ?_
 clear h
 intro⟨n16,_⟩ h
 replace h:=iter_some h;obtain⟨m6,rfl,h⟩:=h
 rw[F29x1_b1]at h
 try dsimp only at h
 refine AW.st ?_
 refine AW.seq ?_
 apply AW.rg hS [0,1,8,9]
 ·exact di
 refine AW.seq ?_
 refine AW.iff_ h rfl rfl (fun hb7 h=>?_) (fun hb7 h=>?_)
 ·refine AW.skip ?_
  refine AW.seq ?_
  refine AW.block ?_
  refine AW.seq ?_
  apply AW.rg hS [0,1,5]
  ·exact di
  refine AW.seq ?_
  replace h:=obs h;obtain⟨u8,q9,h⟩:=h
  have f10:=lidx_f q9
  try simp only[Int.toNat_natCast,Int.toNat_zero,Int.reduceToNat,Nat.sub_zero,List.drop_zero,List.length_map]at f10
  replace h:=obs h;obtain⟨r11,q12,h⟩:=h
  have f13:=(hk 0 80 rfl).ret (u8,x2) q12 rfl rfl
  try dsimp only at f13
  have e14:ecall O [.row 83 3 (List.map Port.pv l1) false,.var [.pv (.str x2)]] 80 [.pv (.agg [.str u8.name_,oPV Plumb.pv u8.queue_,.int .i64 u8.opens_]),.ref 1 0]=some (retAV [.pv (.bool r11)],[.row 83 3 (List.map Port.pv l1) false,.var [.pv (.str x2)]]):=ecall_eq rfl rfl rfl f13 rfl rfl rfl
  apply AW.rg hS [5,16]
  ·exact di1 (an f10.1 (an f10.2.1 (an f10.2.2 (an pf_80 e14))))
  refine AW.iff_ h rfl rfl (fun hb15 h=>?_) (fun hb15 h=>?_)
  ·refine AW.seq ?_
   apply AW.rg hS [4]
   ·exact di
   refine AW.ret ?_
   cases h
   exact fin
  cases h
 cases h
set_option maxHeartbeats 4000000 in
theorem g_F81(c:AllG env [(S5 F5)]):GoodH env (S81 F81):=by
 obtain⟨O,X,hS,hX,hpf,hk⟩:=orcs (pf:=pfn) c
 have pf_5:O.pf 5=true:=pft hpf 5 rfl
 refine GH (fn:=Tryz.f81) fn_81 rfl rfl 17 rfl [] rfl ?_
 rintro(m1:Plumb) (r:Bool) h m em
 refine GHs rfl rfl em rfl rfl rfl ?_
 clear em m
 replace h:F81 m1=some r:=h
 rw[F81]at h
 refine AW.seq ?_
 apply AW.rg hS [1]
 ·exact di
 refine AW.seq ?_
 replace h:=obs h;obtain⟨⟨r3,r4⟩,q5,h⟩:=h
 dsimp only at h
 have f6:=(hk 0 5 rfl).ret m1 q5 rfl rfl
 try dsimp only at f6
 apply AW.rg hS [3,4]
 ·exact di1 (an pf_5 f6)
 refine AW.seq ?_
 refine AW.reg hS [(2,.pv (.bool (decide (r4=0)&&decide ((r3.length:Int)≤65536))))] [.var [.pv (.str m1.src_),.pv (.str m1.dst_),.pv (.str m1.dir_),.pv (.str m1.type_),.pv (.slice (List.map Attr.pv m1.attrs_)),.pv (.str m1.data_)]] ?_ ?_
 ·clear h hk hpf hS hX c
  exact dh
 refine AW.ret ?_
 cases h
 exact fin
set_option maxHeartbeats 4000000 in
theorem g_F34(c:AllG env [(S31 F31),(S5 F5),(S79 F79),(S29x1 F29x1),(S81 F81),(S73 F73)]):GoodH env (S34 F34):=by
 obtain⟨O,X,hS,hX,hpf,hk⟩:=orcs (pf:=pfn) c
 have pf_5:O.pf 5=true:=pft hpf 5 rfl
 have pf_29:O.pf 29=false:=pft hpf 29 rfl
 have pf_31:O.pf 31=false:=pft hpf 31 rfl
 have pf_73:O.pf 73=true:=pft hpf 73 rfl
 have pf_79:O.pf 79=true:=pft hpf 79 rfl
 have pf_81:O.pf 81=true:=pft hpf 81 rfl
 refine GH (fn:=Tryz.f34) fn_34 rfl rfl 85 rfl [] rfl ?_
 rintro(⟨p1,m2⟩:Plumber×Plumb) (r:Plumber×Int) h m em
 refine GHs rfl rfl em rfl rfl rfl ?_
 clear em m
 replace h:F34 p1 m2=some r:=h
 rw[F34]at h
 refine AW.seq ?_
 apply AW.rg hS [2,3,4]
 ·exact di
 refine AW.seq ?_
 replace h:=obs h;obtain⟨r5,q6,h⟩:=h
 have f7:=(hk 0 31 rfl).ret p1 q6 rfl rfl
 try dsimp only at f7
 have e8:ecall O [.var [.pv (.slice (List.map Rule.pv p1.rules_)),.pv (.slice (List.map Port.pv p1.ports_))],.var [.pv (.str m2.src_),.pv (.str m2.dst_),.pv (.str m2.dir_),.pv (.str m2.type_),.pv (.slice (List.map Attr.pv m2.attrs_)),.pv (.str m2.data_)],.var [.nils,.nils]] 31 [.pv (.agg [.slice (List.map Rule.pv p1.rules_),.slice (List.map Port.pv p1.ports_)])]=some (retAV [.agg [.nils,.vec 3 (List.length r5)]],[.var [.pv (.slice (List.map Rule.pv p1.rules_)),.pv (.slice (List.map Port.pv p1.ports_))],.var [.pv (.str m2.src_),.pv (.str m2.dst_),.pv (.str m2.dir_),.pv (.str m2.type_),.pv (.slice (List.map Attr.pv m2.attrs_)),.pv (.str m2.data_)],.var [.nils,.nils],.row 83 3 (List.map Port.pv r5) false]):=ecall_eq rfl rfl rfl f7 rfl rfl rfl
 apply AW.rg hS [2,3,4,6]
 ·exact di1 (an pf_31 e8)
 refine AW.seq ?_
 refine AW.seq ?_
 replace h:=obs h;obtain⟨⟨r9,r10⟩,q11,h⟩:=h
 dsimp only at h
 have f12:=(hk 1 5 rfl).ret m2 q11 rfl rfl
 try dsimp only at f12
 apply AW.rg hS [2,3,4,6,8]
 ·exact di1 (an pf_5 f12)
 refine AW.seq ?_
 apply AW.rg hS [2,3,4,6,21]
 ·exact di
 refine AW.iff_ h rfl rfl (fun hb13 h=>?_) (fun hb13 h=>?_)
 ·cases h
 refine AW.skip ?_
 refine AW.seq ?_
 replace h:=obs h;obtain⟨⟨r14,r15,r16⟩,q17,h⟩:=h
 dsimp only at h
 have f18:=(hk 2 79 rfl).ret (p1.rules_,m2) q17 rfl rfl
 try dsimp only at f18
 apply AW.rg hS [3,4,6,9,10,11]
 ·exact di1 (an pf_79 f18)
 refine AW.seq ?_
 refine AW.seq ?_
 apply AW.rg hS [3,4,6,9,10,33]
 ·exact di
 refine AW.iff_ h rfl rfl (fun hb19 h=>?_) (fun hb19 h=>?_)
 ·apply AW.dgB mixed hS [(3,some 1),(9,some 5),(10,some 6),(35,some 1)] [4,6,9,10] rfl (ordB hpf (B:=[(3,some 1),(9,some 5),(10,some 6),(35,some 1)]) (by kernel_rfl))
  ·exact di
  refine AW.seq ?_
  replace h:=obs h;obtain⟨r20,q21,h⟩:=h
  have f22:=(hk 3 29 rfl).ret (r5,m2.dst_) q21 rfl rfl
  try dsimp only at f22
  have e23:ecall O [.var [.pv (.slice (List.map Rule.pv p1.rules_)),.pv (.slice (List.map Port.pv p1.ports_))],.var [.pv (.str m2.src_),.pv (.str m2.dst_),.pv (.str m2.dir_),.pv (.str m2.type_),.pv (.slice (List.map Attr.pv m2.attrs_)),.pv (.str m2.data_)],.var [.nils,.nils],.row 83 3 (List.map Port.pv r5) false,.var [.nils,.vec 3 (List.length r5)],.var [.pv (.str m2.src_),.pv (.str m2.dst_),.pv (.str m2.dir_),.pv (.str m2.type_),.pv (.slice (List.map Attr.pv m2.attrs_)),.pv (.str m2.data_)],.var [.pv (.str m2.dst_)]] 29 [.vec 3 (List.length r5),.fn 80 [6]]=some (retAV [.pv (.int .i64 r20)],[.var [.pv (.slice (List.map Rule.pv p1.rules_)),.pv (.slice (List.map Port.pv p1.ports_))],.var [.pv (.str m2.src_),.pv (.str m2.dst_),.pv (.str m2.dir_),.pv (.str m2.type_),.pv (.slice (List.map Attr.pv m2.attrs_)),.pv (.str m2.data_)],.var [.nils,.nils],.row 83 3 (List.map Port.pv r5) false,.var [.nils,.vec 3 (List.length r5)],.var [.pv (.str m2.src_),.pv (.str m2.dst_),.pv (.str m2.dir_),.pv (.str m2.type_),.pv (.slice (List.map Attr.pv m2.attrs_)),.pv (.str m2.data_)],.var [.pv (.str m2.dst_)]]):=ecall_eq rfl rfl rfl f22 rfl rfl rfl
  apply AW.rg hS [4,6,9,12]
  ·exact di1 (an pf_29 e23)
  refine AW.seq ?_
  refine AW.block ?_
  refine AW.seq ?_
  replace h:=obs h;obtain⟨u24,q25,h⟩:=h
  have f26:=lidx_g (guardO_t q25)
  refine AW.reg hS [(4,.ref 2 0),(6,.ref 4 0),(9,.ref 5 0),(12,.pv (.int .i64 r20)),(41,.pv (.bool (decide (r20<0)||decide (u24.opens_=0))))] [.var [.pv (.slice (List.map Rule.pv p1.rules_)),.pv (.slice (List.map Port.pv p1.ports_))],.var [.pv (.str m2.src_),.pv (.str m2.dst_),.pv (.str m2.dir_),.pv (.str m2.type_),.pv (.slice (List.map Attr.pv m2.attrs_)),.pv (.str m2.data_)],.var [.nils,.nils],.row 83 3 (List.map Port.pv r5) false,.var [.nils,.vec 3 (List.length r5)],.var [.pv (.str m2.src_),.pv (.str m2.dst_),.pv (.str m2.dir_),.pv (.str m2.type_),.pv (.slice (List.map Attr.pv m2.attrs_)),.pv (.str m2.data_)],.var [.pv (.str m2.dst_)]] ?_ ?_
  ·clear h hk hpf hS hX c
   exact dh1 (an f26.1 (an f26.2.1 f26.2.2))
  refine AW.iff_ h rfl rfl (fun hb27 h=>?_) (fun hb27 h=>?_)
  ·cases h
  refine AW.seq ?_
  replace h:=obs h;obtain⟨r28,q29,h⟩:=h
  have f30:=(hk 4 81 rfl).ret m2 q29 rfl rfl
  try dsimp only at f30
  apply AW.rg hS [4,6,9,12,54]
  ·exact di1 (an pf_81 f30)
  refine AW.iff_ h rfl rfl (fun hb31 h=>?_) (fun hb31 h=>?_)
  ·refine AW.seq ?_
   refine AW.weak (Weak.cellPV 4 0 (cs:=[.nils,.vec 3 (List.length r5)]) (a:=.nils) (p:=.slice (List.map Rule.pv ([]:List Rule))) rfl rfl (by first|rfl|simp only[toPV,List.getElem?_cons_zero,List.getElem?_cons_succ,List.length_map,if_true,List.map_nil])) ?_
   refine AW.weak (σ':=⟨sl [(4,.ref 2 0),(6,.ref 4 0),(9,.ref 5 0),(12,.pv (.int .i64 r20)),(54,.pv (.bool (!r28)))],85,[.var [.pv (.slice (List.map Rule.pv p1.rules_)),.pv (.slice (List.map Port.pv p1.ports_))],.var [.pv (.str m2.src_),.pv (.str m2.dst_),.pv (.str m2.dir_),.pv (.str m2.type_),.pv (.slice (List.map Attr.pv m2.attrs_)),.pv (.str m2.data_)],.var [.nils,.nils],.row 83 3 (List.map Port.pv r5) false,.var [.pv (.slice (List.map Rule.pv ([]:List Rule))),.vec 3 (List.length r5)],.var [.pv (.str m2.src_),.pv (.str m2.dst_),.pv (.str m2.dir_),.pv (.str m2.type_),.pv (.slice (List.map Attr.pv m2.attrs_)),.pv (.str m2.data_)],.var [.pv (.str m2.dst_)]]⟩) (Weak.of_eq (Weak.slots (L:=[(4,.ref 2 0),(6,.ref 4 0),(9,.ref 5 0),(12,.pv (.int .i64 r20)),(54,.pv (.bool (!r28)))]) ⟨rfl,rfl,rfl,rfl,rfl,trivial⟩) (by first|rfl|(simp only[List.length_set,List.length_map];rfl))) ?_
   refine AW.weak (Weak.freeze 3 rfl) ?_
   refine AW.weak (σ':=⟨sl [(4,.ref 2 0),(6,.ref 4 0),(9,.ref 5 0),(12,.pv (.int .i64 r20)),(54,.pv (.bool (!r28)))],85,[.var [.pv (.slice (List.map Rule.pv p1.rules_)),.pv (.slice (List.map Port.pv p1.ports_))],.var [.pv (.str m2.src_),.pv (.str m2.dst_),.pv (.str m2.dir_),.pv (.str m2.type_),.pv (.slice (List.map Attr.pv m2.attrs_)),.pv (.str m2.data_)],.var [.nils,.nils],.row 83 3 (List.map Port.pv r5) true,.var [.pv (.slice (List.map Rule.pv ([]:List Rule))),.vec 3 (List.length r5)],.var [.pv (.str m2.src_),.pv (.str m2.dst_),.pv (.str m2.dir_),.pv (.str m2.type_),.pv (.slice (List.map Attr.pv m2.attrs_)),.pv (.str m2.data_)],.var [.pv (.str m2.dst_)]]⟩) (Weak.of_eq (Weak.slots (L:=[(4,.ref 2 0),(6,.ref 4 0),(9,.ref 5 0),(12,.pv (.int .i64 r20)),(54,.pv (.bool (!r28)))]) kp) (by first|rfl|(simp only[List.length_set,List.length_map];rfl))) ?_
   refine AW.weak (Weak.cellPV 4 1 (cs:=[.pv (.slice (List.map Rule.pv ([]:List Rule))),.vec 3 (List.length r5)]) (a:=.vec 3 (List.length r5)) (p:=.slice (List.map Port.pv r5)) rfl rfl (by first|rfl|simp only[toPV,List.getElem?_cons_zero,List.getElem?_cons_succ,List.length_map,if_true,List.map_nil])) ?_
   refine AW.weak (σ':=⟨sl [(4,.ref 2 0),(6,.ref 4 0),(9,.ref 5 0),(12,.pv (.int .i64 r20)),(54,.pv (.bool (!r28)))],85,[.var [.pv (.slice (List.map Rule.pv p1.rules_)),.pv (.slice (List.map Port.pv p1.ports_))],.var [.pv (.str m2.src_),.pv (.str m2.dst_),.pv (.str m2.dir_),.pv (.str m2.type_),.pv (.slice (List.map Attr.pv m2.attrs_)),.pv (.str m2.data_)],.var [.nils,.nils],.row 83 3 (List.map Port.pv r5) true,.var [.pv (.slice (List.map Rule.pv ([]:List Rule))),.pv (.slice (List.map Port.pv r5))],.var [.pv (.str m2.src_),.pv (.str m2.dst_),.pv (.str m2.dir_),.pv (.str m2.type_),.pv (.slice (List.map Attr.pv m2.attrs_)),.pv (.str m2.data_)],.var [.pv (.str m2.dst_)]]⟩) (Weak.of_eq (Weak.slots (L:=[(4,.ref 2 0),(6,.ref 4 0),(9,.ref 5 0),(12,.pv (.int .i64 r20)),(54,.pv (.bool (!r28)))]) ⟨rfl,rfl,rfl,rfl,rfl,trivial⟩) (by first|rfl|(simp only[List.length_set,List.length_map];rfl))) ?_
   apply AW.rg hS [4,5]
   ·exact di
   refine AW.ret ?_
   cases h
   exact fin
  refine AW.seq ?_
  replace h:=obs h;obtain⟨u32,q33,h⟩:=h
  have f34:=lidx_f q33
  apply AW.rg hS [4,6,9,12,59]
  ·simp -implicitDefEqProofs only[RUNS,qindex,Nat.reduceAdd,Nat.reduceLeDiff,Nat.reduceSub,reduceIte,Nat.reduceEqDiff,Nat.reduceLT,reduceCtorEq,Nat.reduceMul,Nat.reduceBEq,Int.reduceEq,Int.reduceToNat,Int.toNat_zero,Nat.sub_zero,if_true,if_false,eq_self,ne_eq,pick_nil,pick_cons,leavesK_some,TYS,f34.1,f34.2.1,f34.2.2,qlen_o T_81];exact⟨rfl,rfl⟩
  refine AW.iff_ h rfl rfl (fun hb35 h=>?_) (fun hb35 h=>?_)
  ·cases h
  refine AW.skip ?_
  refine AW.seq ?_
  replace h:=obs h;obtain⟨r36,q37,h⟩:=h
  have f38:=(hk 5 73 rfl).ret m2 q37 rfl rfl
  try dsimp only at f38
  replace h:=obs h;obtain⟨u39,q40,h⟩:=h
  have f41:=nilO_f q40
  replace h:=obs h;obtain⟨out42,q43,h⟩:=h
  have f44:=appO_f q43
  try simp only[List.length_cons,List.length_nil,List.length_replicate,Nat.zero_add,Nat.reduceAdd,Nat.reduceLeDiff,Nat.add_zero,Nat.reduceMul]at f44
  have f44m:=appO_m Plumb.pv q43
  try simp only[List.map_cons,List.map_nil,List.nil_append,oPV_none,oPV_some,Attr.pv_eq,P22_eq,Plumb.pv_eq,Token.pv_eq,P50_eq,Redir.pv_eq,P51_eq,Cmd.pv_eq,P46_eq,Word.pv_eq,P54_eq,Var.pv_eq,P324_eq,GEnv.pv_eq,GValue.pv_eq,P59_eq,Qid.pv_eq,P66_eq,Dir.pv_eq,Msg.pv_eq,Call.pv_eq,P60_eq,Client.pv_eq,S274.pv_eq,S276.pv_eq,P81_eq,Port.pv_eq,Pattern.pv_eq,P153_eq,Rule.pv_eq,P29_eq,P30_eq,Plumber.pv_eq]at f44m
  have f44n:=appO_n q43
  try simp only[List.length_cons,List.length_nil,Nat.zero_add]at f44n
  refine AW.dregV mixed hS [12,15] [(0,0),(0,1),(1,0),(1,1),(2,0),(2,1),(3,0),(4,0),(5,0),(6,0),(7,0),(8,0),(9,0),(10,0),(11,0),(12,0),(13,1),(14,1),(15,1)] [.ref 4 1,.vec 3 (List.length r5),.pv (.int .i64 r20),.ref 4 1,.vec 3 (List.length r5),.pv (.int .i64 r20),.vptr 3 (List.length r5) (Int.toNat r20) 0,.vptr 3 (List.length r5) (Int.toNat r20) 1,.pv (oPV Plumb.pv u32.queue_),.pv (.agg [.str m2.src_,.str m2.dst_,.str m2.dir_,.str m2.type_,.slice (List.map Attr.pv m2.attrs_),.str m2.data_]),.pv (.agg [.str r36.src_,.str r36.dst_,.str r36.dir_,.str r36.type_,.slice (List.map Attr.pv r36.attrs_),.str r36.data_]),.full [PV.agg [.str r36.src_,.str r36.dst_,.str r36.dir_,.str r36.type_,.slice (List.map Attr.pv r36.attrs_),.str r36.data_]],.vec 7 (List.length out42),.vptr 3 (List.length r5) (Int.toNat r20) 0,.vptr 3 (List.length r5) (Int.toNat r20) 1,.any] [[.var [.pv (.slice (List.map Rule.pv p1.rules_)),.pv (.slice (List.map Port.pv p1.ports_))],.var [.pv (.str m2.src_),.pv (.str m2.dst_),.pv (.str m2.dir_),.pv (.str m2.type_),.pv (.slice (List.map Attr.pv m2.attrs_)),.pv (.str m2.data_)],.var [.nils,.nils],.row 83 3 (List.map Port.pv r5) false,.var [.nils,.vec 3 (List.length r5)],.var [.pv (.str m2.src_),.pv (.str m2.dst_),.pv (.str m2.dir_),.pv (.str m2.type_),.pv (.slice (List.map Attr.pv m2.attrs_)),.pv (.str m2.data_)],.var [.pv (.str m2.dst_)]],[.var [.pv (.slice (List.map Rule.pv p1.rules_)),.pv (.slice (List.map Port.pv p1.ports_))],.var [.pv (.str m2.src_),.pv (.str m2.dst_),.pv (.str m2.dir_),.pv (.str m2.type_),.pv (.slice (List.map Attr.pv m2.attrs_)),.pv (.str m2.data_)],.var [.nils,.nils],.row 83 3 (List.map Port.pv r5) false,.var [.nils,.vec 3 (List.length r5)],.var [.pv (.str m2.src_),.pv (.str m2.dst_),.pv (.str m2.dir_),.pv (.str m2.type_),.pv (.slice (List.map Attr.pv m2.attrs_)),.pv (.str m2.data_)],.var [.pv (.str m2.dst_)],.row 24 6 (List.map Plumb.pv out42) true],[.var [.pv (.slice (List.map Rule.pv p1.rules_)),.pv (.slice (List.map Port.pv p1.ports_))],.var [.pv (.str m2.src_),.pv (.str m2.dst_),.pv (.str m2.dir_),.pv (.str m2.type_),.pv (.slice (List.map Attr.pv m2.attrs_)),.pv (.str m2.data_)],.var [.nils,.nils],.row 83 3 (List.map Port.pv (List.set r5 (Int.toNat r20) (Port.mk u32.name_ (some out42) u32.opens_))) false,.var [.nils,.vec 3 (List.length (List.set r5 (Int.toNat r20) (Port.mk u32.name_ (some out42) u32.opens_)))],.var [.pv (.str m2.src_),.pv (.str m2.dst_),.pv (.str m2.dir_),.pv (.str m2.type_),.pv (.slice (List.map Attr.pv m2.attrs_)),.pv (.str m2.data_)],.var [.pv (.str m2.dst_)],.row 24 6 (List.map Plumb.pv out42) true]] [(69,.ref 4 1),(70,.vec 3 (List.length r5)),(71,.pv (.int .i64 r20)),(72,.ref 4 1),(73,.vec 3 (List.length r5)),(74,.pv (.int .i64 r20)),(75,.vptr 3 (List.length r5) (Int.toNat r20) 0),(76,.vptr 3 (List.length r5) (Int.toNat r20) 1),(77,.pv (oPV Plumb.pv u32.queue_)),(78,.pv (.agg [.str m2.src_,.str m2.dst_,.str m2.dir_,.str m2.type_,.slice (List.map Attr.pv m2.attrs_),.str m2.data_])),(79,.pv (.agg [.str r36.src_,.str r36.dst_,.str r36.dir_,.str r36.type_,.slice (List.map Attr.pv r36.attrs_),.str r36.data_])),(80,.full [PV.agg [.str r36.src_,.str r36.dst_,.str r36.dir_,.str r36.type_,.slice (List.map Attr.pv r36.attrs_),.str r36.data_]]),(81,.vec 7 (List.length out42)),(82,.vptr 3 (List.length r5) (Int.toNat r20) 0),(83,.vptr 3 (List.length r5) (Int.toNat r20) 1),(4,.ref 2 0),(6,.ref 4 0),(9,.ref 5 0),(12,.pv (.int .i64 r20)),(59,.pv (.bool (decide (64≤((u32.queue_.getD []).length:Int)))))] (by kernel_rfl) (by kernel_rfl) (by kernel_rfl) ?_ [(4,.ref 2 0),(6,.ref 4 0)] [.var [.pv (.slice (List.map Rule.pv p1.rules_)),.pv (.slice (List.map Port.pv p1.ports_))],.var [.pv (.str m2.src_),.pv (.str m2.dst_),.pv (.str m2.dir_),.pv (.str m2.type_),.pv (.slice (List.map Attr.pv m2.attrs_)),.pv (.str m2.data_)],.var [.nils,.nils],.row 83 3 (List.map Port.pv (List.set r5 (Int.toNat r20) (Port.mk u32.name_ (some out42) u32.opens_))) false,.var [.nils,.vec 3 (List.length (List.set r5 (Int.toNat r20) (Port.mk u32.name_ (some out42) u32.opens_)))],.var [.pv (.str m2.src_),.pv (.str m2.dst_),.pv (.str m2.dir_),.pv (.str m2.type_),.pv (.slice (List.map Attr.pv m2.attrs_)),.pv (.str m2.data_)],.var [.pv (.str m2.dst_)],.row 24 6 (List.map Plumb.pv out42) true] ⟨rfl,rfl,trivial⟩ rfl ?_
  ·repeat'(first|exact Facts.nil|refine Facts.cons rfl rfl rfl ?_ ?_)
   all_goals simp -implicitDefEqProofs only[RUNS,qindex,Nat.reduceAdd,Nat.reduceLeDiff,Nat.reduceSub,reduceIte,Nat.reduceEqDiff,Nat.reduceLT,reduceCtorEq,Nat.reduceMul,Nat.reduceBEq,Int.reduceEq,Int.reduceToNat,Int.toNat_zero,Nat.sub_zero,if_true,if_false,eq_self,ne_eq,adoes,gdec,List.getD_cons_zero,List.getD_cons_succ,List.contains_cons,List.contains_nil,Bool.false_eq_true,bq1,bq2,TYS,f34.1,f34.2.1,f34.2.2,pf_73,f38,f41,f44.1,f44m,f44n,oPV_none]<;>(try simp only[List.length_take,List.length_drop,List.length_map])
  clear f44
  clear f44m
  clear f44n
  refine AW.seq ?_
  refine AW.weak (Weak.cellPV 4 0 (cs:=[.nils,.vec 3 (List.length (List.set r5 (Int.toNat r20) (Port.mk u32.name_ (some out42) u32.opens_)))]) (a:=.nils) (p:=.slice (List.map Rule.pv ([]:List Rule))) rfl rfl (by first|rfl|simp only[toPV,List.getElem?_cons_zero,List.getElem?_cons_succ,List.length_map,if_true,List.map_nil])) ?_
  refine AW.weak (σ':=⟨sl [(4,.ref 2 0),(6,.ref 4 0)],85,[.var [.pv (.slice (List.map Rule.pv p1.rules_)),.pv (.slice (List.map Port.pv p1.ports_))],.var [.pv (.str m2.src_),.pv (.str m2.dst_),.pv (.str m2.dir_),.pv (.str m2.type_),.pv (.slice (List.map Attr.pv m2.attrs_)),.pv (.str m2.data_)],.var [.nils,.nils],.row 83 3 (List.map Port.pv (List.set r5 (Int.toNat r20) (Port.mk u32.name_ (some out42) u32.opens_))) false,.var [.pv (.slice (List.map Rule.pv ([]:List Rule))),.vec 3 (List.length (List.set r5 (Int.toNat r20) (Port.mk u32.name_ (some out42) u32.opens_)))],.var [.pv (.str m2.src_),.pv (.str m2.dst_),.pv (.str m2.dir_),.pv (.str m2.type_),.pv (.slice (List.map Attr.pv m2.attrs_)),.pv (.str m2.data_)],.var [.pv (.str m2.dst_)],.row 24 6 (List.map Plumb.pv out42) true]⟩) (Weak.of_eq (Weak.slots (L:=[(4,.ref 2 0),(6,.ref 4 0)]) ⟨rfl,rfl,trivial⟩) (by first|rfl|(simp only[List.length_set,List.length_map];rfl))) ?_
  refine AW.weak (Weak.freeze 3 rfl) ?_
  refine AW.weak (σ':=⟨sl [(4,.ref 2 0),(6,.ref 4 0)],85,[.var [.pv (.slice (List.map Rule.pv p1.rules_)),.pv (.slice (List.map Port.pv p1.ports_))],.var [.pv (.str m2.src_),.pv (.str m2.dst_),.pv (.str m2.dir_),.pv (.str m2.type_),.pv (.slice (List.map Attr.pv m2.attrs_)),.pv (.str m2.data_)],.var [.nils,.nils],.row 83 3 (List.map Port.pv (List.set r5 (Int.toNat r20) (Port.mk u32.name_ (some out42) u32.opens_))) true,.var [.pv (.slice (List.map Rule.pv ([]:List Rule))),.vec 3 (List.length (List.set r5 (Int.toNat r20) (Port.mk u32.name_ (some out42) u32.opens_)))],.var [.pv (.str m2.src_),.pv (.str m2.dst_),.pv (.str m2.dir_),.pv (.str m2.type_),.pv (.slice (List.map Attr.pv m2.attrs_)),.pv (.str m2.data_)],.var [.pv (.str m2.dst_)],.row 24 6 (List.map Plumb.pv out42) true]⟩) (Weak.of_eq (Weak.slots (L:=[(4,.ref 2 0),(6,.ref 4 0)]) kp) (by first|rfl|(simp only[List.length_set,List.length_map];rfl))) ?_
  refine AW.weak (Weak.cellPV 4 1 (cs:=[.pv (.slice (List.map Rule.pv ([]:List Rule))),.vec 3 (List.length (List.set r5 (Int.toNat r20) (Port.mk u32.name_ (some out42) u32.opens_)))]) (a:=.vec 3 (List.length (List.set r5 (Int.toNat r20) (Port.mk u32.name_ (some out42) u32.opens_)))) (p:=.slice (List.map Port.pv (List.set r5 (Int.toNat r20) (Port.mk u32.name_ (some out42) u32.opens_)))) rfl rfl (by first|rfl|simp only[toPV,List.getElem?_cons_zero,List.getElem?_cons_succ,List.length_map,if_true,List.map_nil])) ?_
  refine AW.weak (σ':=⟨sl [(4,.ref 2 0),(6,.ref 4 0)],85,[.var [.pv (.slice (List.map Rule.pv p1.rules_)),.pv (.slice (List.map Port.pv p1.ports_))],.var [.pv (.str m2.src_),.pv (.str m2.dst_),.pv (.str m2.dir_),.pv (.str m2.type_),.pv (.slice (List.map Attr.pv m2.attrs_)),.pv (.str m2.data_)],.var [.nils,.nils],.row 83 3 (List.map Port.pv (List.set r5 (Int.toNat r20) (Port.mk u32.name_ (some out42) u32.opens_))) true,.var [.pv (.slice (List.map Rule.pv ([]:List Rule))),.pv (.slice (List.map Port.pv (List.set r5 (Int.toNat r20) (Port.mk u32.name_ (some out42) u32.opens_))))],.var [.pv (.str m2.src_),.pv (.str m2.dst_),.pv (.str m2.dir_),.pv (.str m2.type_),.pv (.slice (List.map Attr.pv m2.attrs_)),.pv (.str m2.data_)],.var [.pv (.str m2.dst_)],.row 24 6 (List.map Plumb.pv out42) true]⟩) (Weak.of_eq (Weak.slots (L:=[(4,.ref 2 0),(6,.ref 4 0)]) ⟨rfl,rfl,trivial⟩) (by first|rfl|(simp only[List.length_set,List.length_map];rfl))) ?_
  apply AW.rg hS [4,5]
  ·exact di
  refine AW.ret ?_
  cases h
  exact fin
 cases h
set_option maxHeartbeats 4000000 in
theorem g_F9(c:AllG env [(S31 F31),(S28 F28),(S11 F11),(S34 F34)]):GoodH env (S9 F9):=by
 obtain⟨O,X,hS,hX,hpf,hk⟩:=orcs (pf:=pfn) c
 have pf_11:O.pf 11=true:=pft hpf 11 rfl
 have pf_28:O.pf 28=true:=pft hpf 28 rfl
 have pf_31:O.pf 31=false:=pft hpf 31 rfl
 have pf_34:O.pf 34=true:=pft hpf 34 rfl
 refine GH (fn:=Tryz.f9) fn_9 rfl rfl 76 rfl [] rfl ?_
 rintro(⟨p1,id2,offset3,data4⟩:Plumber×Int×Int×Str) (r:Plumber×Int×Int) h m em
 refine GHs rfl rfl em rfl rfl rfl ?_
 clear em m
 replace h:F9 p1 id2 offset3 data4=some r:=h
 rw[F9]at h
 refine AW.seq ?_
 apply AW.rg hS [1,2,3,4,8]
 ·exact di
 refine AW.seq ?_
 replace h:=obs h;obtain⟨r8,q9,h⟩:=h
 have f10:=(hk 0 31 rfl).ret p1 q9 rfl rfl
 try dsimp only at f10
 have e11:ecall O [.var [.pv (.slice (List.map Rule.pv p1.rules_)),.pv (.slice (List.map Port.pv p1.ports_))],.var [.nils,.nils]] 31 [.pv (.agg [.slice (List.map Rule.pv p1.rules_),.slice (List.map Port.pv p1.ports_)])]=some (retAV [.agg [.nils,.vec 2 (List.length r8)]],[.var [.pv (.slice (List.map Rule.pv p1.rules_)),.pv (.slice (List.map Port.pv p1.ports_))],.var [.nils,.nils],.row 83 3 (List.map Port.pv r8) false]):=ecall_eq rfl rfl rfl f10 rfl rfl rfl
 apply AW.rg hS [1,2,3,4,8,11]
 ·exact di1 (an pf_31 e11)
 refine AW.seq ?_
 refine AW.block ?_
 refine AW.seq ?_
 replace h:=obs h;obtain⟨r12,q13,h⟩:=h
 have f14:=(hk 1 28 rfl).ret (p1,id2) q13 rfl rfl
 try dsimp only at f14
 apply AW.rg hS [1,2,3,4,8,11,19]
 ·exact di1 (an pf_28 f14)
 refine AW.iff_ h rfl rfl (fun hb15 h=>?_) (fun hb15 h=>?_)
 ·cases h
 refine AW.seq ?_
 apply AW.rg hS [1,2,3,4,8,11,25]
 ·exact di
 refine AW.iff_ h rfl rfl (fun hb16 h=>?_) (fun hb16 h=>?_)
 ·cases h
 refine AW.seq ?_
 apply AW.rg hS [1,3,4,8,11,29]
 ·exact di
 refine AW.iff_ h rfl rfl (fun hb17 h=>?_) (fun hb17 h=>?_)
 ·cases h
 refine AW.seq ?_
 apply AW.rg hS [1,3,4,8,11,33]
 ·exact di
 refine AW.iff_ h rfl rfl (fun hb18 h=>?_) (fun hb18 h=>?_)
 ·cases h
 refine AW.skip ?_
 refine AW.seq ?_
 refine AW.seq ?_
 apply AW.rg hS [3,4,8,11,38]
 ·exact di
 refine AW.iff_ h rfl rfl (fun hb19 h=>?_) (fun hb19 h=>?_)
 ·cases h
 refine AW.skip ?_
 refine AW.seq ?_
 replace h:=obs h;obtain⟨⟨r20,r21⟩,q22,h⟩:=h
 dsimp only at h
 have f23:=(hk 2 11 rfl).ret data4 q22 rfl rfl
 try dsimp only at f23
 apply AW.rg hS [3,4,8,11,15,16]
 ·exact di1 (an pf_11 f23)
 refine AW.seq ?_
 refine AW.seq ?_
 apply AW.rg hS [3,4,8,11,15,60]
 ·exact di
 refine AW.iff_ h rfl rfl (fun hb24 h=>?_) (fun hb24 h=>?_)
 ·cases h
 refine AW.skip ?_
 refine AW.seq ?_
 replace h:=obs h;obtain⟨⟨r25,r26⟩,q27,h⟩:=h
 dsimp only at h
 have f28:=(hk 3 34 rfl).ret (p1,r20) q27 rfl rfl
 try dsimp only at f28
 apply AW.rg hS [3,8,11,16]
 ·exact di1 (an pf_34 f28)
 refine AW.seq ?_
 refine AW.seq ?_
 apply AW.rg hS [3,8,11,16,70]
 ·exact di
 refine AW.iff_ h rfl rfl (fun hb29 h=>?_) (fun hb29 h=>?_)
 ·refine AW.seq ?_
  apply AW.rg hS [8,9,10]
  ·exact di
  refine AW.ret ?_
  cases h
  exact fin
 refine AW.skip ?_
 refine AW.seq ?_
 apply AW.rg hS [8,9,10]
 ·exact di
 refine AW.ret ?_
 cases h
 exact fin
set_option maxHeartbeats 4000000 in
theorem g_F10(c:AllG env [(S31 F31),(S28 F28),(S5 F5)]):GoodH env (S10 F10):=by
 obtain⟨O,X,hS,hX,hpf,hk⟩:=orcs (pf:=pfn) c
 have pf_5:O.pf 5=true:=pft hpf 5 rfl
 have pf_28:O.pf 28=true:=pft hpf 28 rfl
 have pf_31:O.pf 31=false:=pft hpf 31 rfl
 refine GH (fn:=Tryz.f10) fn_10 rfl rfl 109 rfl [] rfl ?_
 rintro(⟨p1,id2,offset3,count4⟩:Plumber×Int×Int×Int) (r:Plumber×Str×Bool×Int) h m em
 refine GHs rfl rfl em rfl rfl rfl ?_
 clear em m
 replace h:F10 p1 id2 offset3 count4=some r:=h
 rw[F10]at h
 refine AW.seq ?_
 apply AW.rg hS [1,2,3,4,8]
 ·exact di
 refine AW.seq ?_
 replace h:=obs h;obtain⟨r9,q10,h⟩:=h
 have f11:=(hk 0 31 rfl).ret p1 q10 rfl rfl
 try dsimp only at f11
 have e12:ecall O [.var [.pv (.slice (List.map Rule.pv p1.rules_)),.pv (.slice (List.map Port.pv p1.ports_))],.var [.nils,.nils]] 31 [.pv (.agg [.slice (List.map Rule.pv p1.rules_),.slice (List.map Port.pv p1.ports_)])]=some (retAV [.agg [.nils,.vec 2 (List.length r9)]],[.var [.pv (.slice (List.map Rule.pv p1.rules_)),.pv (.slice (List.map Port.pv p1.ports_))],.var [.nils,.nils],.row 83 3 (List.map Port.pv r9) false]):=ecall_eq rfl rfl rfl f11 rfl rfl rfl
 apply AW.rg hS [1,2,3,4,8,12]
 ·exact di1 (an pf_31 e12)
 refine AW.seq ?_
 refine AW.block ?_
 refine AW.seq ?_
 replace h:=obs h;obtain⟨r13,q14,h⟩:=h
 have f15:=(hk 1 28 rfl).ret (p1,id2) q14 rfl rfl
 try dsimp only at f15
 apply AW.rg hS [1,2,3,8,12,20]
 ·exact di1 (an pf_28 f15)
 refine AW.iff_ h rfl rfl (fun hb16 h=>?_) (fun hb16 h=>?_)
 ·cases h
 refine AW.seq ?_
 apply AW.rg hS [1,2,3,8,12,26]
 ·exact di
 refine AW.iff_ h rfl rfl (fun hb17 h=>?_) (fun hb17 h=>?_)
 ·cases h
 refine AW.seq ?_
 refine AW.reg hS [(1,.pv (.int .i64 id2)),(3,.pv (.int .i64 count4)),(8,.ref 1 0),(12,.ref 3 0),(30,.pv (.bool (decide (offset3<0)||decide (count4<0))))] [.var [.pv (.slice (List.map Rule.pv p1.rules_)),.pv (.slice (List.map Port.pv p1.ports_))],.var [.nils,.nils],.row 83 3 (List.map Port.pv r9) false,.var [.nils,.vec 2 (List.length r9)]] ?_ ?_
 ·clear h hk hpf hS hX c
  exact dh
 refine AW.iff_ h rfl rfl (fun hb18 h=>?_) (fun hb18 h=>?_)
 ·cases h
 refine AW.seq ?_
 apply AW.rg hS [1,3,8,12,38]
 ·exact di
 refine AW.iff_ h rfl rfl (fun hb19 h=>?_) (fun hb19 h=>?_)
 ·cases h
 refine AW.skip ?_
 refine AW.seq ?_
 refine AW.reg hS [(1,.pv (.int .i64 id2)),(3,.pv (.int .i64 (imin count4 65536))),(8,.ref 1 0),(12,.ref 3 0)] [.var [.pv (.slice (List.map Rule.pv p1.rules_)),.pv (.slice (List.map Port.pv p1.ports_))],.var [.nils,.nils],.row 83 3 (List.map Port.pv r9) false,.var [.nils,.vec 2 (List.length r9)]] ?_ ?_
 ·exact dk
 refine AW.seq ?_
 refine AW.seq ?_
 apply AW.rg hS [1,3,8,12,45]
 ·exact di
 refine AW.iff_ h rfl rfl (fun hb20 h=>?_) (fun hb20 h=>?_)
 ·cases h
 refine AW.skip ?_
 refine AW.seq ?_
 replace h:=obs h;obtain⟨u21,q22,h⟩:=h
 have f23:=lidx_f q22
 apply AW.rg hS [3,8,12,15]
 ·exact di1 (an f23.1 (an f23.2.1 f23.2.2))
 refine AW.seq ?_
 refine AW.seq ?_
 apply AW.rg hS [3,8,12,15,75]
 ·simp -implicitDefEqProofs only[RUNS,qindex,Nat.reduceAdd,Nat.reduceLeDiff,Nat.reduceSub,reduceIte,Nat.reduceEqDiff,Nat.reduceLT,reduceCtorEq,Nat.reduceMul,Nat.reduceBEq,Int.reduceEq,Int.reduceToNat,Int.toNat_zero,Nat.sub_zero,if_true,if_false,eq_self,ne_eq,pick_nil,pick_cons,leavesK_some,TYS,f23.1,f23.2.1,f23.2.2,qlen_o T_81];exact⟨rfl,rfl⟩
 refine AW.iff_ h rfl rfl (fun hb24 h=>?_) (fun hb24 h=>?_)
 ·refine AW.seq ?_
  refine AW.weak (Weak.cellPV 3 0 (cs:=[.nils,.vec 2 (List.length r9)]) (a:=.nils) (p:=.slice (List.map Rule.pv ([]:List Rule))) rfl rfl (by first|rfl|simp only[toPV,List.getElem?_cons_zero,List.getElem?_cons_succ,List.length_map,if_true,List.map_nil])) ?_
  refine AW.weak (σ':=⟨sl [(3,.pv (.int .i64 (imin count4 65536))),(8,.ref 1 0),(12,.ref 3 0),(15,.vptr 2 (List.length r9) (Int.toNat (IntKind.wrap .i64 (id2-4))) 0),(75,.pv (.bool (decide (((u21.queue_.getD []).length:Int)=0))))],109,[.var [.pv (.slice (List.map Rule.pv p1.rules_)),.pv (.slice (List.map Port.pv p1.ports_))],.var [.nils,.nils],.row 83 3 (List.map Port.pv r9) false,.var [.pv (.slice (List.map Rule.pv ([]:List Rule))),.vec 2 (List.length r9)]]⟩) (Weak.of_eq (Weak.slots (L:=[(3,.pv (.int .i64 (imin count4 65536))),(8,.ref 1 0),(12,.ref 3 0),(15,.vptr 2 (List.length r9) (Int.toNat (IntKind.wrap .i64 (id2-4))) 0),(75,.pv (.bool (decide (((u21.queue_.getD []).length:Int)=0))))]) ⟨rfl,rfl,rfl,rfl,rfl,trivial⟩) (by first|rfl|(simp only[List.length_set,List.length_map];rfl))) ?_
  refine AW.weak (Weak.freeze 2 rfl) ?_
  refine AW.weak (σ':=⟨sl [(3,.pv (.int .i64 (imin count4 65536))),(8,.ref 1 0),(12,.ref 3 0),(15,.vptr 2 (List.length r9) (Int.toNat (IntKind.wrap .i64 (id2-4))) 0),(75,.pv (.bool (decide (((u21.queue_.getD []).length:Int)=0))))],109,[.var [.pv (.slice (List.map Rule.pv p1.rules_)),.pv (.slice (List.map Port.pv p1.ports_))],.var [.nils,.nils],.row 83 3 (List.map Port.pv r9) true,.var [.pv (.slice (List.map Rule.pv ([]:List Rule))),.vec 2 (List.length r9)]]⟩) (Weak.of_eq (Weak.slots (L:=[(3,.pv (.int .i64 (imin count4 65536))),(8,.ref 1 0),(12,.ref 3 0),(15,.vptr 2 (List.length r9) (Int.toNat (IntKind.wrap .i64 (id2-4))) 0),(75,.pv (.bool (decide (((u21.queue_.getD []).length:Int)=0))))]) kp) (by first|rfl|(simp only[List.length_set,List.length_map];rfl))) ?_
  refine AW.weak (Weak.cellPV 3 1 (cs:=[.pv (.slice (List.map Rule.pv ([]:List Rule))),.vec 2 (List.length r9)]) (a:=.vec 2 (List.length r9)) (p:=.slice (List.map Port.pv r9)) rfl rfl (by first|rfl|simp only[toPV,List.getElem?_cons_zero,List.getElem?_cons_succ,List.length_map,if_true,List.map_nil])) ?_
  refine AW.weak (σ':=⟨sl [(3,.pv (.int .i64 (imin count4 65536))),(8,.ref 1 0),(12,.ref 3 0),(15,.vptr 2 (List.length r9) (Int.toNat (IntKind.wrap .i64 (id2-4))) 0),(75,.pv (.bool (decide (((u21.queue_.getD []).length:Int)=0))))],109,[.var [.pv (.slice (List.map Rule.pv p1.rules_)),.pv (.slice (List.map Port.pv p1.ports_))],.var [.nils,.nils],.row 83 3 (List.map Port.pv r9) true,.var [.pv (.slice (List.map Rule.pv ([]:List Rule))),.pv (.slice (List.map Port.pv r9))]]⟩) (Weak.of_eq (Weak.slots (L:=[(3,.pv (.int .i64 (imin count4 65536))),(8,.ref 1 0),(12,.ref 3 0),(15,.vptr 2 (List.length r9) (Int.toNat (IntKind.wrap .i64 (id2-4))) 0),(75,.pv (.bool (decide (((u21.queue_.getD []).length:Int)=0))))]) ⟨rfl,rfl,rfl,rfl,rfl,trivial⟩) (by first|rfl|(simp only[List.length_set,List.length_map];rfl))) ?_
  apply AW.rg hS [8,9,10,11]
  ·exact di
  refine AW.ret ?_
  cases h
  exact fin
 refine AW.skip ?_
 refine AW.seq ?_
 replace h:=obs h;obtain⟨u25,q26,h⟩:=h
 have f27:=lidx_f q26
 try simp only[Int.toNat_natCast,Int.toNat_zero,Int.reduceToNat,Nat.sub_zero,List.drop_zero,List.length_map]at f27
 have f28:=oPV_idx (f:=Plumb.pv) f27.2.1
 replace h:=obs h;obtain⟨⟨r29,r30⟩,q31,h⟩:=h
 dsimp only at h
 have f32:=(hk 2 5 rfl).ret u25 q31 rfl rfl
 try dsimp only at f32
 refine AW.reg hS [(3,.pv (.int .i64 (imin count4 65536))),(8,.ref 1 0),(12,.ref 3 0),(15,.vptr 2 (List.length r9) (Int.toNat (IntKind.wrap .i64 (id2-4))) 0),(16,.pv (.str r29)),(17,.pv (.int .i64 r30))] [.var [.pv (.slice (List.map Rule.pv p1.rules_)),.pv (.slice (List.map Port.pv p1.ports_))],.var [.nils,.nils],.row 83 3 (List.map Port.pv r9) false,.var [.nils,.vec 2 (List.length r9)]] ?_ ?_
 ·exact dk1 (an f23.1 (an f23.2.1 (an f23.2.2 (an f28 (an f27.1 (an f27.2.1 (an pf_5 f32)))))))
 refine AW.seq ?_
 refine AW.seq ?_
 refine AW.reg hS [(8,.ref 1 0),(12,.ref 3 0),(15,.vptr 2 (List.length r9) (Int.toNat (IntKind.wrap .i64 (id2-4))) 0),(16,.pv (.str r29)),(17,.pv (.int .i64 r30)),(94,.pv (.bool (decide (r30=0)&&decide (imin count4 65536<(r29.length:Int)))))] [.var [.pv (.slice (List.map Rule.pv p1.rules_)),.pv (.slice (List.map Port.pv p1.ports_))],.var [.nils,.nils],.row 83 3 (List.map Port.pv r9) false,.var [.nils,.vec 2 (List.length r9)]] ?_ ?_
 ·clear h hk hpf hS hX c
  exact dh
 refine AW.iff_ h rfl rfl (fun hb33 h=>?_) (fun hb33 h=>?_)
 ·cases h
 refine AW.skip ?_
 refine AW.seq ?_
 refine AW.seq ?_
 apply AW.rg hS [8,12,15,16,96]
 ·exact di
 refine AW.iff_ h rfl rfl (fun hb34 h=>?_) (fun hb34 h=>?_)
 ·cases h
 refine AW.skip ?_
 refine AW.seq ?_
 replace h:=obs h;obtain⟨l35,q36,h⟩:=h
 have f37:=o_f q36
 replace h:=obs h;obtain⟨l38,q39,h⟩:=h
 have f40:=lslicek_f q39
 try simp only[Int.toNat_natCast,Int.toNat_zero,Int.reduceToNat,Nat.sub_zero,List.drop_zero,List.length_map]at f40
 have f40l:=f40.2.2.1
 have f40m:=lslice_m Plumb.pv q39
 try simp only[Int.toNat_natCast,Int.toNat_zero,Int.reduceToNat,Nat.sub_zero,List.drop_zero,List.length_map]at f40l f40m
 refine AW.reg hS [(8,.ref 1 0),(12,.ref 3 0),(16,.pv (.str r29))] [.var [.pv (.slice (List.map Rule.pv p1.rules_)),.pv (.slice (List.map Port.pv p1.ports_))],.var [.nils,.nils],.row 83 3 (List.map Port.pv (List.set r9 (Int.toNat (IntKind.wrap .i64 (id2-4))) (Port.mk u21.name_ (some l38) u21.opens_))) false,.var [.nils,.vec 2 (List.length (List.set r9 (Int.toNat (IntKind.wrap .i64 (id2-4))) (Port.mk u21.name_ (some l38) u21.opens_)))]] ?_ ?_
 ·simp -implicitDefEqProofs only[RUNS,qindex,Nat.reduceAdd,Nat.reduceLeDiff,Nat.reduceSub,reduceIte,Nat.reduceEqDiff,Nat.reduceLT,reduceCtorEq,Nat.reduceMul,Nat.reduceBEq,Int.reduceEq,Int.reduceToNat,Int.toNat_zero,Nat.sub_zero,if_true,if_false,eq_self,ne_eq,TYS,f23.1,f23.2.1,f23.2.2,f37,f40.1,f40.2.1,f40l,f40.2.2.2,f40m,oPV_some]<;>(try simp only[List.length_take,List.length_drop,List.length_map])
 clear f40 f40l f40m
 refine AW.seq ?_
 refine AW.weak (Weak.cellPV 3 0 (cs:=[.nils,.vec 2 (List.length (List.set r9 (Int.toNat (IntKind.wrap .i64 (id2-4))) (Port.mk u21.name_ (some l38) u21.opens_)))]) (a:=.nils) (p:=.slice (List.map Rule.pv ([]:List Rule))) rfl rfl (by first|rfl|simp only[toPV,List.getElem?_cons_zero,List.getElem?_cons_succ,List.length_map,if_true,List.map_nil])) ?_
 refine AW.weak (σ':=⟨sl [(8,.ref 1 0),(12,.ref 3 0),(16,.pv (.str r29))],109,[.var [.pv (.slice (List.map Rule.pv p1.rules_)),.pv (.slice (List.map Port.pv p1.ports_))],.var [.nils,.nils],.row 83 3 (List.map Port.pv (List.set r9 (Int.toNat (IntKind.wrap .i64 (id2-4))) (Port.mk u21.name_ (some l38) u21.opens_))) false,.var [.pv (.slice (List.map Rule.pv ([]:List Rule))),.vec 2 (List.length (List.set r9 (Int.toNat (IntKind.wrap .i64 (id2-4))) (Port.mk u21.name_ (some l38) u21.opens_)))]]⟩) (Weak.of_eq (Weak.slots (L:=[(8,.ref 1 0),(12,.ref 3 0),(16,.pv (.str r29))]) ⟨rfl,rfl,rfl,trivial⟩) (by first|rfl|(simp only[List.length_set,List.length_map];rfl))) ?_
 refine AW.weak (Weak.freeze 2 rfl) ?_
 refine AW.weak (σ':=⟨sl [(8,.ref 1 0),(12,.ref 3 0),(16,.pv (.str r29))],109,[.var [.pv (.slice (List.map Rule.pv p1.rules_)),.pv (.slice (List.map Port.pv p1.ports_))],.var [.nils,.nils],.row 83 3 (List.map Port.pv (List.set r9 (Int.toNat (IntKind.wrap .i64 (id2-4))) (Port.mk u21.name_ (some l38) u21.opens_))) true,.var [.pv (.slice (List.map Rule.pv ([]:List Rule))),.vec 2 (List.length (List.set r9 (Int.toNat (IntKind.wrap .i64 (id2-4))) (Port.mk u21.name_ (some l38) u21.opens_)))]]⟩) (Weak.of_eq (Weak.slots (L:=[(8,.ref 1 0),(12,.ref 3 0),(16,.pv (.str r29))]) kp) (by first|rfl|(simp only[List.length_set,List.length_map];rfl))) ?_
 refine AW.weak (Weak.cellPV 3 1 (cs:=[.pv (.slice (List.map Rule.pv ([]:List Rule))),.vec 2 (List.length (List.set r9 (Int.toNat (IntKind.wrap .i64 (id2-4))) (Port.mk u21.name_ (some l38) u21.opens_)))]) (a:=.vec 2 (List.length (List.set r9 (Int.toNat (IntKind.wrap .i64 (id2-4))) (Port.mk u21.name_ (some l38) u21.opens_)))) (p:=.slice (List.map Port.pv (List.set r9 (Int.toNat (IntKind.wrap .i64 (id2-4))) (Port.mk u21.name_ (some l38) u21.opens_)))) rfl rfl (by first|rfl|simp only[toPV,List.getElem?_cons_zero,List.getElem?_cons_succ,List.length_map,if_true,List.map_nil])) ?_
 refine AW.weak (σ':=⟨sl [(8,.ref 1 0),(12,.ref 3 0),(16,.pv (.str r29))],109,[.var [.pv (.slice (List.map Rule.pv p1.rules_)),.pv (.slice (List.map Port.pv p1.ports_))],.var [.nils,.nils],.row 83 3 (List.map Port.pv (List.set r9 (Int.toNat (IntKind.wrap .i64 (id2-4))) (Port.mk u21.name_ (some l38) u21.opens_))) true,.var [.pv (.slice (List.map Rule.pv ([]:List Rule))),.pv (.slice (List.map Port.pv (List.set r9 (Int.toNat (IntKind.wrap .i64 (id2-4))) (Port.mk u21.name_ (some l38) u21.opens_))))]]⟩) (Weak.of_eq (Weak.slots (L:=[(8,.ref 1 0),(12,.ref 3 0),(16,.pv (.str r29))]) ⟨rfl,rfl,rfl,trivial⟩) (by first|rfl|(simp only[List.length_set,List.length_map];rfl))) ?_
 apply AW.rg hS [8,9,10,11]
 ·exact di
 refine AW.ret ?_
 cases h
 exact fin
set_option maxHeartbeats 4000000 in
theorem g_F39(c:AllG env []):GoodH env (S39 F39):=by
 obtain⟨O,X,hS,hX,hpf,hk⟩:=orcs (pf:=pfn) c
 refine GH (fn:=Tryz.f39) fn_39 rfl rfl 26 rfl [] rfl ?_
 rintro(⟨a1,b2⟩:(List Attr)×(List Attr)) (r:Bool) h m em
 refine GHs rfl rfl em rfl rfl rfl ?_
 clear em m
 replace h:F39 a1 b2=some r:=h
 rw[F39]at h
 refine AW.seq ?_
 apply AW.rg hS [0,1]
 ·exact di
 refine AW.seq ?_
 refine AW.seq ?_
 apply AW.rg hS [0,1,10]
 ·exact di
 refine AW.iff_ h rfl rfl (fun hb4 h=>?_) (fun hb4 h=>?_)
 ·cases h
 refine AW.skip ?_
 refine AW.seq ?_
 refine AW.seq ?_
 apply AW.rg hS [0,1,5]
 ·exact di
 refine AW.block ?_
 refine AW.lp (α:=Nat×Int) (fun(_,i5)=>⟨sl [(0,.pv (.slice (List.map Attr.pv a1))),(1,.pv (.slice (List.map Attr.pv b2))),(5,.pv (.int .i64 i5))],26,[]⟩) (fun x=>iter (F39_b1 a1 b2) x.1 x.2=some r) (fun x=>x.1) (BIG,0) (Weak.slots kp) h ?_
 clear h
 intro⟨n17,i5⟩ h
 replace h:=iter_some h;obtain⟨m8,rfl,h⟩:=h
 rw[F39_b1]at h
 try dsimp only at h
 refine AW.st ?_
 refine AW.seq ?_
 refine AW.seq ?_
 apply AW.rg hS [0,1,5,14]
 ·exact di
 refine AW.iff_ h rfl rfl (fun hb9 h=>?_) (fun hb9 h=>?_)
 ·refine AW.skip ?_
  refine AW.seq ?_
  refine AW.block ?_
  refine AW.seq ?_
  replace h:=obs h;obtain⟨u10,q11,h⟩:=h
  have f12:=lidx_f q11
  replace h:=obs h;obtain⟨u13,q14,h⟩:=h
  have f15:=lidx_f q14
  apply AW.dgk mixed hS [0,1,5,25] (ordp hpf (by kernel_rfl))
  ·exact di1 (an f12.1 (an f12.2.1 (an f15.1 f15.2.1)))
  refine AW.iff_ h rfl rfl (fun hb16 h=>?_) (fun hb16 h=>?_)
  ·cases h
  refine AW.skip ?_
  apply AW.rg hS [0,1,5]
  ·exact di
  exact⟨(m8,IntKind.wrap .i64 (i5+1)),h,(Weak.norm (m:=0) (Nat.le_of_ble_eq_true rfl) kp hq rfl rfl),Nat.lt_succ_self _⟩
 refine AW.exit ?_
 refine AW.seq ?_
 apply AW.rg hS [4]
 ·exact di
 refine AW.ret ?_
 cases h
 exact fin
set_option maxHeartbeats 4000000 in
theorem g_F12(c:AllG env [(S39 F39)]):GoodH env (S12 F12):=by
 obtain⟨O,X,hS,hX,hpf,hk⟩:=orcs (pf:=pfn) c
 have pf_39:O.pf 39=true:=pft hpf 39 rfl
 refine GH (fn:=Tryz.f12) fn_12 rfl rfl 45 rfl [] rfl ?_
 rintro(⟨a1,b2⟩:Plumb×Plumb) (r:Bool) h m em
 refine GHs rfl rfl em rfl rfl rfl ?_
 clear em m
 replace h:F12 a1 b2=some r:=h
 rw[F12]at h
 refine AW.seq ?_
 apply AW.rg hS [2,3]
 ·exact di
 refine AW.seq ?_
 replace h:=obs h;obtain⟨r4,q5,h⟩:=h
 replace q5:=guardO_t q5
 have f6:=fun hg=>(hk 0 39 rfl).ret (a1.attrs_,b2.attrs_) (q5 hg) rfl rfl
 try dsimp only at f6
 refine AW.reg hS [(4,.pv (.bool (((((decide (a1.src_=b2.src_)&&decide (a1.dst_=b2.dst_))&&decide (a1.dir_=b2.dir_))&&decide (a1.type_=b2.type_))&&decide (a1.data_=b2.data_))&&r4)))] [.var [.pv (.str a1.src_),.pv (.str a1.dst_),.pv (.str a1.dir_),.pv (.str a1.type_),.pv (.slice (List.map Attr.pv a1.attrs_)),.pv (.str a1.data_)],.var [.pv (.str b2.src_),.pv (.str b2.dst_),.pv (.str b2.dir_),.pv (.str b2.type_),.pv (.slice (List.map Attr.pv b2.attrs_)),.pv (.str b2.data_)]] ?_ ?_
 ·clear h hk hpf hS hX c
  exact dh1 (an pf_39 f6)
 refine AW.ret ?_
 cases h
 exact fin
set_option maxHeartbeats 4000000 in
theorem g_F3(c:AllG env [(S4 F4),(S5 F5),(S6 F6),(S7 F7),(S8 F8),(S9 F9),(S10 F10),(S11 F11),(S12 F12)]):GoodH env (S3 F3):=by
 obtain⟨O,X,hS,hX,hpf,hk⟩:=orcs (pf:=pfn) c
 have pf_4:O.pf 4=true:=pft hpf 4 rfl
 have pf_5:O.pf 5=true:=pft hpf 5 rfl
 have pf_6:O.pf 6=true:=pft hpf 6 rfl
 have pf_7:O.pf 7=true:=pft hpf 7 rfl
 have pf_8:O.pf 8=true:=pft hpf 8 rfl
 have pf_9:O.pf 9=true:=pft hpf 9 rfl
 have pf_10:O.pf 10=true:=pft hpf 10 rfl
 have pf_11:O.pf 11=true:=pft hpf 11 rfl
 have pf_12:O.pf 12=true:=pft hpf 12 rfl
 refine GH (fn:=Tryz.f3) fn_3 rfl rfl 153 rfl [] rfl ?_
 rintro(m1:Plumb) (r:Bool) h m em
 refine GHs rfl rfl em rfl rfl rfl ?_
 clear em m
 replace h:F3 m1=some r:=h
 rw[F3]at h
 refine AW.seq ?_
 apply AW.rg hS [1]
 ·exact di
 refine AW.seq ?_
 refine AW.seq ?_
 refine AW.reg hS [(1,.ref 0 0),(44,.pv (.bool ((decide (10000<IntKind.wrap .i64 ((IntKind.wrap .i64 ((m1.src_.length:Int)+(m1.dir_.length:Int)))+(m1.type_.length:Int)))||decide (40<(m1.attrs_.length:Int)))||decide (70000<(m1.data_.length:Int)))))] [.var [.pv (.str m1.src_),.pv (.str m1.dst_),.pv (.str m1.dir_),.pv (.str m1.type_),.pv (.slice (List.map Attr.pv m1.attrs_)),.pv (.str m1.data_)]] ?_ ?_
 ·clear h hk hpf hS hX c
  exact dh
 refine AW.iff_ h rfl rfl (fun hb3 h=>?_) (fun hb3 h=>?_)
 ·refine AW.seq ?_
  replace h:=obs h;obtain⟨r4,q5,h⟩:=h
  have f6:=hk 0 4 rfl
  replace f6:=f6.ret () ((S4_F F4).trans q5) rfl rfl
  try dsimp only at f6
  apply AW.rg hS [2]
  ·exact di1 (an pf_4 f6)
  refine AW.ret ?_
  cases h
  exact fin
 refine AW.skip ?_
 refine AW.seq ?_
 apply AW.rg hS [1]
 ·exact di
 refine AW.seq ?_
 replace h:=obs h;obtain⟨⟨r7,r8⟩,q9,h⟩:=h
 dsimp only at h
 have f10:=(hk 1 5 rfl).ret (Plumb.mk m1.src_ [101,100,105,116] m1.dir_ m1.type_ m1.attrs_ m1.data_) q9 rfl rfl
 try dsimp only at f10
 try simp only[List.map_cons,List.map_nil,oPV_none,oPV_some,Attr.pv_eq,P22_eq,Plumb.pv_eq,Token.pv_eq,P50_eq,Redir.pv_eq,P51_eq,Cmd.pv_eq,P46_eq,Word.pv_eq,P54_eq,Var.pv_eq,P324_eq,GEnv.pv_eq,GValue.pv_eq,P59_eq,Qid.pv_eq,P66_eq,Dir.pv_eq,Msg.pv_eq,Call.pv_eq,P60_eq,Client.pv_eq,S274.pv_eq,S276.pv_eq,P81_eq,Port.pv_eq,Pattern.pv_eq,P153_eq,Rule.pv_eq,P29_eq,P30_eq,Plumber.pv_eq]at f10
 apply AW.rg hS [1,3,4]
 ·exact di1 (an pf_5 f10)
 refine AW.seq ?_
 refine AW.seq ?_
 apply AW.rg hS [1,3,53]
 ·exact di
 refine AW.iff_ h rfl rfl (fun hb11 h=>?_) (fun hb11 h=>?_)
 ·refine AW.seq ?_
  replace h:=obs h;obtain⟨r12,q13,h⟩:=h
  have f14:=hk 0 4 rfl
  replace f14:=f14.ret () ((S4_F F4).trans q13) rfl rfl
  try dsimp only at f14
  apply AW.rg hS [2]
  ·exact di1 (an pf_4 f14)
  refine AW.ret ?_
  cases h
  exact fin
 refine AW.skip ?_
 refine AW.seq ?_
 replace h:=obs h;obtain⟨⟨r15,r16⟩,q17,h⟩:=h
 dsimp only at h
 have f18:=(hk 2 6 rfl).ret ([[119,101,98],[101,100,105,116]]:List Str) q17 rfl rfl
 try dsimp only at f18
 try simp only[List.map_cons,List.map_nil,oPV_none,oPV_some,Attr.pv_eq,P22_eq,Plumb.pv_eq,Token.pv_eq,P50_eq,Redir.pv_eq,P51_eq,Cmd.pv_eq,P46_eq,Word.pv_eq,P54_eq,Var.pv_eq,P324_eq,GEnv.pv_eq,GValue.pv_eq,P59_eq,Qid.pv_eq,P66_eq,Dir.pv_eq,Msg.pv_eq,Call.pv_eq,P60_eq,Client.pv_eq,S274.pv_eq,S276.pv_eq,P81_eq,Port.pv_eq,Pattern.pv_eq,P153_eq,Rule.pv_eq,P29_eq,P30_eq,Plumber.pv_eq]at f18
 apply AW.rg hS [1,3,4,5]
 ·exact di1 (an pf_6 f18)
 refine AW.seq ?_
 replace h:=obs h;obtain⟨⟨r19,r20⟩,q21,h⟩:=h
 dsimp only at h
 have f22:=(hk 3 7 rfl).ret (r15,1,([101,100,105,116]:Str)) q21 rfl rfl
 try dsimp only at f22
 try simp only[List.map_cons,List.map_nil,oPV_none,oPV_some,Attr.pv_eq,P22_eq,Plumb.pv_eq,Token.pv_eq,P50_eq,Redir.pv_eq,P51_eq,Cmd.pv_eq,P46_eq,Word.pv_eq,P54_eq,Var.pv_eq,P324_eq,GEnv.pv_eq,GValue.pv_eq,P59_eq,Qid.pv_eq,P66_eq,Dir.pv_eq,Msg.pv_eq,Call.pv_eq,P60_eq,Client.pv_eq,S274.pv_eq,S276.pv_eq,P81_eq,Port.pv_eq,Pattern.pv_eq,P153_eq,Rule.pv_eq,P29_eq,P30_eq,Plumber.pv_eq]at f22
 apply AW.rg hS [1,3,4,5,6,7]
 ·exact di1 (an pf_7 f22)
 refine AW.seq ?_
 replace h:=obs h;obtain⟨⟨r23,r24⟩,q25,h⟩:=h
 dsimp only at h
 have f26:=(hk 4 8 rfl).ret (r15,r19,0) q25 rfl rfl
 try dsimp only at f26
 apply AW.rg hS [1,3,4,5,6,7,8]
 ·exact di1 (an pf_8 f26)
 refine AW.seq ?_
 replace h:=obs h;obtain⟨⟨r27,r28,r29⟩,q30,h⟩:=h
 dsimp only at h
 have f31:=(hk 5 9 rfl).ret (r23,3,0,r7) q30 rfl rfl
 try dsimp only at f31
 apply AW.rg hS [1,3,4,6,7,8,9,10,11]
 ·exact di1 (an pf_9 f31)
 refine AW.seq ?_
 refine AW.seq ?_
 refine AW.reg hS [(1,.ref 0 0),(3,.pv (.str r7)),(6,.pv (.int .i64 r19)),(9,.ref 2 0),(10,.pv (.int .i64 r28)),(11,.pv (.int .i64 r29)),(87,.pv (.bool ((!decide (r16=0)||!decide (r20=0))||!decide (r24=0))))] [.var [.pv (.str m1.src_),.pv (.str [101,100,105,116]),.pv (.str m1.dir_),.pv (.str m1.type_),.pv (.slice (List.map Attr.pv m1.attrs_)),.pv (.str m1.data_)],.var [.pv (.slice (List.map Rule.pv r23.rules_)),.pv (.slice (List.map Port.pv r23.ports_))],.var [.pv (.slice (List.map Rule.pv r27.rules_)),.pv (.slice (List.map Port.pv r27.ports_))]] ?_ ?_
 ·clear h hk hpf hS hX c
  exact dh
 refine AW.iff_ h rfl rfl (fun hb32 h=>?_) (fun hb32 h=>?_)
 ·cases h
 refine AW.skip ?_
 refine AW.seq ?_
 refine AW.seq ?_
 apply AW.rg hS [1,3,6,9,10,11,90]
 ·exact di
 refine AW.iff_ h rfl rfl (fun hb33 h=>?_) (fun hb33 h=>?_)
 ·refine AW.seq ?_
  replace h:=obs h;obtain⟨r34,q35,h⟩:=h
  have f36:=hk 0 4 rfl
  replace q35:=guardO_t q35
  replace f36:=fun hg=>f36.ret () ((S4_F F4).trans (q35 hg)) rfl rfl
  try dsimp only at f36
  refine AW.reg hS [(2,.pv (.bool (decide (r29=4)&&r34)))] [.var [.pv (.str m1.src_),.pv (.str [101,100,105,116]),.pv (.str m1.dir_),.pv (.str m1.type_),.pv (.slice (List.map Attr.pv m1.attrs_)),.pv (.str m1.data_)],.var [.pv (.slice (List.map Rule.pv r23.rules_)),.pv (.slice (List.map Port.pv r23.ports_))],.var [.pv (.slice (List.map Rule.pv r27.rules_)),.pv (.slice (List.map Port.pv r27.ports_))]] ?_ ?_
  ·clear h hk hpf hS hX c
   exact dh1 (an pf_4 f36)
  refine AW.ret ?_
  cases h
  exact fin
 refine AW.skip ?_
 refine AW.seq ?_
 replace h:=obs h;obtain⟨⟨r37,r38,r39,r40⟩,q41,h⟩:=h
 dsimp only at h
 have f42:=(hk 6 10 rfl).ret (r27,r19,0,65536) q41 rfl rfl
 try dsimp only at f42
 apply AW.rg hS [1,3,6,9,10,11,12,13,14]
 ·exact di1 (an pf_10 f42)
 refine AW.seq ?_
 replace h:=obs h;obtain⟨⟨r43,r44⟩,q45,h⟩:=h
 dsimp only at h
 have f46:=(hk 7 11 rfl).ret r38 q45 rfl rfl
 try dsimp only at f46
 apply AW.rg hS [1,3,6,9,10,11,12,13,14,15,16]
 ·exact di1 (an pf_11 f46)
 refine AW.seq ?_
 replace h:=obs h;obtain⟨⟨r47,r48,r49,r50⟩,q51,h⟩:=h
 dsimp only at h
 have f52:=(hk 6 10 rfl).ret (r37,r19,0,65536) q51 rfl rfl
 try dsimp only at f52
 apply AW.rg hS [1,3,10,11,12,13,14,15,16,19]
 ·exact di1 (an pf_10 f52)
 refine AW.seq ?_
 replace h:=obs h;obtain⟨r53,q54,h⟩:=h
 replace q54:=guardO_t q54
 have f55:=fun hg=>(hk 8 12 rfl).ret (r43,Plumb.mk m1.src_ [101,100,105,116] m1.dir_ m1.type_ m1.attrs_ m1.data_) (q54 hg) rfl rfl
 try dsimp only at f55
 try simp only[List.map_cons,List.map_nil,oPV_none,oPV_some,Attr.pv_eq,P22_eq,Plumb.pv_eq,Token.pv_eq,P50_eq,Redir.pv_eq,P51_eq,Cmd.pv_eq,P46_eq,Word.pv_eq,P54_eq,Var.pv_eq,P324_eq,GEnv.pv_eq,GValue.pv_eq,P59_eq,Qid.pv_eq,P66_eq,Dir.pv_eq,Msg.pv_eq,Call.pv_eq,P60_eq,Client.pv_eq,S274.pv_eq,S276.pv_eq,P81_eq,Port.pv_eq,Pattern.pv_eq,P153_eq,Rule.pv_eq,P29_eq,P30_eq,Plumber.pv_eq]at f55
 replace h:=obs h;obtain⟨r56,q57,h⟩:=h
 have f58:=hk 0 4 rfl
 replace q57:=guardO_t q57
 replace f58:=fun hg=>f58.ret () ((S4_F F4).trans (q57 hg)) rfl rfl
 try dsimp only at f58
 refine AW.reg hS [(2,.pv (.bool ((((((((decide (r29=0)&&decide (r28=(r7.length:Int)))&&decide (r38=r7))&&!r39)&&decide (r40=0))&&decide (r44=0))&&r53)&&r49)&&r56)))] [.var [.pv (.str m1.src_),.pv (.str [101,100,105,116]),.pv (.str m1.dir_),.pv (.str m1.type_),.pv (.slice (List.map Attr.pv m1.attrs_)),.pv (.str m1.data_)],.var [.pv (.slice (List.map Rule.pv r23.rules_)),.pv (.slice (List.map Port.pv r23.ports_))],.var [.pv (.slice (List.map Rule.pv r37.rules_)),.pv (.slice (List.map Port.pv r37.ports_))],.var [.pv (.str r43.src_),.pv (.str r43.dst_),.pv (.str r43.dir_),.pv (.str r43.type_),.pv (.slice (List.map Attr.pv r43.attrs_)),.pv (.str r43.data_)],.var [.pv (.slice (List.map Rule.pv r47.rules_)),.pv (.slice (List.map Port.pv r47.ports_))]] ?_ ?_
 ·clear h hk hpf hS hX c
  exact dh1 (an pf_12 (an f55 (an pf_4 f58)))
 refine AW.ret ?_
 cases h
 exact fin
end Go.Abs.U54
