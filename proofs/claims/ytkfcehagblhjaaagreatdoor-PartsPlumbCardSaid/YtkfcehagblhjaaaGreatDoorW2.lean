import Derived.Test.YtkfcehagblhjaaaGreatDoorD1
set_option linter.unusedVariables false
set_option linter.unusedSimpArgs false
set_option linter.defProp false
set_option maxRecDepth 8000
namespace Go.Abs.U54
open Go.RowKit Go.Proofs
set_option maxHeartbeats 4000000 in
theorem g_F237(c:AllG env []):GoodH env (S237 F237):=by
 obtain⟨O,X,hS,hX,hpf,hk⟩:=orcs (pf:=pfn) c
 refine GH (fn:=Tryz.f237) fn_237 rfl rfl 23 rfl [] rfl ?_
 rintro(t1:Token) (r:Bool) h m em
 refine GHs rfl rfl em rfl rfl rfl ?_
 clear em m
 replace h:F237 t1=some r:=h
 rw[F237]at h
 refine AW.seq ?_
 apply AW.rg hS [1]
 ·exact di
 refine AW.seq ?_
 replace h:=obs h;obtain⟨c3,q4,h⟩:=h
 have f5:=sidx_g (guardO_t q4)
 try simp only[Int.toNat_natCast,Int.toNat_zero,Int.reduceToNat,Nat.sub_zero,List.drop_zero,List.length_map]at f5
 refine AW.reg hS [(2,.pv (.bool (decide (t1.kind_=4)||(decide (t1.kind_=2)&&(decide (c3=60)||decide (c3=62))))))] [.var [.pv (.int .i64 t1.kind_),.pv (.int .i64 t1.at_),.pv (.str t1.text_),.pv (.str t1.quoted_)]] ?_ ?_
 ·clear h hk hpf hS hX c
  exact dh1 (an f5.1 (an f5.2.1 f5.2.2))
 refine AW.ret ?_
 cases h
 exact fin
set_option maxHeartbeats 4000000 in
theorem g_F169(c:AllG env [(S172 F172),(S171 F171),(S235 F235),(S236 F236),(S237 F237)]):GoodH env (S169 F169):=by
 obtain⟨O,X,hS,hX,hpf,hk⟩:=orcs (pf:=pfn) c
 have pf_171:O.pf 171=true:=pft hpf 171 rfl
 have pf_172:O.pf 172=false:=pft hpf 172 rfl
 have pf_235:O.pf 235=true:=pft hpf 235 rfl
 have pf_236:O.pf 236=true:=pft hpf 236 rfl
 have pf_237:O.pf 237=true:=pft hpf 237 rfl
 refine GH (fn:=Tryz.f169) fn_169 rfl rfl 38 rfl [] rfl ?_
 rintro(⟨inCase1,x2,x3,x4,x5⟩:Bool×Str×(List Token)×(List Str)×Int) (r:Bool) h m em
 refine GHs rfl rfl em rfl rfl rfl ?_
 clear em m
 replace h:F169 inCase1 x2 x3 x4 x5=some r:=h
 rw[F169]at h
 refine AW.seq ?_
 apply AW.rg hS [0,1]
 ·exact di
 refine AW.seq ?_
 replace h:=obs h;obtain⟨r7,q8,h⟩:=h
 have f9:=(hk 0 172 rfl).ret (0,x2,x3,x4,x5) q8 rfl rfl
 try dsimp only at f9
 have e10:=ecall0 f9 rfl rfl rfl rfl
 apply AW.rg hS [0,1,5]
 ·exact di1 (an pf_172 e10)
 refine AW.seq ?_
 refine AW.seq ?_
 replace h:=obs h;obtain⟨r11,q12,h⟩:=h
 replace q12:=guardO_t q12
 have f13:=fun hg=>(hk 1 171 rfl).ret r7 (q12 hg) rfl rfl
 try dsimp only at f13
 refine AW.cases ((inCase1&&decide (r11=[99,97,115,101]))) (fun hsp14=>?_) (fun hsp14=>?_)
 ·replace h:=bif_t hsp14 h
  try simp only[Bool.and_eq_true,Bool.or_eq_false_iff]at hsp14
  replace h:=obs h;obtain⟨r14,q15,h⟩:=h
  have f16:=(hk 0 172 rfl).ret (1,x2,x3,x4,x5) q15 rfl rfl
  try dsimp only at f16
  have e17:=ecall0 f16 rfl rfl rfl rfl
  replace h:=obs h;obtain⟨r18,q19,h⟩:=h
  have f20:=(hk 2 235 rfl).ret (r14,([61]:Str)) q19 rfl rfl
  try dsimp only at f20
  try simp only[List.map_cons,List.map_nil,oPV_none,oPV_some,Attr.pv_eq,P22_eq,Plumb.pv_eq,Token.pv_eq,P50_eq,Redir.pv_eq,P51_eq,Cmd.pv_eq,P46_eq,Word.pv_eq,P54_eq,Var.pv_eq,P324_eq,GEnv.pv_eq,GValue.pv_eq,P59_eq,Qid.pv_eq,P66_eq,Dir.pv_eq,Msg.pv_eq,Call.pv_eq,P60_eq,Client.pv_eq,S274.pv_eq,S276.pv_eq,P81_eq,Port.pv_eq,Pattern.pv_eq,P153_eq,Rule.pv_eq,P29_eq,P30_eq,Plumber.pv_eq]at f20
  refine AW.reg hS [(5,.ref 1 0),(19,.pv (.bool (!r18)))] [.var [.pv (.str x2),.pv (.slice (List.map Token.pv x3)),.pv (.slice (List.map PV.str x4)),.pv (.int .i64 x5)],.var [.pv (.int .i64 r7.kind_),.pv (.int .i64 r7.at_),.pv (.str r7.text_),.pv (.str r7.quoted_)]] ?_ ?_
  ·clear h hk hpf hS hX c
   exact dh1 (an pf_171 (an f13 (an hsp14 (an pf_172 (an e17 (an pf_235 f20))))))
  refine AW.iff_ h rfl rfl (fun hb21 h=>?_) (fun hb21 h=>?_)
  ·cases h
  refine AW.skip ?_
  refine AW.seq ?_
  replace h:=obs h;obtain⟨r22,q23,h⟩:=h
  have f24:=(hk 3 236 rfl).ret r7 q23 rfl rfl
  try dsimp only at f24
  replace h:=obs h;obtain⟨r25,q26,h⟩:=h
  replace q26:=guardO_t q26
  have f27:=fun hg=>(hk 4 237 rfl).ret r7 (q26 hg) rfl rfl
  try dsimp only at f27
  replace h:=obs h;obtain⟨r28,q29,h⟩:=h
  replace q29:=guardO_t q29
  have f30:=fun hg=>(hk 2 235 rfl).ret (r7,([33]:Str)) (q29 hg) rfl rfl
  try dsimp only at f30
  try simp only[List.map_cons,List.map_nil,oPV_none,oPV_some,Attr.pv_eq,P22_eq,Plumb.pv_eq,Token.pv_eq,P50_eq,Redir.pv_eq,P51_eq,Cmd.pv_eq,P46_eq,Word.pv_eq,P54_eq,Var.pv_eq,P324_eq,GEnv.pv_eq,GValue.pv_eq,P59_eq,Qid.pv_eq,P66_eq,Dir.pv_eq,Msg.pv_eq,Call.pv_eq,P60_eq,Client.pv_eq,S274.pv_eq,S276.pv_eq,P81_eq,Port.pv_eq,Pattern.pv_eq,P153_eq,Rule.pv_eq,P29_eq,P30_eq,Plumber.pv_eq]at f30
  replace h:=obs h;obtain⟨r31,q32,h⟩:=h
  replace q32:=guardO_t q32
  have f33:=fun hg=>(hk 2 235 rfl).ret (r7,([64]:Str)) (q32 hg) rfl rfl
  try dsimp only at f33
  try simp only[List.map_cons,List.map_nil,oPV_none,oPV_some,Attr.pv_eq,P22_eq,Plumb.pv_eq,Token.pv_eq,P50_eq,Redir.pv_eq,P51_eq,Cmd.pv_eq,P46_eq,Word.pv_eq,P54_eq,Var.pv_eq,P324_eq,GEnv.pv_eq,GValue.pv_eq,P59_eq,Qid.pv_eq,P66_eq,Dir.pv_eq,Msg.pv_eq,Call.pv_eq,P60_eq,Client.pv_eq,S274.pv_eq,S276.pv_eq,P81_eq,Port.pv_eq,Pattern.pv_eq,P153_eq,Rule.pv_eq,P29_eq,P30_eq,Plumber.pv_eq]at f33
  replace h:=obs h;obtain⟨r34,q35,h⟩:=h
  replace q35:=guardO_t q35
  have f36:=fun hg=>(hk 2 235 rfl).ret (r7,([123]:Str)) (q35 hg) rfl rfl
  try dsimp only at f36
  try simp only[List.map_cons,List.map_nil,oPV_none,oPV_some,Attr.pv_eq,P22_eq,Plumb.pv_eq,Token.pv_eq,P50_eq,Redir.pv_eq,P51_eq,Cmd.pv_eq,P46_eq,Word.pv_eq,P54_eq,Var.pv_eq,P324_eq,GEnv.pv_eq,GValue.pv_eq,P59_eq,Qid.pv_eq,P66_eq,Dir.pv_eq,Msg.pv_eq,Call.pv_eq,P60_eq,Client.pv_eq,S274.pv_eq,S276.pv_eq,P81_eq,Port.pv_eq,Pattern.pv_eq,P153_eq,Rule.pv_eq,P29_eq,P30_eq,Plumber.pv_eq]at f36
  refine AW.reg hS [(4,.pv (.bool ((((r22||r25)||r28)||r31)||r34)))] [.var [.pv (.str x2),.pv (.slice (List.map Token.pv x3)),.pv (.slice (List.map PV.str x4)),.pv (.int .i64 x5)],.var [.pv (.int .i64 r7.kind_),.pv (.int .i64 r7.at_),.pv (.str r7.text_),.pv (.str r7.quoted_)]] ?_ ?_
  ·clear h hk hpf hS hX c
   exact dh1 (an pf_236 (an f24 (an pf_237 (an f27 (an pf_235 (an f30 (an f33 f36)))))))
  refine AW.ret ?_
  cases h
  exact fin
 replace h:=bif_f hsp14 h
 try simp only[Bool.and_eq_true,Bool.or_eq_false_iff]at hsp14
 refine AW.reg hS [(5,.ref 1 0),(19,.pv (.bool false))] [.var [.pv (.str x2),.pv (.slice (List.map Token.pv x3)),.pv (.slice (List.map PV.str x4)),.pv (.int .i64 x5)],.var [.pv (.int .i64 r7.kind_),.pv (.int .i64 r7.at_),.pv (.str r7.text_),.pv (.str r7.quoted_)]] ?_ ?_
 ·clear h hk hpf hS hX c
  exact dh1 (an pf_171 (an f13 hsp14))
 refine AW.cond (b:=false) rfl (fun hb=>absurd hb (by decide)) (fun _=>?_)
 refine AW.skip ?_
 refine AW.seq ?_
 replace h:=obs h;obtain⟨r15,q16,h⟩:=h
 have f17:=(hk 3 236 rfl).ret r7 q16 rfl rfl
 try dsimp only at f17
 replace h:=obs h;obtain⟨r18,q19,h⟩:=h
 replace q19:=guardO_t q19
 have f20:=fun hg=>(hk 4 237 rfl).ret r7 (q19 hg) rfl rfl
 try dsimp only at f20
 replace h:=obs h;obtain⟨r21,q22,h⟩:=h
 replace q22:=guardO_t q22
 have f23:=fun hg=>(hk 2 235 rfl).ret (r7,([33]:Str)) (q22 hg) rfl rfl
 try dsimp only at f23
 try simp only[List.map_cons,List.map_nil,oPV_none,oPV_some,Attr.pv_eq,P22_eq,Plumb.pv_eq,Token.pv_eq,P50_eq,Redir.pv_eq,P51_eq,Cmd.pv_eq,P46_eq,Word.pv_eq,P54_eq,Var.pv_eq,P324_eq,GEnv.pv_eq,GValue.pv_eq,P59_eq,Qid.pv_eq,P66_eq,Dir.pv_eq,Msg.pv_eq,Call.pv_eq,P60_eq,Client.pv_eq,S274.pv_eq,S276.pv_eq,P81_eq,Port.pv_eq,Pattern.pv_eq,P153_eq,Rule.pv_eq,P29_eq,P30_eq,Plumber.pv_eq]at f23
 replace h:=obs h;obtain⟨r24,q25,h⟩:=h
 replace q25:=guardO_t q25
 have f26:=fun hg=>(hk 2 235 rfl).ret (r7,([64]:Str)) (q25 hg) rfl rfl
 try dsimp only at f26
 try simp only[List.map_cons,List.map_nil,oPV_none,oPV_some,Attr.pv_eq,P22_eq,Plumb.pv_eq,Token.pv_eq,P50_eq,Redir.pv_eq,P51_eq,Cmd.pv_eq,P46_eq,Word.pv_eq,P54_eq,Var.pv_eq,P324_eq,GEnv.pv_eq,GValue.pv_eq,P59_eq,Qid.pv_eq,P66_eq,Dir.pv_eq,Msg.pv_eq,Call.pv_eq,P60_eq,Client.pv_eq,S274.pv_eq,S276.pv_eq,P81_eq,Port.pv_eq,Pattern.pv_eq,P153_eq,Rule.pv_eq,P29_eq,P30_eq,Plumber.pv_eq]at f26
 replace h:=obs h;obtain⟨r27,q28,h⟩:=h
 replace q28:=guardO_t q28
 have f29:=fun hg=>(hk 2 235 rfl).ret (r7,([123]:Str)) (q28 hg) rfl rfl
 try dsimp only at f29
 try simp only[List.map_cons,List.map_nil,oPV_none,oPV_some,Attr.pv_eq,P22_eq,Plumb.pv_eq,Token.pv_eq,P50_eq,Redir.pv_eq,P51_eq,Cmd.pv_eq,P46_eq,Word.pv_eq,P54_eq,Var.pv_eq,P324_eq,GEnv.pv_eq,GValue.pv_eq,P59_eq,Qid.pv_eq,P66_eq,Dir.pv_eq,Msg.pv_eq,Call.pv_eq,P60_eq,Client.pv_eq,S274.pv_eq,S276.pv_eq,P81_eq,Port.pv_eq,Pattern.pv_eq,P153_eq,Rule.pv_eq,P29_eq,P30_eq,Plumber.pv_eq]at f29
 refine AW.reg hS [(4,.pv (.bool ((((r15||r18)||r21)||r24)||r27)))] [.var [.pv (.str x2),.pv (.slice (List.map Token.pv x3)),.pv (.slice (List.map PV.str x4)),.pv (.int .i64 x5)],.var [.pv (.int .i64 r7.kind_),.pv (.int .i64 r7.at_),.pv (.str r7.text_),.pv (.str r7.quoted_)]] ?_ ?_
 ·clear h hk hpf hS hX c
  exact dh1 (an pf_236 (an f17 (an pf_237 (an f20 (an pf_235 (an f23 (an f26 f29)))))))
 refine AW.ret ?_
 cases h
 exact fin
set_option maxHeartbeats 4000000 in
theorem g_F326(c:AllG env []):GoodH env (S326 F326):=by
 obtain⟨O,X,hS,hX,hpf,hk⟩:=orcs (pf:=pfn) c
 refine GH (fn:=Tryz.f326) fn_326 rfl rfl 46 rfl [] rfl ?_
 rintro(s1:Str) (r:Bool) h m em
 refine GHs rfl rfl em rfl rfl rfl ?_
 clear em m
 replace h:F326 s1=some r:=h
 rw[F326]at h
 refine AW.seq ?_
 apply AW.rg hS [0]
 ·exact di
 refine AW.seq ?_
 refine AW.seq ?_
 apply AW.rg hS [0,6,7]
 ·exact di
 refine AW.block ?_
 refine AW.lp (α:=Nat×Int) (fun(_,i3)=>⟨sl [(0,.pv (.str s1)),(6,.pv (.int .i64 (s1.length:Int))),(7,.pv (.int .i64 i3))],46,[]⟩) (fun x=>iter (F326_b1 s1) x.1 x.2=some r) (fun x=>x.1) (BIG,0) (Weak.slots kp) h ?_
 clear h
 intro⟨n12,i3⟩ h
 replace h:=iter_some h;obtain⟨m6,rfl,h⟩:=h
 rw[F326_b1]at h
 try dsimp only at h
 refine AW.st ?_
 refine AW.seq ?_
 apply AW.rg hS [0,6,7,8]
 ·exact di
 refine AW.seq ?_
 refine AW.iff_ h rfl rfl (fun hb7 h=>?_) (fun hb7 h=>?_)
 ·refine AW.skip ?_
  refine AW.seq ?_
  refine AW.block ?_
  refine AW.seq ?_
  apply AW.rg hS [0,3,6,7]
  ·exact di
  refine AW.seq ?_
  replace h:=obs h;obtain⟨c8,q9,h⟩:=h
  have f10:=sidx_f q9
  apply AW.rg hS [0,4,6,7]
  ·exact di1 (an f10.1 (an f10.2.1 f10.2.2))
  refine AW.seq ?_
  refine AW.reg hS [(0,.pv (.str s1)),(6,.pv (.int .i64 (s1.length:Int))),(7,.pv (.int .i64 i3)),(42,.pv (.bool (((((decide (c8<97)||decide (122<c8))&&(decide (c8<65)||decide (90<c8)))&&(decide (c8<48)||decide (57<c8)))&&!decide (c8=95))&&!decide (c8=42))))] [] ?_ ?_
  ·clear h hk hpf hS hX c
   exact dh
  refine AW.iff_ h rfl rfl (fun hb11 h=>?_) (fun hb11 h=>?_)
  ·cases h
  refine AW.skip ?_
  apply AW.rg hS [0,6,7]
  ·exact di
  exact⟨(m6,IntKind.wrap .i64 (i3+1)),h,(Weak.norm (m:=0) (Nat.le_of_ble_eq_true rfl) kp hq rfl rfl),Nat.lt_succ_self _⟩
 refine AW.exit ?_
 refine AW.seq ?_
 apply AW.rg hS [2]
 ·exact di
 refine AW.ret ?_
 cases h
 exact fin
set_option maxHeartbeats 4000000 in
theorem g_F356(c:AllG env [(S172 F172),(S236 F236)]):GoodH env (S356 F356):=by
 obtain⟨O,X,hS,hX,hpf,hk⟩:=orcs (pf:=pfn) c
 have pf_172:O.pf 172=false:=pft hpf 172 rfl
 have pf_236:O.pf 236=true:=pft hpf 236 rfl
 refine GH (fn:=Tryz.f356) fn_356 rfl rfl 54 rfl [] rfl ?_
 rintro(⟨x1,x2,x3,x4⟩:Str×(List Token)×(List Str)×Int) (r:Word×Int) h m em
 refine GHs rfl rfl em rfl rfl rfl ?_
 clear em m
 replace h:F356 x1 x2 x3 x4=some r:=h
 rw[F356]at h
 refine AW.seq ?_
 apply AW.rg hS [0,2]
 ·exact di
 refine AW.seq ?_
 replace h:=obs h;obtain⟨r7,q8,h⟩:=h
 have f9:=(hk 0 172 rfl).ret (0,x1,x2,x3,x4) q8 rfl rfl
 try dsimp only at f9
 have e10:=ecall0 f9 rfl rfl rfl rfl
 apply AW.rg hS [0,2,3]
 ·exact di1 (an pf_172 e10)
 refine AW.seq ?_
 refine AW.seq ?_
 replace h:=obs h;obtain⟨r11,q12,h⟩:=h
 have f13:=(hk 1 236 rfl).ret r7 q12 rfl rfl
 try dsimp only at f13
 apply AW.rg hS [0,2,3,9]
 ·exact di1 (an pf_236 f13)
 refine AW.iff_ h rfl rfl (fun hb14 h=>?_) (fun hb14 h=>?_)
 ·cases h
 refine AW.skip ?_
 refine AW.seq ?_
 apply AW.rg hS [2,3]
 ·exact di
 refine AW.seq ?_
 refine AW.block ?_
 refine AW.seq ?_
 apply AW.rg hS [2,3,19]
 ·exact di
 refine AW.iff_ h rfl rfl (fun hb15 h=>?_) (fun hb15 h=>?_)
 ·refine AW.seq ?_
  apply AW.rg hS [2]
  ·exact di
  refine AW.ret ?_
  cases h
  exact fin
 cases h
set_option maxHeartbeats 4000000 in
theorem g_F239(c:AllG env [(S234 F234)]):GoodH env (S239 F239):=by
 obtain⟨O,X,hS,hX,hpf,hk⟩:=orcs (pf:=pfn) c
 have pf_234:O.pf 234=false:=pft hpf 234 rfl
 refine GH (fn:=Tryz.f239) fn_239 rfl rfl 18 rfl [] rfl ?_
 rintro(⟨symbol1,x2,x3,x4,x5⟩:Str×Str×(List Token)×(List Str)×Int) (r:Bool) h m em
 refine GHs rfl rfl em rfl rfl rfl ?_
 clear em m
 replace h:F239 symbol1 x2 x3 x4 x5=some r:=h
 rw[F239]at h
 refine AW.seq ?_
 apply AW.rg hS [0,1]
 ·exact di
 refine AW.seq ?_
 replace h:=obs h;obtain⟨r7,q8,h⟩:=h
 have f9:=(hk 0 234 rfl).ret (symbol1,x2,x3,x4,x5) q8 rfl rfl
 try dsimp only at f9
 have e10:=ecall0 f9 rfl rfl rfl rfl
 apply AW.rg hS [5]
 ·exact di1 (an pf_234 e10)
 refine AW.seq ?_
 refine AW.seq ?_
 apply AW.rg hS [5,9]
 ·exact di
 refine AW.iff_ h rfl rfl (fun hb11 h=>?_) (fun hb11 h=>?_)
 ·cases h
 refine AW.skip ?_
 refine AW.seq ?_
 apply AW.rg hS [4]
 ·exact di
 refine AW.ret ?_
 cases h
 exact fin
set_option maxHeartbeats 4000000 in
theorem g_F345(c:AllG env [(S356 F356),(S239 F239)]):GoodH env (S345 F345):=by
 obtain⟨O,X,hS,hX,hpf,hk⟩:=orcs (pf:=pfn) c
 have pf_239:O.pf 239=false:=pft hpf 239 rfl
 have pf_356:O.pf 356=false:=pft hpf 356 rfl
 refine GH (fn:=Tryz.f345) fn_345 rfl rfl 22 rfl [] rfl ?_
 rintro(⟨x1,x2,x3,x4⟩:Str×(List Token)×(List Str)×Int) (r:Word×Int) h m em
 refine GHs rfl rfl em rfl rfl rfl ?_
 clear em m
 replace h:F345 x1 x2 x3 x4=some r:=h
 rw[F345]at h
 refine AW.seq ?_
 apply AW.rg hS [0,2]
 ·exact di
 refine AW.seq ?_
 replace h:=obs h;obtain⟨⟨r7,x8⟩,q9,h⟩:=h
 dsimp only at h
 have f10:=(hk 0 356 rfl).ret (x1,x2,x3,x4) q9 rfl rfl
 try dsimp only at f10
 have e11:=ecall0 f10 rfl rfl rfl rfl
 refine AW.reg hS [(0,.ref 0 0),(2,.ref 1 0),(3,.full [PV.agg [.int .i64 r7.kind_,.str r7.text_,.str r7.quoted_,.slice (List.map Word.pv r7.words_),.slice (List.map Cmd.pv r7.cmd_)]])] [.var [.pv (.str x1),.pv (.slice (List.map Token.pv x2)),.pv (.slice (List.map PV.str x3)),.pv (.int .i64 x8)],.var [.pv (.int .i64 0),.pv (.str []),.pv (.str []),.nils,.nils]] ?_ ?_
 ·exact dk1 (an pf_356 e11)
 refine AW.seq ?_
 refine AW.block ?_
 refine AW.lp (α:=Nat×Unit) (fun(_,_)=>⟨sl [(0,.ref 0 0),(2,.ref 1 0),(3,.full [PV.agg [.int .i64 r7.kind_,.str r7.text_,.str r7.quoted_,.slice (List.map Word.pv r7.words_),.slice (List.map Cmd.pv r7.cmd_)]])],22,[.var [.pv (.str x1),.pv (.slice (List.map Token.pv x2)),.pv (.slice (List.map PV.str x3)),.pv (.int .i64 x8)],.var [.pv (.int .i64 0),.pv (.str []),.pv (.str []),.nils,.nils]]⟩) (fun x=>iter (F345_b1 x1 x2 x3 x8 r7) x.1 x.2=some r) (fun x=>x.1) (BIG,()) (Weak.slots kp) h ?_
 clear h
 intro⟨n21,_⟩ h
 replace h:=iter_some h;obtain⟨m14,rfl,h⟩:=h
 rw[F345_b1]at h
 try dsimp only at h
 refine AW.st ?_
 refine AW.seq ?_
 refine AW.seq ?_
 replace h:=obs h;obtain⟨r15,q16,h⟩:=h
 have f17:=(hk 1 239 rfl).ret (([94]:Str),x1,x2,x3,x8) q16 rfl rfl
 try dsimp only at f17
 try simp only[List.map_cons,List.map_nil,oPV_none,oPV_some,Attr.pv_eq,P22_eq,Plumb.pv_eq,Token.pv_eq,P50_eq,Redir.pv_eq,P51_eq,Cmd.pv_eq,P46_eq,Word.pv_eq,P54_eq,Var.pv_eq,P324_eq,GEnv.pv_eq,GValue.pv_eq,P59_eq,Qid.pv_eq,P66_eq,Dir.pv_eq,Msg.pv_eq,Call.pv_eq,P60_eq,Client.pv_eq,S274.pv_eq,S276.pv_eq,P81_eq,Port.pv_eq,Pattern.pv_eq,P153_eq,Rule.pv_eq,P29_eq,P30_eq,Plumber.pv_eq]at f17
 have e18:=ecall0 f17 rfl rfl rfl rfl
 apply AW.rg hS [2,3,8]
 ·exact di1 (an pf_239 e18)
 refine AW.iff_ h rfl rfl (fun hb19 h=>?_) (fun hb19 h=>?_)
 ·cases h
 refine AW.exit ?_
 refine AW.seq ?_
 refine AW.seq ?_
 apply AW.rg hS [2,3,16]
 ·exact di
 refine AW.iff_ h rfl rfl (fun hb20 h=>?_) (fun hb20 h=>?_)
 ·refine AW.seq ?_
  apply AW.rg hS [2]
  ·exact di
  refine AW.ret ?_
  cases h
  exact fin
 cases h
set_option maxHeartbeats 4000000 in
theorem g_F335(c:AllG env [(S172 F172),(S171 F171),(S236 F236),(S345 F345),(S237 F237)]):GoodH env (S335 F335):=by
 obtain⟨O,X,hS,hX,hpf,hk⟩:=orcs (pf:=pfn) c
 have pf_171:O.pf 171=true:=pft hpf 171 rfl
 have pf_172:O.pf 172=false:=pft hpf 172 rfl
 have pf_236:O.pf 236=true:=pft hpf 236 rfl
 have pf_237:O.pf 237=true:=pft hpf 237 rfl
 have pf_345:O.pf 345=false:=pft hpf 345 rfl
 refine GH (fn:=Tryz.f335) fn_335 rfl rfl 60 rfl [] rfl ?_
 rintro(⟨x1,x2,x3,x4⟩:Str×(List Token)×(List Str)×Int) (r:Cmd×Int) h m em
 refine GHs rfl rfl em rfl rfl rfl ?_
 clear em m
 replace h:F335 x1 x2 x3 x4=some r:=h
 rw[F335]at h
 refine AW.seq ?_
 apply AW.rg hS [0,2]
 ·exact di
 refine AW.seq ?_
 replace h:=obs h;obtain⟨r7,q8,h⟩:=h
 have f9:=(hk 0 172 rfl).ret (0,x1,x2,x3,x4) q8 rfl rfl
 try dsimp only at f9
 have e10:=ecall0 f9 rfl rfl rfl rfl
 refine AW.after ?_
 refine AW.reg hS [(0,.ref 0 0),(2,.ref 1 0),(3,.ref 2 0)] [.var [.pv (.str x1),.pv (.slice (List.map Token.pv x2)),.pv (.slice (List.map PV.str x3)),.pv (.int .i64 x4)],.var [.pv (.int .i64 0),.pv (.int .i64 0),.pv (.str []),.nils,.nils,.nils],.var [.pv (.int .i64 1),.pv (.int .i64 r7.at_),.pv (.str []),.nils,.nils,.nils]] ?_ ?_
 ·exact dk1 (an pf_172 e10)
 refine⟨⟨sl [(0,.ref 0 0),(2,.ref 1 0),(3,.ref 2 0)],60,[.var [.pv (.str x1),.pv (.slice (List.map Token.pv x2)),.pv (.slice (List.map PV.str x3)),.pv (.int .i64 x4)],.var [.pv (.int .i64 0),.pv (.int .i64 0),.pv (.str []),.nils,.nils,.nils],.var [.pv (.int .i64 1),.pv (.int .i64 r7.at_),.pv (.str []),.vec 3 (List.length ([]:List Word)),.nils,.nils],.row 58 5 (List.map Word.pv ([]:List Word)) true]⟩,(Weak.trans (Weak.ownC (σ:=⟨sl [(0,.ref 0 0),(2,.ref 1 0),(3,.ref 2 0)],60,[.var [.pv (.str x1),.pv (.slice (List.map Token.pv x2)),.pv (.slice (List.map PV.str x3)),.pv (.int .i64 x4)],.var [.pv (.int .i64 0),.pv (.int .i64 0),.pv (.str []),.nils,.nils,.nils],.var [.pv (.int .i64 1),.pv (.int .i64 r7.at_),.pv (.str []),.nils,.nils,.nils]]⟩) 2 3 58 5 (by decide) (cs:=[.pv (.int .i64 1),.pv (.int .i64 r7.at_),.pv (.str []),.nils,.nils,.nils]) rfl rfl) (Weak.slots (L:=[(0,.ref 0 0),(2,.ref 1 0),(3,.ref 2 0)]) ⟨rfl,rfl,rfl,trivial⟩)),?_⟩
 refine AW.block ?_
 refine AW.lp (α:=Nat×Int×(List Word)) (fun(_,x11,l12)=>⟨sl [(0,.ref 0 0),(2,.ref 1 0),(3,.ref 2 0)],60,[.var [.pv (.str x1),.pv (.slice (List.map Token.pv x2)),.pv (.slice (List.map PV.str x3)),.pv (.int .i64 x11)],.var [.pv (.int .i64 0),.pv (.int .i64 0),.pv (.str []),.nils,.nils,.nils],.var [.pv (.int .i64 1),.pv (.int .i64 r7.at_),.pv (.str []),.vec 3 (List.length l12),.nils,.nils],.row 58 5 (List.map Word.pv l12) true]⟩) (fun x=>iter (F335_b1 x1 x2 x3 r7) x.1 x.2=some r) (fun x=>x.1) (BIG,(x4,([]:List Word))) (Weak.slots kp) h ?_
 clear h
 intro⟨n40,x11,l12⟩ h
 replace h:=iter_some h;obtain⟨m15,rfl,h⟩:=h
 rw[F335_b1]at h
 try dsimp only at h
 refine AW.st ?_
 refine AW.block ?_
 refine AW.seq ?_
 replace h:=obs h;obtain⟨r16,q17,h⟩:=h
 have f18:=(hk 0 172 rfl).ret (0,x1,x2,x3,x11) q17 rfl rfl
 try dsimp only at f18
 have e19:=ecall0 f18 rfl rfl rfl rfl
 apply AW.rg hS [0,2,3,4]
 ·exact di1 (an pf_172 e19)
 refine AW.block ?_
 refine AW.seq ?_
 replace h:=obs h;obtain⟨r20,q21,h⟩:=h
 replace q21:=guardO_t q21
 have f22:=fun hg=>(hk 1 171 rfl).ret r16 (q21 hg) rfl rfl
 try dsimp only at f22
 refine AW.reg hS [(0,.ref 0 0),(2,.ref 1 0),(3,.ref 2 0),(4,.ref 4 0),(12,.pv (.bool ((((decide ((l12.length:Int)=0)&&decide (0<0))&&!decide (r20=[]))&&!decide (r20=[110,111,116]))&&!decide (r20=[105,110]))))] [.var [.pv (.str x1),.pv (.slice (List.map Token.pv x2)),.pv (.slice (List.map PV.str x3)),.pv (.int .i64 x11)],.var [.pv (.int .i64 0),.pv (.int .i64 0),.pv (.str []),.nils,.nils,.nils],.var [.pv (.int .i64 1),.pv (.int .i64 r7.at_),.pv (.str []),.vec 3 (List.length l12),.nils,.nils],.row 58 5 (List.map Word.pv l12) true,.var [.pv (.int .i64 r16.kind_),.pv (.int .i64 r16.at_),.pv (.str r16.text_),.pv (.str r16.quoted_)]] ?_ ?_
 ·clear h hk hpf hS hX c
  exact dh1 (an pf_171 f22)
 refine AW.iff_ h rfl rfl (fun hb23 h=>?_) (fun hb23 h=>?_)
 ·cases h
 refine AW.seq ?_
 replace h:=obs h;obtain⟨r24,q25,h⟩:=h
 have f26:=(hk 2 236 rfl).ret r16 q25 rfl rfl
 try dsimp only at f26
 apply AW.rg hS [0,2,3,4,40]
 ·exact di1 (an pf_236 f26)
 refine AW.iff_ h rfl rfl (fun hb27 h=>?_) (fun hb27 h=>?_)
 ·replace h:=obs h;obtain⟨⟨r28,x29⟩,q30,h⟩:=h
  dsimp only at h
  have f31:=(hk 3 345 rfl).ret (x1,x2,x3,x11) q30 rfl rfl
  try dsimp only at f31
  have e32:=ecall0 f31 rfl rfl rfl rfl
  replace h:=obs h;obtain⟨out33,q34,h⟩:=h
  have f35:=appO_f q34
  try simp only[List.length_cons,List.length_nil,List.length_replicate,Nat.zero_add,Nat.reduceAdd,Nat.reduceLeDiff,Nat.add_zero,Nat.reduceMul]at f35
  have f35m:=appO_m Word.pv q34
  try simp only[List.map_cons,List.map_nil,List.nil_append,oPV_none,oPV_some,Attr.pv_eq,P22_eq,Plumb.pv_eq,Token.pv_eq,P50_eq,Redir.pv_eq,P51_eq,Cmd.pv_eq,P46_eq,Word.pv_eq,P54_eq,Var.pv_eq,P324_eq,GEnv.pv_eq,GValue.pv_eq,P59_eq,Qid.pv_eq,P66_eq,Dir.pv_eq,Msg.pv_eq,Call.pv_eq,P60_eq,Client.pv_eq,S274.pv_eq,S276.pv_eq,P81_eq,Port.pv_eq,Pattern.pv_eq,P153_eq,Rule.pv_eq,P29_eq,P30_eq,Plumber.pv_eq]at f35m
  have f35n:=appO_n q34
  try simp only[List.length_cons,List.length_nil,Nat.zero_add]at f35n
  refine AW.dregV mixed hS [3,5,7] [(0,0),(0,1),(1,0),(1,1),(2,0),(3,0),(4,1),(5,1),(6,2),(7,2)] [.ref 2 3,.vec 3 (List.length l12),.ref 0 0,.pv (.agg [.int .i64 r28.kind_,.str r28.text_,.str r28.quoted_,.slice (List.map Word.pv r28.words_),.slice (List.map Cmd.pv r28.cmd_)]),.full [PV.agg [.int .i64 r28.kind_,.str r28.text_,.str r28.quoted_,.slice (List.map Word.pv r28.words_),.slice (List.map Cmd.pv r28.cmd_)]],.vec 3 (List.length out33),.ref 2 3,.any] [[.var [.pv (.str x1),.pv (.slice (List.map Token.pv x2)),.pv (.slice (List.map PV.str x3)),.pv (.int .i64 x11)],.var [.pv (.int .i64 0),.pv (.int .i64 0),.pv (.str []),.nils,.nils,.nils],.var [.pv (.int .i64 1),.pv (.int .i64 r7.at_),.pv (.str []),.vec 3 (List.length l12),.nils,.nils],.row 58 5 (List.map Word.pv l12) true,.var [.pv (.int .i64 r16.kind_),.pv (.int .i64 r16.at_),.pv (.str r16.text_),.pv (.str r16.quoted_)]],[.var [.pv (.str x1),.pv (.slice (List.map Token.pv x2)),.pv (.slice (List.map PV.str x3)),.pv (.int .i64 x29)],.var [.pv (.int .i64 0),.pv (.int .i64 0),.pv (.str []),.nils,.nils,.nils],.var [.pv (.int .i64 1),.pv (.int .i64 r7.at_),.pv (.str []),.vec 3 (List.length l12),.nils,.nils],.row 58 5 (List.map Word.pv l12) true,.var [.pv (.int .i64 r16.kind_),.pv (.int .i64 r16.at_),.pv (.str r16.text_),.pv (.str r16.quoted_)]],[.var [.pv (.str x1),.pv (.slice (List.map Token.pv x2)),.pv (.slice (List.map PV.str x3)),.pv (.int .i64 x29)],.var [.pv (.int .i64 0),.pv (.int .i64 0),.pv (.str []),.nils,.nils,.nils],.var [.pv (.int .i64 1),.pv (.int .i64 r7.at_),.pv (.str []),.vec 3 (List.length l12),.nils,.nils],.row 58 5 (List.map Word.pv out33) true,.var [.pv (.int .i64 r16.kind_),.pv (.int .i64 r16.at_),.pv (.str r16.text_),.pv (.str r16.quoted_)]],[.var [.pv (.str x1),.pv (.slice (List.map Token.pv x2)),.pv (.slice (List.map PV.str x3)),.pv (.int .i64 x29)],.var [.pv (.int .i64 0),.pv (.int .i64 0),.pv (.str []),.nils,.nils,.nils],.var [.pv (.int .i64 1),.pv (.int .i64 r7.at_),.pv (.str []),.vec 3 (List.length out33),.nils,.nils],.row 58 5 (List.map Word.pv out33) true,.var [.pv (.int .i64 r16.kind_),.pv (.int .i64 r16.at_),.pv (.str r16.text_),.pv (.str r16.quoted_)]]] [(43,.ref 2 3),(44,.vec 3 (List.length l12)),(45,.ref 0 0),(46,.pv (.agg [.int .i64 r28.kind_,.str r28.text_,.str r28.quoted_,.slice (List.map Word.pv r28.words_),.slice (List.map Cmd.pv r28.cmd_)])),(47,.full [PV.agg [.int .i64 r28.kind_,.str r28.text_,.str r28.quoted_,.slice (List.map Word.pv r28.words_),.slice (List.map Cmd.pv r28.cmd_)]]),(48,.vec 3 (List.length out33)),(49,.ref 2 3),(0,.ref 0 0),(2,.ref 1 0),(3,.ref 2 0),(4,.ref 4 0),(40,.pv (.bool r24))] (by kernel_rfl) (by kernel_rfl) (by kernel_rfl) ?_ [(0,.ref 0 0),(2,.ref 1 0),(3,.ref 2 0)] [.var [.pv (.str x1),.pv (.slice (List.map Token.pv x2)),.pv (.slice (List.map PV.str x3)),.pv (.int .i64 x29)],.var [.pv (.int .i64 0),.pv (.int .i64 0),.pv (.str []),.nils,.nils,.nils],.var [.pv (.int .i64 1),.pv (.int .i64 r7.at_),.pv (.str []),.vec 3 (List.length out33),.nils,.nils],.row 58 5 (List.map Word.pv out33) true,.var [.pv (.int .i64 r16.kind_),.pv (.int .i64 r16.at_),.pv (.str r16.text_),.pv (.str r16.quoted_)]] ⟨rfl,rfl,rfl,trivial⟩ rfl ?_
  ·repeat'(first|exact Facts.nil|refine Facts.cons rfl rfl rfl ?_ ?_)
   all_goals exact dv1 (an pf_345 (an e32 (an f35.1 (an f35m f35n))))
  clear f35
  clear f35m
  clear f35n
  exact⟨(m15,(x29,out33)),h,(Weak.norm (m:=4) (Nat.le_of_ble_eq_true rfl) kp hq rfl rfl),Nat.lt_succ_self _⟩
 refine AW.seq ?_
 replace h:=obs h;obtain⟨r36,q37,h⟩:=h
 have f38:=(hk 4 237 rfl).ret r16 q37 rfl rfl
 try dsimp only at f38
 apply AW.rg hS [2,3,50]
 ·exact di1 (an pf_237 f38)
 refine AW.iff_ h rfl rfl (fun hb39 h=>?_) (fun hb39 h=>?_)
 ·cases h
 refine AW.seq ?_
 apply AW.rg hS [2]
 ·exact di
 refine AW.ret ?_
 cases h
 exact fin
set_option maxHeartbeats 4000000 in
theorem g_F307(c:AllG env [(S172 F172),(S240 F240),(S326 F326),(S235 F235),(S171 F171),(S169 F169),(S335 F335)]):GoodH env (S307 F307):=by
 obtain⟨O,X,hS,hX,hpf,hk⟩:=orcs (pf:=pfn) c
 have pf_169:O.pf 169=false:=pft hpf 169 rfl
 have pf_171:O.pf 171=true:=pft hpf 171 rfl
 have pf_172:O.pf 172=false:=pft hpf 172 rfl
 have pf_235:O.pf 235=true:=pft hpf 235 rfl
 have pf_240:O.pf 240=true:=pft hpf 240 rfl
 have pf_326:O.pf 326=true:=pft hpf 326 rfl
 have pf_335:O.pf 335=false:=pft hpf 335 rfl
 refine GH (fn:=Tryz.f307) fn_307 rfl rfl 97 rfl [] rfl ?_
 rintro(⟨inCase1,x2,x3,x4,x5⟩:Bool×Str×(List Token)×(List Str)×Int) (r:Cmd×Int) h m em
 refine GHs rfl rfl em rfl rfl rfl ?_
 clear em m
 replace h:F307 inCase1 x2 x3 x4 x5=some r:=h
 rw[F307]at h
 refine AW.seq ?_
 apply AW.rg hS [0,1,4]
 ·exact di
 refine AW.seq ?_
 replace h:=obs h;obtain⟨r8,q9,h⟩:=h
 have f10:=(hk 0 172 rfl).ret (0,x2,x3,x4,x5) q9 rfl rfl
 try dsimp only at f10
 have e11:=ecall0 f10 rfl rfl rfl rfl
 replace h:=obs h;obtain⟨r12,q13,h⟩:=h
 have f14:=(hk 0 172 rfl).ret (1,x2,x3,x4,x5) q13 rfl rfl
 try dsimp only at f14
 have e15:=ecall0 f14 rfl rfl rfl rfl
 apply AW.rg hS [0,1,4,5,6]
 ·exact di1 (an pf_172 (an e11 e15))
 refine AW.seq ?_
 refine AW.block ?_
 refine AW.seq ?_
 replace h:=obs h;obtain⟨r16,q17,h⟩:=h
 have f18:=(hk 1 240 rfl).ret r8 q17 rfl rfl
 try dsimp only at f18
 replace h:=obs h;obtain⟨r19,q20,h⟩:=h
 replace q20:=guardO_t q20
 have f21:=fun hg=>(hk 2 326 rfl).ret r8.text_ (q20 hg) rfl rfl
 try dsimp only at f21
 replace h:=obs h;obtain⟨r22,q23,h⟩:=h
 replace q23:=guardO_t q23
 have f24:=fun hg=>(hk 3 235 rfl).ret (r12,([61]:Str)) (q23 hg) rfl rfl
 try dsimp only at f24
 try simp only[List.map_cons,List.map_nil,oPV_none,oPV_some,Attr.pv_eq,P22_eq,Plumb.pv_eq,Token.pv_eq,P50_eq,Redir.pv_eq,P51_eq,Cmd.pv_eq,P46_eq,Word.pv_eq,P54_eq,Var.pv_eq,P324_eq,GEnv.pv_eq,GValue.pv_eq,P59_eq,Qid.pv_eq,P66_eq,Dir.pv_eq,Msg.pv_eq,Call.pv_eq,P60_eq,Client.pv_eq,S274.pv_eq,S276.pv_eq,P81_eq,Port.pv_eq,Pattern.pv_eq,P153_eq,Rule.pv_eq,P29_eq,P30_eq,Plumber.pv_eq]at f24
 refine AW.reg hS [(0,.ref 0 0),(1,.pv (.bool inCase1)),(4,.ref 1 0),(5,.ref 2 0),(11,.pv (.bool ((r16&&r19)&&r22)))] [.var [.pv (.str x2),.pv (.slice (List.map Token.pv x3)),.pv (.slice (List.map PV.str x4)),.pv (.int .i64 x5)],.var [.pv (.int .i64 0),.pv (.int .i64 0),.pv (.str []),.nils,.nils,.nils],.var [.pv (.int .i64 r8.kind_),.pv (.int .i64 r8.at_),.pv (.str r8.text_),.pv (.str r8.quoted_)],.var [.pv (.int .i64 r12.kind_),.pv (.int .i64 r12.at_),.pv (.str r12.text_),.pv (.str r12.quoted_)]] ?_ ?_
 ·clear h hk hpf hS hX c
  exact dh1 (an pf_240 (an f18 (an pf_326 (an f21 (an pf_235 f24)))))
 refine AW.iff_ h rfl rfl (fun hb25 h=>?_) (fun hb25 h=>?_)
 ·cases h
 refine AW.seq ?_
 replace h:=obs h;obtain⟨r26,q27,h⟩:=h
 have f28:=(hk 3 235 rfl).ret (r8,([33]:Str)) q27 rfl rfl
 try dsimp only at f28
 try simp only[List.map_cons,List.map_nil,oPV_none,oPV_some,Attr.pv_eq,P22_eq,Plumb.pv_eq,Token.pv_eq,P50_eq,Redir.pv_eq,P51_eq,Cmd.pv_eq,P46_eq,Word.pv_eq,P54_eq,Var.pv_eq,P324_eq,GEnv.pv_eq,GValue.pv_eq,P59_eq,Qid.pv_eq,P66_eq,Dir.pv_eq,Msg.pv_eq,Call.pv_eq,P60_eq,Client.pv_eq,S274.pv_eq,S276.pv_eq,P81_eq,Port.pv_eq,Pattern.pv_eq,P153_eq,Rule.pv_eq,P29_eq,P30_eq,Plumber.pv_eq]at f28
 apply AW.rg hS [0,1,4,5,26]
 ·exact di1 (an pf_235 f28)
 refine AW.iff_ h rfl rfl (fun hb29 h=>?_) (fun hb29 h=>?_)
 ·cases h
 refine AW.seq ?_
 replace h:=obs h;obtain⟨r30,q31,h⟩:=h
 have f32:=(hk 3 235 rfl).ret (r8,([64]:Str)) q31 rfl rfl
 try dsimp only at f32
 try simp only[List.map_cons,List.map_nil,oPV_none,oPV_some,Attr.pv_eq,P22_eq,Plumb.pv_eq,Token.pv_eq,P50_eq,Redir.pv_eq,P51_eq,Cmd.pv_eq,P46_eq,Word.pv_eq,P54_eq,Var.pv_eq,P324_eq,GEnv.pv_eq,GValue.pv_eq,P59_eq,Qid.pv_eq,P66_eq,Dir.pv_eq,Msg.pv_eq,Call.pv_eq,P60_eq,Client.pv_eq,S274.pv_eq,S276.pv_eq,P81_eq,Port.pv_eq,Pattern.pv_eq,P153_eq,Rule.pv_eq,P29_eq,P30_eq,Plumber.pv_eq]at f32
 apply AW.rg hS [0,1,4,5,32]
 ·exact di1 (an pf_235 f32)
 refine AW.iff_ h rfl rfl (fun hb33 h=>?_) (fun hb33 h=>?_)
 ·cases h
 refine AW.seq ?_
 replace h:=obs h;obtain⟨r34,q35,h⟩:=h
 have f36:=(hk 3 235 rfl).ret (r8,([123]:Str)) q35 rfl rfl
 try dsimp only at f36
 try simp only[List.map_cons,List.map_nil,oPV_none,oPV_some,Attr.pv_eq,P22_eq,Plumb.pv_eq,Token.pv_eq,P50_eq,Redir.pv_eq,P51_eq,Cmd.pv_eq,P46_eq,Word.pv_eq,P54_eq,Var.pv_eq,P324_eq,GEnv.pv_eq,GValue.pv_eq,P59_eq,Qid.pv_eq,P66_eq,Dir.pv_eq,Msg.pv_eq,Call.pv_eq,P60_eq,Client.pv_eq,S274.pv_eq,S276.pv_eq,P81_eq,Port.pv_eq,Pattern.pv_eq,P153_eq,Rule.pv_eq,P29_eq,P30_eq,Plumber.pv_eq]at f36
 apply AW.rg hS [0,1,4,5,38]
 ·exact di1 (an pf_235 f36)
 refine AW.iff_ h rfl rfl (fun hb37 h=>?_) (fun hb37 h=>?_)
 ·cases h
 refine AW.skip ?_
 refine AW.seq ?_
 refine AW.seq ?_
 replace h:=obs h;obtain⟨r38,q39,h⟩:=h
 have f40:=(hk 4 171 rfl).ret r8 q39 rfl rfl
 try dsimp only at f40
 apply AW.rg hS [0,1,4,44]
 ·exact di1 (an pf_171 f40)
 refine AW.block ?_
 refine AW.seq ?_
 apply AW.rg hS [0,1,4,44,45]
 ·exact di
 refine AW.iff_ h rfl rfl (fun hb41 h=>?_) (fun hb41 h=>?_)
 ·cases h
 refine AW.seq ?_
 apply AW.rg hS [0,1,4,44,56]
 ·exact di
 refine AW.iff_ h rfl rfl (fun hb42 h=>?_) (fun hb42 h=>?_)
 ·cases h
 refine AW.seq ?_
 apply AW.rg hS [0,1,4,44,61]
 ·exact di
 refine AW.iff_ h rfl rfl (fun hb43 h=>?_) (fun hb43 h=>?_)
 ·cases h
 refine AW.seq ?_
 apply AW.rg hS [0,1,4,44,66]
 ·exact di
 refine AW.iff_ h rfl rfl (fun hb44 h=>?_) (fun hb44 h=>?_)
 ·cases h
 refine AW.seq ?_
 apply AW.rg hS [0,1,4,44,70]
 ·exact di
 refine AW.iff_ h rfl rfl (fun hb45 h=>?_) (fun hb45 h=>?_)
 ·cases h
 refine AW.seq ?_
 apply AW.rg hS [0,1,4,44,74]
 ·exact di
 refine AW.iff_ h rfl rfl (fun hb46 h=>?_) (fun hb46 h=>?_)
 ·cases h
 refine AW.seq ?_
 apply AW.rg hS [0,1,4,78]
 ·exact di
 refine AW.iff_ h rfl rfl (fun hb47 h=>?_) (fun hb47 h=>?_)
 ·cases h
 refine AW.skip ?_
 refine AW.seq ?_
 refine AW.seq ?_
 replace h:=obs h;obtain⟨r48,q49,h⟩:=h
 have f50:=(hk 5 169 rfl).ret (inCase1,x2,x3,x4,x5) q49 rfl rfl
 try dsimp only at f50
 have e51:=ecall0 f50 rfl rfl rfl rfl
 apply AW.rg hS [0,4,92]
 ·exact di1 (an pf_169 e51)
 refine AW.iff_ h rfl rfl (fun hb52 h=>?_) (fun hb52 h=>?_)
 ·cases h
 refine AW.skip ?_
 refine AW.seq ?_
 replace h:=obs h;obtain⟨⟨r53,x54⟩,q55,h⟩:=h
 dsimp only at h
 have f56:=(hk 6 335 rfl).ret (x2,x3,x4,x5) q55 rfl rfl
 try dsimp only at f56
 have e57:=ecall0 f56 rfl rfl rfl rfl
 apply AW.rg hS [4]
 ·exact di1 (an pf_335 e57)
 refine AW.ret ?_
 cases h
 exact fin
set_option maxHeartbeats 4000000 in
theorem g_F279(c:AllG env [(S307 F307),(S239 F239)]):GoodH env (S279 F279):=by
 obtain⟨O,X,hS,hX,hpf,hk⟩:=orcs (pf:=pfn) c
 have pf_239:O.pf 239=false:=pft hpf 239 rfl
 have pf_307:O.pf 307=false:=pft hpf 307 rfl
 refine GH (fn:=Tryz.f279) fn_279 rfl rfl 32 rfl [] rfl ?_
 rintro(⟨inCase1,x2,x3,x4,x5⟩:Bool×Str×(List Token)×(List Str)×Int) (r:Cmd×Int) h m em
 refine GHs rfl rfl em rfl rfl rfl ?_
 clear em m
 replace h:F279 inCase1 x2 x3 x4 x5=some r:=h
 rw[F279]at h
 refine AW.seq ?_
 apply AW.rg hS [0,1,4]
 ·exact di
 refine AW.seq ?_
 replace h:=obs h;obtain⟨⟨r8,x9⟩,q10,h⟩:=h
 dsimp only at h
 have f11:=(hk 0 307 rfl).ret (inCase1,x2,x3,x4,x5) q10 rfl rfl
 try dsimp only at f11
 have e12:=ecall0 f11 rfl rfl rfl rfl
 refine AW.reg hS [(0,.ref 0 0),(4,.ref 1 0),(5,.full [PV.agg [.int .i64 r8.kind_,.int .i64 r8.at_,.str r8.name_,.slice (List.map Word.pv r8.words_),.slice (List.map Redir.pv r8.redirs_),.slice (List.map Cmd.pv r8.kids_)]])] [.var [.pv (.str x2),.pv (.slice (List.map Token.pv x3)),.pv (.slice (List.map PV.str x4)),.pv (.int .i64 x9)],.var [.pv (.int .i64 0),.pv (.int .i64 0),.pv (.str []),.nils,.nils,.nils]] ?_ ?_
 ·exact dk1 (an pf_307 e12)
 refine AW.seq ?_
 refine AW.block ?_
 refine AW.lp (α:=Nat×Unit) (fun(_,_)=>⟨sl [(0,.ref 0 0),(4,.ref 1 0),(5,.full [PV.agg [.int .i64 r8.kind_,.int .i64 r8.at_,.str r8.name_,.slice (List.map Word.pv r8.words_),.slice (List.map Redir.pv r8.redirs_),.slice (List.map Cmd.pv r8.kids_)]])],32,[.var [.pv (.str x2),.pv (.slice (List.map Token.pv x3)),.pv (.slice (List.map PV.str x4)),.pv (.int .i64 x9)],.var [.pv (.int .i64 0),.pv (.int .i64 0),.pv (.str []),.nils,.nils,.nils]]⟩) (fun x=>iter (F279_b1 x2 x3 x4 x9 r8) x.1 x.2=some r) (fun x=>x.1) (BIG,()) (Weak.slots kp) h ?_
 clear h
 intro⟨n22,_⟩ h
 replace h:=iter_some h;obtain⟨m15,rfl,h⟩:=h
 rw[F279_b1]at h
 try dsimp only at h
 refine AW.st ?_
 refine AW.seq ?_
 refine AW.seq ?_
 replace h:=obs h;obtain⟨r16,q17,h⟩:=h
 have f18:=(hk 1 239 rfl).ret (([124]:Str),x2,x3,x4,x9) q17 rfl rfl
 try dsimp only at f18
 try simp only[List.map_cons,List.map_nil,oPV_none,oPV_some,Attr.pv_eq,P22_eq,Plumb.pv_eq,Token.pv_eq,P50_eq,Redir.pv_eq,P51_eq,Cmd.pv_eq,P46_eq,Word.pv_eq,P54_eq,Var.pv_eq,P324_eq,GEnv.pv_eq,GValue.pv_eq,P59_eq,Qid.pv_eq,P66_eq,Dir.pv_eq,Msg.pv_eq,Call.pv_eq,P60_eq,Client.pv_eq,S274.pv_eq,S276.pv_eq,P81_eq,Port.pv_eq,Pattern.pv_eq,P153_eq,Rule.pv_eq,P29_eq,P30_eq,Plumber.pv_eq]at f18
 have e19:=ecall0 f18 rfl rfl rfl rfl
 apply AW.rg hS [4,5,11]
 ·exact di1 (an pf_239 e19)
 refine AW.iff_ h rfl rfl (fun hb20 h=>?_) (fun hb20 h=>?_)
 ·cases h
 refine AW.exit ?_
 refine AW.seq ?_
 refine AW.seq ?_
 apply AW.rg hS [4,5,22]
 ·exact di
 refine AW.iff_ h rfl rfl (fun hb21 h=>?_) (fun hb21 h=>?_)
 ·refine AW.seq ?_
  apply AW.rg hS [4]
  ·exact di
  refine AW.ret ?_
  cases h
  exact fin
 cases h
set_option maxHeartbeats 4000000 in
theorem g_F238(c:AllG env [(S279 F279),(S239 F239)]):GoodH env (S238 F238):=by
 obtain⟨O,X,hS,hX,hpf,hk⟩:=orcs (pf:=pfn) c
 have pf_239:O.pf 239=false:=pft hpf 239 rfl
 have pf_279:O.pf 279=false:=pft hpf 279 rfl
 refine GH (fn:=Tryz.f238) fn_238 rfl rfl 28 rfl [] rfl ?_
 rintro(⟨inCase1,x2,x3,x4,x5⟩:Bool×Str×(List Token)×(List Str)×Int) (r:Cmd×Int) h m em
 refine GHs rfl rfl em rfl rfl rfl ?_
 clear em m
 replace h:F238 inCase1 x2 x3 x4 x5=some r:=h
 rw[F238]at h
 refine AW.seq ?_
 apply AW.rg hS [0,1,4]
 ·exact di
 refine AW.seq ?_
 replace h:=obs h;obtain⟨⟨r8,x9⟩,q10,h⟩:=h
 dsimp only at h
 have f11:=(hk 0 279 rfl).ret (inCase1,x2,x3,x4,x5) q10 rfl rfl
 try dsimp only at f11
 have e12:=ecall0 f11 rfl rfl rfl rfl
 apply AW.rg hS [0,4,5]
 ·exact di1 (an pf_279 e12)
 refine AW.block ?_
 refine AW.lp (α:=Nat×Unit) (fun(_,_)=>⟨sl [(0,.ref 0 0),(4,.ref 1 0),(5,.ref 2 0)],28,[.var [.pv (.str x2),.pv (.slice (List.map Token.pv x3)),.pv (.slice (List.map PV.str x4)),.pv (.int .i64 x9)],.var [.pv (.int .i64 0),.pv (.int .i64 0),.pv (.str []),.nils,.nils,.nils],.var [.pv (.int .i64 r8.kind_),.pv (.int .i64 r8.at_),.pv (.str r8.name_),.pv (.slice (List.map Word.pv r8.words_)),.pv (.slice (List.map Redir.pv r8.redirs_)),.pv (.slice (List.map Cmd.pv r8.kids_))]]⟩) (fun x=>iter (F238_b1 x2 x3 x4 x9 r8) x.1 x.2=some r) (fun x=>x.1) (BIG,()) (Weak.slots kp) h ?_
 clear h
 intro⟨n26,_⟩ h
 replace h:=iter_some h;obtain⟨m15,rfl,h⟩:=h
 rw[F238_b1]at h
 try dsimp only at h
 refine AW.st ?_
 refine AW.block ?_
 refine AW.seq ?_
 apply AW.rg hS [0,4,5]
 ·exact di
 refine AW.seq ?_
 refine AW.block ?_
 refine AW.seq ?_
 replace h:=obs h;obtain⟨r16,q17,h⟩:=h
 have f18:=(hk 1 239 rfl).ret (([38,38]:Str),x2,x3,x4,x9) q17 rfl rfl
 try dsimp only at f18
 try simp only[List.map_cons,List.map_nil,oPV_none,oPV_some,Attr.pv_eq,P22_eq,Plumb.pv_eq,Token.pv_eq,P50_eq,Redir.pv_eq,P51_eq,Cmd.pv_eq,P46_eq,Word.pv_eq,P54_eq,Var.pv_eq,P324_eq,GEnv.pv_eq,GValue.pv_eq,P59_eq,Qid.pv_eq,P66_eq,Dir.pv_eq,Msg.pv_eq,Call.pv_eq,P60_eq,Client.pv_eq,S274.pv_eq,S276.pv_eq,P81_eq,Port.pv_eq,Pattern.pv_eq,P153_eq,Rule.pv_eq,P29_eq,P30_eq,Plumber.pv_eq]at f18
 have e19:=ecall0 f18 rfl rfl rfl rfl
 apply AW.rg hS [0,4,5,11]
 ·exact di1 (an pf_239 e19)
 refine AW.iff_ h rfl rfl (fun hb20 h=>?_) (fun hb20 h=>?_)
 ·cases h
 refine AW.seq ?_
 replace h:=obs h;obtain⟨r21,q22,h⟩:=h
 have f23:=(hk 1 239 rfl).ret (([124,124]:Str),x2,x3,x4,x9) q22 rfl rfl
 try dsimp only at f23
 try simp only[List.map_cons,List.map_nil,oPV_none,oPV_some,Attr.pv_eq,P22_eq,Plumb.pv_eq,Token.pv_eq,P50_eq,Redir.pv_eq,P51_eq,Cmd.pv_eq,P46_eq,Word.pv_eq,P54_eq,Var.pv_eq,P324_eq,GEnv.pv_eq,GValue.pv_eq,P59_eq,Qid.pv_eq,P66_eq,Dir.pv_eq,Msg.pv_eq,Call.pv_eq,P60_eq,Client.pv_eq,S274.pv_eq,S276.pv_eq,P81_eq,Port.pv_eq,Pattern.pv_eq,P153_eq,Rule.pv_eq,P29_eq,P30_eq,Plumber.pv_eq]at f23
 have e24:=ecall0 f23 rfl rfl rfl rfl
 apply AW.rg hS [4,5,14]
 ·exact di1 (an pf_239 e24)
 refine AW.iff_ h rfl rfl (fun hb25 h=>?_) (fun hb25 h=>?_)
 ·cases h
 refine AW.seq ?_
 apply AW.rg hS [4]
 ·exact di
 refine AW.ret ?_
 cases h
 exact fin
set_option maxHeartbeats 4000000 in
theorem g_F170(c:AllG env [(S238 F238),(S239 F239)]):GoodH env (S170 F170):=by
 obtain⟨O,X,hS,hX,hpf,hk⟩:=orcs (pf:=pfn) c
 have pf_238:O.pf 238=false:=pft hpf 238 rfl
 have pf_239:O.pf 239=false:=pft hpf 239 rfl
 refine GH (fn:=Tryz.f170) fn_170 rfl rfl 17 rfl [] rfl ?_
 rintro(⟨inCase1,x2,x3,x4,x5⟩:Bool×Str×(List Token)×(List Str)×Int) (r:Cmd×Int) h m em
 refine GHs rfl rfl em rfl rfl rfl ?_
 clear em m
 replace h:F170 inCase1 x2 x3 x4 x5=some r:=h
 rw[F170]at h
 refine AW.seq ?_
 apply AW.rg hS [0,1,4]
 ·exact di
 refine AW.seq ?_
 replace h:=obs h;obtain⟨⟨r8,x9⟩,q10,h⟩:=h
 dsimp only at h
 have f11:=(hk 0 238 rfl).ret (inCase1,x2,x3,x4,x5) q10 rfl rfl
 try dsimp only at f11
 have e12:=ecall0 f11 rfl rfl rfl rfl
 apply AW.rg hS [0,4,5]
 ·exact di1 (an pf_238 e12)
 refine AW.seq ?_
 refine AW.seq ?_
 replace h:=obs h;obtain⟨r13,q14,h⟩:=h
 have f15:=(hk 1 239 rfl).ret (([38]:Str),x2,x3,x4,x9) q14 rfl rfl
 try dsimp only at f15
 try simp only[List.map_cons,List.map_nil,oPV_none,oPV_some,Attr.pv_eq,P22_eq,Plumb.pv_eq,Token.pv_eq,P50_eq,Redir.pv_eq,P51_eq,Cmd.pv_eq,P46_eq,Word.pv_eq,P54_eq,Var.pv_eq,P324_eq,GEnv.pv_eq,GValue.pv_eq,P59_eq,Qid.pv_eq,P66_eq,Dir.pv_eq,Msg.pv_eq,Call.pv_eq,P60_eq,Client.pv_eq,S274.pv_eq,S276.pv_eq,P81_eq,Port.pv_eq,Pattern.pv_eq,P153_eq,Rule.pv_eq,P29_eq,P30_eq,Plumber.pv_eq]at f15
 have e16:=ecall0 f15 rfl rfl rfl rfl
 apply AW.rg hS [4,5,10]
 ·exact di1 (an pf_239 e16)
 refine AW.iff_ h rfl rfl (fun hb17 h=>?_) (fun hb17 h=>?_)
 ·cases h
 refine AW.skip ?_
 refine AW.seq ?_
 apply AW.rg hS [4]
 ·exact di
 refine AW.ret ?_
 cases h
 exact fin
set_option maxHeartbeats 4000000 in
theorem g_F96(c:AllG env [(S168 F168),(S169 F169),(S170 F170),(S172 F172),(S171 F171)]):GoodH env (S96 F96):=by
 obtain⟨O,X,hS,hX,hpf,hk⟩:=orcs (pf:=pfn) c
 have pf_168:O.pf 168=false:=pft hpf 168 rfl
 have pf_169:O.pf 169=false:=pft hpf 169 rfl
 have pf_170:O.pf 170=false:=pft hpf 170 rfl
 have pf_171:O.pf 171=true:=pft hpf 171 rfl
 have pf_172:O.pf 172=false:=pft hpf 172 rfl
 refine GH (fn:=Tryz.f96) fn_96 rfl rfl 36 rfl [] rfl ?_
 rintro(⟨inCase1,x2,x3,x4,x5⟩:Bool×Str×(List Token)×(List Str)×Int) (r:(List Cmd)×Int) h m em
 refine GHs rfl rfl em rfl rfl rfl ?_
 clear em m
 replace h:F96 inCase1 x2 x3 x4 x5=some r:=h
 rw[F96]at h
 refine AW.seq ?_
 apply AW.rg hS [0,1]
 ·exact di
 refine AW.seq ?_
 apply AW.rg hS [0,1,5]
 ·exact di
 refine AW.seq ?_
 replace h:=obs h;obtain⟨r8,q9,h⟩:=h
 have f10:=(hk 0 168 rfl).ret (x2,x3,x4,x5) q9 rfl rfl
 try dsimp only at f10
 have e11:=ecall0 f10 rfl rfl rfl rfl
 apply AW.rg hS [0,1,5]
 ·exact di1 (an pf_168 e11)
 refine AW.seq ?_
 refine AW.block ?_
 refine AW.lp (α:=Nat×Unit) (fun(_,_)=>⟨sl [(0,.ref 0 0),(1,.pv (.bool inCase1)),(5,.nils)],36,[.var [.pv (.str x2),.pv (.slice (List.map Token.pv x3)),.pv (.slice (List.map PV.str x4)),.pv (.int .i64 x5)]]⟩) (fun x=>iter (F96_b1 inCase1 x2 x3 x4 x5) x.1 x.2=some r) (fun x=>x.1) (BIG,()) (Weak.slots kp) h ?_
 clear h
 intro⟨n41,_⟩ h
 replace h:=iter_some h;obtain⟨m14,rfl,h⟩:=h
 rw[F96_b1]at h
 try dsimp only at h
 refine AW.st ?_
 refine AW.seq ?_
 refine AW.seq ?_
 replace h:=obs h;obtain⟨r15,q16,h⟩:=h
 have f17:=(hk 1 169 rfl).ret (inCase1,x2,x3,x4,x5) q16 rfl rfl
 try dsimp only at f17
 have e18:=ecall0 f17 rfl rfl rfl rfl
 apply AW.rg hS [0,1,5,11]
 ·exact di1 (an pf_169 e18)
 refine AW.iff_ h rfl rfl (fun hb19 h=>?_) (fun hb19 h=>?_)
 ·refine AW.skip ?_
  refine AW.block ?_
  refine AW.seq ?_
  replace h:=obs h;obtain⟨⟨r20,x21⟩,q22,h⟩:=h
  dsimp only at h
  have f23:=(hk 2 170 rfl).ret (inCase1,x2,x3,x4,x5) q22 rfl rfl
  try dsimp only at f23
  have e24:=ecall0 f23 rfl rfl rfl rfl
  apply AW.rg hS [0,1,5,6]
  ·exact di1 (an pf_170 e24)
  refine AW.seq ?_
  replace h:=obs h;obtain⟨out25,q26,h⟩:=h
  have f27:=appO_f q26
  try simp only[List.length_cons,List.length_nil,List.length_replicate,Nat.zero_add,Nat.reduceAdd,Nat.reduceLeDiff,Nat.add_zero,Nat.reduceMul]at f27
  have f27m:=appO_m Cmd.pv q26
  try simp only[List.map_cons,List.map_nil,List.nil_append,oPV_none,oPV_some,Attr.pv_eq,P22_eq,Plumb.pv_eq,Token.pv_eq,P50_eq,Redir.pv_eq,P51_eq,Cmd.pv_eq,P46_eq,Word.pv_eq,P54_eq,Var.pv_eq,P324_eq,GEnv.pv_eq,GValue.pv_eq,P59_eq,Qid.pv_eq,P66_eq,Dir.pv_eq,Msg.pv_eq,Call.pv_eq,P60_eq,Client.pv_eq,S274.pv_eq,S276.pv_eq,P81_eq,Port.pv_eq,Pattern.pv_eq,P153_eq,Rule.pv_eq,P29_eq,P30_eq,Plumber.pv_eq]at f27m
  have f27n:=appO_n q26
  try simp only[List.length_cons,List.length_nil,Nat.zero_add]at f27n
  refine AW.reg hS [(0,.ref 0 0),(1,.pv (.bool inCase1)),(5,.vec 2 (List.length out25)),(6,.ref 1 0)] [.var [.pv (.str x2),.pv (.slice (List.map Token.pv x3)),.pv (.slice (List.map PV.str x4)),.pv (.int .i64 x21)],.var [.pv (.int .i64 r20.kind_),.pv (.int .i64 r20.at_),.pv (.str r20.name_),.pv (.slice (List.map Word.pv r20.words_)),.pv (.slice (List.map Redir.pv r20.redirs_)),.pv (.slice (List.map Cmd.pv r20.kids_))],.row 53 6 (List.map Cmd.pv out25) true] ?_ ?_
  ·exact dk1 (an f27.1 (an f27m f27n))
  clear f27
  clear f27m
  clear f27n
  refine AW.seq ?_
  refine AW.seq ?_
  replace h:=obs h;obtain⟨r28,q29,h⟩:=h
  have f30:=(hk 0 168 rfl).ret (x2,x3,x4,x21) q29 rfl rfl
  try dsimp only at f30
  have e31:=ecall0 f30 rfl rfl rfl rfl
  refine AW.reg hS [(0,.ref 0 0),(1,.pv (.bool inCase1)),(5,.vec 2 (List.length out25)),(25,.pv (.bool (r28||decide (r20.kind_=14))))] [.var [.pv (.str x2),.pv (.slice (List.map Token.pv x3)),.pv (.slice (List.map PV.str x4)),.pv (.int .i64 x21)],.var [.pv (.int .i64 r20.kind_),.pv (.int .i64 r20.at_),.pv (.str r20.name_),.pv (.slice (List.map Word.pv r20.words_)),.pv (.slice (List.map Redir.pv r20.redirs_)),.pv (.slice (List.map Cmd.pv r20.kids_))],.row 53 6 (List.map Cmd.pv out25) true] ?_ ?_
  ·clear h hk hpf hS hX c
   exact dh1 (an pf_168 e31)
  refine AW.iff_ h rfl rfl (fun hb32 h=>?_) (fun hb32 h=>?_)
  ·cases h
  refine AW.skip ?_
  refine AW.seq ?_
  refine AW.seq ?_
  refine AW.cases (inCase1) (fun hsp18=>?_) (fun hsp18=>?_)
  ·replace h:=bif_t hsp18 h
   replace h:=obs h;obtain⟨r33,q34,h⟩:=h
   have f35:=(hk 3 172 rfl).ret (0,x2,x3,x4,x21) q34 rfl rfl
   try dsimp only at f35
   have e36:=ecall0 f35 rfl rfl rfl rfl
   replace h:=obs h;obtain⟨r37,q38,h⟩:=h
   have f39:=(hk 4 171 rfl).ret r33 q38 rfl rfl
   try dsimp only at f39
   refine AW.reg hS [(5,.vec 2 (List.length out25)),(32,.pv (.bool (decide (r37=[99,97,115,101]))))] [.var [.pv (.str x2),.pv (.slice (List.map Token.pv x3)),.pv (.slice (List.map PV.str x4)),.pv (.int .i64 x21)],.var [.pv (.int .i64 r20.kind_),.pv (.int .i64 r20.at_),.pv (.str r20.name_),.pv (.slice (List.map Word.pv r20.words_)),.pv (.slice (List.map Redir.pv r20.redirs_)),.pv (.slice (List.map Cmd.pv r20.kids_))],.row 53 6 (List.map Cmd.pv out25) true] ?_ ?_
   ·exact dk1 (an hsp18 (an pf_172 (an e36 (an pf_171 f39))))
   refine AW.iff_ h rfl rfl (fun hb40 h=>?_) (fun hb40 h=>?_)
   ·cases h
   refine AW.skip ?_
   refine AW.exit ?_
   refine AW.seq ?_
   apply AW.rg hS [4]
   ·exact di
   refine AW.ret ?_
   cases h
   exact fin
  replace h:=bif_f hsp18 h
  refine AW.reg hS [(5,.vec 2 (List.length out25)),(32,.pv (.bool false))] [.var [.pv (.str x2),.pv (.slice (List.map Token.pv x3)),.pv (.slice (List.map PV.str x4)),.pv (.int .i64 x21)],.var [.pv (.int .i64 r20.kind_),.pv (.int .i64 r20.at_),.pv (.str r20.name_),.pv (.slice (List.map Word.pv r20.words_)),.pv (.slice (List.map Redir.pv r20.redirs_)),.pv (.slice (List.map Cmd.pv r20.kids_))],.row 53 6 (List.map Cmd.pv out25) true] ?_ ?_
  ·exact dk1 hsp18
  refine AW.cond (b:=false) rfl (fun hb=>absurd hb (by decide)) (fun _=>?_)
  refine AW.skip ?_
  refine AW.exit ?_
  refine AW.seq ?_
  apply AW.rg hS [4]
  ·exact di
  refine AW.ret ?_
  cases h
  exact fin
 cases h
set_option maxHeartbeats 4000000 in
theorem g_F173{w98:((List Cmd)→Option (Int))}(c:AllG env [(S98 w98)]):GoodH env (S173 (F173 w98)):=by
 obtain⟨O,X,hS,hX,hpf,hk⟩:=orcs (pf:=pfn) c
 have pf_98:O.pf 98=true:=pft hpf 98 rfl
 refine GH (fn:=Tryz.f173) fn_173 rfl rfl 23 rfl [] rfl ?_
 rintro(w1:Word) (r:Int) h m em
 refine GHs rfl rfl em rfl rfl rfl ?_
 clear em m
 replace h:F173 w98 w1=some r:=h
 rw[F173]at h
 refine AW.seq ?_
 apply AW.rg hS [1]
 ·exact di
 refine AW.seq ?_
 replace h:=obs h;obtain⟨r3,q4,h⟩:=h
 have f5:=(hk 0 98 rfl).ret w1.cmd_ q4 rfl rfl
 try dsimp only at f5
 apply AW.rg hS [1,3]
 ·exact di1 (an pf_98 f5)
 refine AW.seq ?_
 refine AW.seq ?_
 apply AW.rg hS [3,12,13]
 ·exact di
 refine AW.block ?_
 refine AW.lp (α:=Nat×Unit) (fun(_,_)=>⟨sl [(3,.pv (.int .i64 (IntKind.wrap .i64 (1+r3)))),(12,.pv (.int .i64 (w1.words_.length:Int))),(13,.pv (.int .i64 0))],23,[.var [.pv (.int .i64 w1.kind_),.pv (.str w1.text_),.pv (.str w1.quoted_),.pv (.slice (List.map Word.pv w1.words_)),.pv (.slice (List.map Cmd.pv w1.cmd_))]]⟩) (fun x=>iter (F173_b1 w1 r3) x.1 x.2=some r) (fun x=>x.1) (BIG,()) (Weak.slots kp) h ?_
 clear h
 intro⟨n10,_⟩ h
 replace h:=iter_some h;obtain⟨m8,rfl,h⟩:=h
 rw[F173_b1]at h
 try dsimp only at h
 refine AW.st ?_
 refine AW.seq ?_
 apply AW.rg hS [3,14]
 ·exact di
 refine AW.seq ?_
 refine AW.iff_ h rfl rfl (fun hb9 h=>?_) (fun hb9 h=>?_)
 ·cases h
 refine AW.exit ?_
 refine AW.seq ?_
 apply AW.rg hS [2]
 ·exact di
 refine AW.ret ?_
 cases h
 exact fin
set_option maxHeartbeats 4000000 in
theorem g_F98{w98:((List Cmd)→Option (Int))}(c:AllG env [(S98 w98),(S173 (F173 w98))]):GoodH env (S98 (F98 w98)):=by
 obtain⟨O,X,hS,hX,hpf,hk⟩:=orcs (pf:=pfn) c
 have pf_98:O.pf 98=true:=pft hpf 98 rfl
 have pf_173:O.pf 173=true:=pft hpf 173 rfl
 refine GH (fn:=Tryz.f98) fn_98 rfl rfl 55 rfl [] rfl ?_
 rintro(l1:(List Cmd)) (r:Int) h m em
 refine GHs rfl rfl em rfl rfl rfl ?_
 clear em m
 replace h:F98 w98 l1=some r:=h
 rw[F98]at h
 refine AW.seq ?_
 apply AW.rg hS [0]
 ·exact di
 refine AW.seq ?_
 apply AW.rg hS [0,3]
 ·exact di
 refine AW.seq ?_
 refine AW.seq ?_
 apply AW.rg hS [3,10,11,12]
 ·exact di
 refine AW.block ?_
 refine AW.lp (α:=Nat×Int×Int) (fun(_,n3,i4)=>⟨sl [(3,.pv (.int .i64 n3)),(10,.pv (.slice (List.map Cmd.pv l1))),(11,.pv (.int .i64 (l1.length:Int))),(12,.pv (.int .i64 i4))],55,[]⟩) (fun x=>iter (F98_b3 l1 w98) x.1 x.2=some r) (fun x=>x.1) (BIG,(0,0)) (Weak.slots kp) h ?_
 clear h
 intro⟨n33,n3,i4⟩ h
 replace h:=iter_some h;obtain⟨m7,rfl,h⟩:=h
 rw[F98_b3]at h
 try dsimp only at h
 refine AW.st ?_
 refine AW.seq ?_
 apply AW.rg hS [3,10,11,12,13]
 ·exact di
 refine AW.seq ?_
 refine AW.iff_ h rfl rfl (fun hb8 h=>?_) (fun hb8 h=>?_)
 ·refine AW.skip ?_
  refine AW.seq ?_
  refine AW.block ?_
  refine AW.seq ?_
  replace h:=obs h;obtain⟨u9,q10,h⟩:=h
  have f11:=lidx_f q10
  apply AW.rg hS [3,5,10,11,12]
  ·exact di1 (an f11.1 f11.2.1)
  refine AW.seq ?_
  replace h:=obs h;obtain⟨r12,q13,h⟩:=h
  have f14:=(hk 0 98 rfl).ret u9.kids_ q13 rfl rfl
  try dsimp only at f14
  apply AW.dgk mixed hS [3,5,10,11,12] (ordp hpf (by kernel_rfl))
  ·exact di1 (an pf_98 f14)
  refine AW.seq ?_
  refine AW.seq ?_
  apply AW.rg hS [3,5,10,11,12,27,28,29]
  ·exact di
  refine AW.block ?_
  refine AW.lp (α:=Nat×Int×Int) (fun(_,n15,i16)=>⟨sl [(3,.pv (.int .i64 n15)),(5,.ref 0 0),(10,.pv (.slice (List.map Cmd.pv l1))),(11,.pv (.int .i64 (l1.length:Int))),(12,.pv (.int .i64 i4)),(27,.pv (.slice (List.map Word.pv u9.words_))),(28,.pv (.int .i64 (u9.words_.length:Int))),(29,.pv (.int .i64 i16))],55,[.var [.pv (.int .i64 u9.kind_),.pv (.int .i64 u9.at_),.pv (.str u9.name_),.pv (.slice (List.map Word.pv u9.words_)),.pv (.slice (List.map Redir.pv u9.redirs_)),.pv (.slice (List.map Cmd.pv u9.kids_))]]⟩) (fun x=>iter (F98_b4 u9 w98 (iter (F98_b3 l1 w98) m7) i4) x.1 x.2=some r) (fun x=>x.1) (BIG,(IntKind.wrap .i64 (n3+(IntKind.wrap .i64 ((IntKind.wrap .i64 (1+(u9.redirs_.length:Int)))+r12))),0)) (Weak.slots kp) h ?_
  clear h
  intro⟨n32,n15,i16⟩ h
  replace h:=iter_some h;obtain⟨m19,rfl,h⟩:=h
  rw[F98_b4]at h
  try dsimp only at h
  refine AW.st ?_
  refine AW.seq ?_
  apply AW.rg hS [3,5,10,11,12,27,28,29,30]
  ·exact di
  refine AW.seq ?_
  refine AW.iff_ h rfl rfl (fun hb20 h=>?_) (fun hb20 h=>?_)
  ·refine AW.skip ?_
   refine AW.seq ?_
   refine AW.block ?_
   refine AW.seq ?_
   replace h:=obs h;obtain⟨u21,q22,h⟩:=h
   have f23:=lidx_f q22
   apply AW.rg hS [3,5,7,10,11,12,27,28,29]
   ·exact di1 (an f23.1 f23.2.1)
   replace h:=obs h;obtain⟨r24,q25,h⟩:=h
   have f26:=(hk 1 173 rfl).ret u21 q25 rfl rfl
   try dsimp only at f26
   apply AW.rg hS [3,5,10,11,12,27,28,29]
   ·exact di1 (an pf_173 f26)
   apply AW.rg hS [3,5,10,11,12,27,28,29]
   ·exact di
   exact⟨(m19,(IntKind.wrap .i64 (n15+r24),IntKind.wrap .i64 (i16+1))),h,(Weak.norm (m:=1) (Nat.le_of_ble_eq_true rfl) kp hq rfl rfl),Nat.lt_succ_self _⟩
  refine AW.exit ?_
  refine AW.seq ?_
  apply AW.rg hS [3,10,11,12,40,41]
  ·exact di
  refine AW.block ?_
  refine AW.lp (α:=Nat×Unit) (fun(_,_)=>⟨sl [(3,.pv (.int .i64 n15)),(10,.pv (.slice (List.map Cmd.pv l1))),(11,.pv (.int .i64 (l1.length:Int))),(12,.pv (.int .i64 i4)),(40,.pv (.int .i64 (u9.redirs_.length:Int))),(41,.pv (.int .i64 0))],55,[.var [.pv (.int .i64 u9.kind_),.pv (.int .i64 u9.at_),.pv (.str u9.name_),.pv (.slice (List.map Word.pv u9.words_)),.pv (.slice (List.map Redir.pv u9.redirs_)),.pv (.slice (List.map Cmd.pv u9.kids_))]]⟩) (fun x=>iter (F98_b5 u9 (iter (F98_b3 l1 w98) m7) n15 i4) x.1 x.2=some r) (fun x=>x.1) (BIG,()) (Weak.slots kp) h ?_
  clear h
  intro⟨n31,_⟩ h
  replace h:=iter_some h;obtain⟨m29,rfl,h⟩:=h
  rw[F98_b5]at h
  try dsimp only at h
  refine AW.st ?_
  refine AW.seq ?_
  apply AW.rg hS [3,10,11,12,42]
  ·exact di
  refine AW.seq ?_
  refine AW.iff_ h rfl rfl (fun hb30 h=>?_) (fun hb30 h=>?_)
  ·cases h
  refine AW.exit ?_
  apply AW.rg hS [3,10,11,12]
  ·exact di
  exact⟨(m7,(n15,IntKind.wrap .i64 (i4+1))),h,(Weak.norm (m:=0) (Nat.le_of_ble_eq_true rfl) kp hq rfl rfl),Nat.lt_succ_self _⟩
 refine AW.exit ?_
 refine AW.seq ?_
 apply AW.rg hS [2]
 ·exact di
 refine AW.ret ?_
 cases h
 exact fin
set_option maxHeartbeats 4000000 in
theorem g_F176(c:AllG env []):GoodH env (S176 F176):=by
 obtain⟨O,X,hS,hX,hpf,hk⟩:=orcs (pf:=pfn) c
 refine GH (fn:=Tryz.f176) fn_176 rfl rfl 34 rfl [] rfl ?_
 rintro(w1:Word) (r:Int) h m em
 refine GHs rfl rfl em rfl rfl rfl ?_
 clear em m
 replace h:F176 w1=some r:=h
 rw[F176]at h
 refine AW.seq ?_
 apply AW.rg hS [1]
 ·exact di
 refine AW.seq ?_
 apply AW.rg hS [1,3]
 ·exact di
 refine AW.seq ?_
 refine AW.seq ?_
 apply AW.rg hS [1,3,10,11]
 ·exact di
 refine AW.block ?_
 refine AW.lp (α:=Nat×Unit) (fun(_,_)=>⟨sl [(1,.ref 0 0),(3,.pv (.int .i64 0)),(10,.pv (.int .i64 (w1.words_.length:Int))),(11,.pv (.int .i64 0))],34,[.var [.pv (.int .i64 w1.kind_),.pv (.str w1.text_),.pv (.str w1.quoted_),.pv (.slice (List.map Word.pv w1.words_)),.pv (.slice (List.map Cmd.pv w1.cmd_))]]⟩) (fun x=>iter (F176_b1 w1) x.1 x.2=some r) (fun x=>x.1) (BIG,()) (Weak.slots kp) h ?_
 clear h
 intro⟨n12,_⟩ h
 replace h:=iter_some h;obtain⟨m5,rfl,h⟩:=h
 rw[F176_b1]at h
 try dsimp only at h
 refine AW.st ?_
 refine AW.seq ?_
 apply AW.rg hS [1,3,12]
 ·exact di
 refine AW.seq ?_
 refine AW.iff_ h rfl rfl (fun hb6 h=>?_) (fun hb6 h=>?_)
 ·cases h
 refine AW.exit ?_
 refine AW.seq ?_
 refine AW.seq ?_
 apply AW.rg hS [3,22,23]
 ·exact di
 refine AW.block ?_
 refine AW.lp (α:=Nat×Unit) (fun(_,_)=>⟨sl [(3,.pv (.int .i64 0)),(22,.pv (.int .i64 (w1.cmd_.length:Int))),(23,.pv (.int .i64 0))],34,[.var [.pv (.int .i64 w1.kind_),.pv (.str w1.text_),.pv (.str w1.quoted_),.pv (.slice (List.map Word.pv w1.words_)),.pv (.slice (List.map Cmd.pv w1.cmd_))]]⟩) (fun x=>iter (F176_b2 w1) x.1 x.2=some r) (fun x=>x.1) (BIG,()) (Weak.slots kp) h ?_
 clear h
 intro⟨n11,_⟩ h
 replace h:=iter_some h;obtain⟨m9,rfl,h⟩:=h
 rw[F176_b2]at h
 try dsimp only at h
 refine AW.st ?_
 refine AW.seq ?_
 apply AW.rg hS [3,24]
 ·exact di
 refine AW.seq ?_
 refine AW.iff_ h rfl rfl (fun hb10 h=>?_) (fun hb10 h=>?_)
 ·cases h
 refine AW.exit ?_
 refine AW.seq ?_
 apply AW.rg hS [2]
 ·exact di
 refine AW.ret ?_
 cases h
 exact fin
set_option maxHeartbeats 4000000 in
theorem g_F101(c:AllG env [(S176 F176)]):GoodH env (S101 F101):=by
 obtain⟨O,X,hS,hX,hpf,hk⟩:=orcs (pf:=pfn) c
 have pf_176:O.pf 176=true:=pft hpf 176 rfl
 refine GH (fn:=Tryz.f101) fn_101 rfl rfl 51 rfl [] rfl ?_
 rintro(c1:Cmd) (r:Int) h m em
 refine GHs rfl rfl em rfl rfl rfl ?_
 clear em m
 replace h:F101 c1=some r:=h
 rw[F101]at h
 refine AW.seq ?_
 apply AW.rg hS [1]
 ·exact di
 refine AW.seq ?_
 apply AW.rg hS [1,3]
 ·exact di
 refine AW.seq ?_
 refine AW.seq ?_
 apply AW.rg hS [1,3,12,13]
 ·exact di
 refine AW.block ?_
 refine AW.lp (α:=Nat×Unit) (fun(_,_)=>⟨sl [(1,.ref 0 0),(3,.pv (.int .i64 0)),(12,.pv (.int .i64 (c1.kids_.length:Int))),(13,.pv (.int .i64 0))],51,[.var [.pv (.int .i64 c1.kind_),.pv (.int .i64 c1.at_),.pv (.str c1.name_),.pv (.slice (List.map Word.pv c1.words_)),.pv (.slice (List.map Redir.pv c1.redirs_)),.pv (.slice (List.map Cmd.pv c1.kids_))]]⟩) (fun x=>iter (F101_b1 c1) x.1 x.2=some r) (fun x=>x.1) (BIG,()) (Weak.slots kp) h ?_
 clear h
 intro⟨n25,_⟩ h
 replace h:=iter_some h;obtain⟨m5,rfl,h⟩:=h
 rw[F101_b1]at h
 try dsimp only at h
 refine AW.st ?_
 refine AW.seq ?_
 apply AW.rg hS [1,3,14]
 ·exact di
 refine AW.seq ?_
 refine AW.iff_ h rfl rfl (fun hb6 h=>?_) (fun hb6 h=>?_)
 ·cases h
 refine AW.exit ?_
 refine AW.seq ?_
 refine AW.seq ?_
 apply AW.rg hS [1,3,23,24,25]
 ·exact di
 refine AW.block ?_
 refine AW.lp (α:=Nat×Int×Int) (fun(_,n7,i8)=>⟨sl [(1,.ref 0 0),(3,.pv (.int .i64 n7)),(23,.pv (.slice (List.map Word.pv c1.words_))),(24,.pv (.int .i64 (c1.words_.length:Int))),(25,.pv (.int .i64 i8))],51,[.var [.pv (.int .i64 c1.kind_),.pv (.int .i64 c1.at_),.pv (.str c1.name_),.pv (.slice (List.map Word.pv c1.words_)),.pv (.slice (List.map Redir.pv c1.redirs_)),.pv (.slice (List.map Cmd.pv c1.kids_))]]⟩) (fun x=>iter (F101_b2 c1) x.1 x.2=some r) (fun x=>x.1) (BIG,(0,0)) (Weak.slots kp) h ?_
 clear h
 intro⟨n24,n7,i8⟩ h
 replace h:=iter_some h;obtain⟨m11,rfl,h⟩:=h
 rw[F101_b2]at h
 try dsimp only at h
 refine AW.st ?_
 refine AW.seq ?_
 apply AW.rg hS [1,3,23,24,25,26]
 ·exact di
 refine AW.seq ?_
 refine AW.iff_ h rfl rfl (fun hb12 h=>?_) (fun hb12 h=>?_)
 ·refine AW.skip ?_
  refine AW.seq ?_
  refine AW.block ?_
  refine AW.seq ?_
  replace h:=obs h;obtain⟨u13,q14,h⟩:=h
  have f15:=lidx_f q14
  apply AW.rg hS [1,3,7,23,24,25]
  ·exact di1 (an f15.1 f15.2.1)
  replace h:=obs h;obtain⟨r16,q17,h⟩:=h
  have f18:=(hk 0 176 rfl).ret u13 q17 rfl rfl
  try dsimp only at f18
  refine AW.reg hS [(1,.ref 0 0),(3,.pv (.int .i64 (imax n7 r16))),(23,.pv (.slice (List.map Word.pv c1.words_))),(24,.pv (.int .i64 (c1.words_.length:Int))),(25,.pv (.int .i64 i8))] [.var [.pv (.int .i64 c1.kind_),.pv (.int .i64 c1.at_),.pv (.str c1.name_),.pv (.slice (List.map Word.pv c1.words_)),.pv (.slice (List.map Redir.pv c1.redirs_)),.pv (.slice (List.map Cmd.pv c1.kids_))],.var [.pv (.int .i64 u13.kind_),.pv (.str u13.text_),.pv (.str u13.quoted_),.pv (.slice (List.map Word.pv u13.words_)),.pv (.slice (List.map Cmd.pv u13.cmd_))]] ?_ ?_
  ·exact dk1 (an pf_176 f18)
  apply AW.rg hS [1,3,23,24,25]
  ·exact di
  exact⟨(m11,(imax n7 r16,IntKind.wrap .i64 (i8+1))),h,(Weak.norm (m:=1) (Nat.le_of_ble_eq_true rfl) kp hq rfl rfl),Nat.lt_succ_self _⟩
 refine AW.exit ?_
 refine AW.seq ?_
 refine AW.seq ?_
 apply AW.rg hS [3,36,37]
 ·exact di
 refine AW.block ?_
 refine AW.lp (α:=Nat×Unit) (fun(_,_)=>⟨sl [(3,.pv (.int .i64 n7)),(36,.pv (.int .i64 (c1.redirs_.length:Int))),(37,.pv (.int .i64 0))],51,[.var [.pv (.int .i64 c1.kind_),.pv (.int .i64 c1.at_),.pv (.str c1.name_),.pv (.slice (List.map Word.pv c1.words_)),.pv (.slice (List.map Redir.pv c1.redirs_)),.pv (.slice (List.map Cmd.pv c1.kids_))]]⟩) (fun x=>iter (F101_b3 c1 n7) x.1 x.2=some r) (fun x=>x.1) (BIG,()) (Weak.slots kp) h ?_
 clear h
 intro⟨n23,_⟩ h
 replace h:=iter_some h;obtain⟨m21,rfl,h⟩:=h
 rw[F101_b3]at h
 try dsimp only at h
 refine AW.st ?_
 refine AW.seq ?_
 apply AW.rg hS [3,38]
 ·exact di
 refine AW.seq ?_
 refine AW.iff_ h rfl rfl (fun hb22 h=>?_) (fun hb22 h=>?_)
 ·cases h
 refine AW.exit ?_
 refine AW.seq ?_
 apply AW.rg hS [2]
 ·exact di
 refine AW.ret ?_
 cases h
 exact fin
set_option maxHeartbeats 4000000 in
theorem g_F100(c:AllG env [(S101 F101)]):GoodH env (S100 F100):=by
 obtain⟨O,X,hS,hX,hpf,hk⟩:=orcs (pf:=pfn) c
 have pf_101:O.pf 101=true:=pft hpf 101 rfl
 refine GH (fn:=Tryz.f100) fn_100 rfl rfl 6 rfl [] rfl ?_
 rintro(c1:Cmd) (r:Bool) h m em
 refine GHs rfl rfl em rfl rfl rfl ?_
 clear em m
 replace h:F100 c1=some r:=h
 rw[F100]at h
 refine AW.seq ?_
 apply AW.rg hS [1]
 ·exact di
 refine AW.seq ?_
 replace h:=obs h;obtain⟨r3,q4,h⟩:=h
 have f5:=(hk 0 101 rfl).ret c1 q4 rfl rfl
 try dsimp only at f5
 apply AW.rg hS [2]
 ·exact di1 (an pf_101 f5)
 refine AW.ret ?_
 cases h
 exact fin
set_option maxHeartbeats 4000000 in
theorem g_F175(c:AllG env [(S100 F100)]):GoodH env (S175 F175):=by
 obtain⟨O,X,hS,hX,hpf,hk⟩:=orcs (pf:=pfn) c
 have pf_100:O.pf 100=true:=pft hpf 100 rfl
 refine GH (fn:=Tryz.f175) fn_175 rfl rfl 19 rfl [] rfl ?_
 rintro(s1:(List Cmd)) (r:Int) h m em
 refine GHs rfl rfl em rfl rfl rfl ?_
 clear em m
 replace h:F175 s1=some r:=h
 rw[F175]at h
 refine AW.seq ?_
 apply AW.rg hS [0,1]
 ·exact di
 refine AW.seq ?_
 refine AW.seq ?_
 apply AW.rg hS [0,1,7,8]
 ·exact di
 refine AW.block ?_
 refine AW.lp (α:=Nat×Int) (fun(_,i3)=>⟨sl [(0,.pv (.slice (List.map Cmd.pv s1))),(1,.fn 100 []),(7,.pv (.int .i64 (s1.length:Int))),(8,.pv (.int .i64 i3))],19,[]⟩) (fun x=>iter (F175_b1 s1) x.1 x.2=some r) (fun x=>x.1) (BIG,0) (Weak.slots kp) h ?_
 clear h
 intro⟨n15,i3⟩ h
 replace h:=iter_some h;obtain⟨m6,rfl,h⟩:=h
 rw[F175_b1]at h
 try dsimp only at h
 refine AW.st ?_
 refine AW.seq ?_
 apply AW.rg hS [0,1,7,8,9]
 ·exact di
 refine AW.seq ?_
 refine AW.iff_ h rfl rfl (fun hb7 h=>?_) (fun hb7 h=>?_)
 ·refine AW.skip ?_
  refine AW.seq ?_
  refine AW.block ?_
  refine AW.seq ?_
  apply AW.rg hS [0,1,5,7,8]
  ·exact di
  refine AW.seq ?_
  replace h:=obs h;obtain⟨u8,q9,h⟩:=h
  have f10:=lidx_f q9
  replace h:=obs h;obtain⟨r11,q12,h⟩:=h
  have f13:=(hk 0 100 rfl).ret u8 q12 rfl rfl
  try dsimp only at f13
  apply AW.rg hS [0,1,7,8,16]
  ·exact di1 (an f10.1 (an f10.2.1 (an pf_100 f13)))
  refine AW.iff_ h rfl rfl (fun hb14 h=>?_) (fun hb14 h=>?_)
  ·cases h
  refine AW.skip ?_
  apply AW.rg hS [0,1,7,8]
  ·exact di
  exact⟨(m6,IntKind.wrap .i64 (i3+1)),h,(Weak.norm (m:=0) (Nat.le_of_ble_eq_true rfl) kp hq rfl rfl),Nat.lt_succ_self _⟩
 refine AW.exit ?_
 refine AW.seq ?_
 apply AW.rg hS [4]
 ·exact di
 refine AW.ret ?_
 cases h
 exact fin
set_option maxHeartbeats 4000000 in
theorem g_F99(c:AllG env [(S175 F175)]):GoodH env (S99 F99):=by
 obtain⟨O,X,hS,hX,hpf,hk⟩:=orcs (pf:=pfn) c
 have pf_175:O.pf 175=false:=pft hpf 175 rfl
 refine GH (fn:=Tryz.f99) fn_99 rfl rfl 9 rfl [] rfl ?_
 rintro(s1:(List Cmd)) (r:Bool) h m em
 refine GHs rfl rfl em rfl rfl rfl ?_
 clear em m
 replace h:F99 s1=some r:=h
 rw[F99]at h
 refine AW.seq ?_
 apply AW.rg hS [0,1]
 ·exact di
 refine AW.seq ?_
 replace h:=obs h;obtain⟨r3,q4,h⟩:=h
 have f5:=(hk 0 175 rfl).ret s1 q4 rfl rfl
 try dsimp only at f5
 have e6:ecall O [] 175 [.pv (.slice (List.map Cmd.pv s1)),.fn 100 []]=some (retAV [.pv (.int .i64 r3)],[]):=ecall_eq rfl rfl rfl f5 rfl rfl rfl
 apply AW.rg hS [4]
 ·exact di1 (an pf_175 e6)
 refine AW.ret ?_
 cases h
 exact fin
set_option maxHeartbeats 4000000 in
theorem g_F42(c:AllG env [(S98 (K98 BIG)),(S99 F99)]):GoodH env (S42 F42):=by
 obtain⟨O,X,hS,hX,hpf,hk⟩:=orcs (pf:=pfn) c
 have pf_98:O.pf 98=true:=pft hpf 98 rfl
 have pf_99:O.pf 99=false:=pft hpf 99 rfl
 refine GH (fn:=Tryz.f42) fn_42 rfl rfl 11 rfl [] rfl ?_
 rintro(l1:(List Cmd)) (r:Bool) h m em
 refine GHs rfl rfl em rfl rfl rfl ?_
 clear em m
 replace h:F42 l1=some r:=h
 rw[F42]at h
 refine AW.seq ?_
 apply AW.rg hS [0]
 ·exact di
 refine AW.seq ?_
 replace h:=obs h;obtain⟨r3,q4,h⟩:=h
 have f5:=hk 0 98 rfl
 replace f5:=f5.ret l1 q4 rfl rfl
 try dsimp only at f5
 refine AW.cases (decide (r3≤1024)) (fun hsp20=>?_) (fun hsp20=>?_)
 ·replace h:=bif_t hsp20 h
  replace h:=obs h;obtain⟨r6,q7,h⟩:=h
  have f8:=(hk 1 99 rfl).ret l1 q7 rfl rfl
  try dsimp only at f8
  have e9:ecall O [] 99 [.pv (.slice (List.map Cmd.pv l1)),.fn 100 []]=some (retAV [.pv (.bool r6)],[]):=ecall_eq rfl rfl rfl f8 rfl rfl rfl
  refine AW.reg hS [(2,.pv (.bool (!r6)))] [] ?_ ?_
  ·exact dk1 (an pf_98 (an f5 (an hsp20 (an pf_99 e9))))
  refine AW.ret ?_
  cases h
  exact fin
 replace h:=bif_f hsp20 h
 refine AW.reg hS [(2,.pv (.bool false))] [] ?_ ?_
 ·exact dk1 (an pf_98 (an f5 hsp20))
 refine AW.ret ?_
 cases h
 exact fin
set_option maxHeartbeats 4000000 in
theorem g_F13(c:AllG env [(S40 F40),(S41 F41),(S42 F42)]):GoodH env (S13 F13):=by
 obtain⟨O,X,hS,hX,hpf,hk⟩:=orcs (pf:=pfn) c
 have pf_40:O.pf 40=true:=pft hpf 40 rfl
 have pf_41:O.pf 41=true:=pft hpf 41 rfl
 have pf_42:O.pf 42=true:=pft hpf 42 rfl
 refine GH (fn:=Tryz.f13) fn_13 rfl rfl 34 rfl [] rfl ?_
 rintro(s1:Str) (r:(List Cmd)×Int×Int) h m em
 refine GHs rfl rfl em rfl rfl rfl ?_
 clear em m
 replace h:F13 s1=some r:=h
 rw[F13]at h
 refine AW.seq ?_
 apply AW.rg hS [0]
 ·exact di
 refine AW.seq ?_
 replace h:=obs h;obtain⟨⟨r5,r6,r7⟩,q8,h⟩:=h
 dsimp only at h
 have f9:=(hk 0 40 rfl).ret s1 q8 rfl rfl
 try dsimp only at f9
 apply AW.rg hS [0,5,7]
 ·exact di1 (an pf_40 f9)
 refine AW.seq ?_
 refine AW.seq ?_
 apply AW.rg hS [0,5,16]
 ·exact di
 refine AW.iff_ h rfl rfl (fun hb10 h=>?_) (fun hb10 h=>?_)
 ·cases h
 refine AW.skip ?_
 refine AW.seq ?_
 replace h:=obs h;obtain⟨⟨r11,r12,r13⟩,q14,h⟩:=h
 dsimp only at h
 have f15:=(hk 1 41 rfl).ret (s1,r5) q14 rfl rfl
 try dsimp only at f15
 apply AW.rg hS [7,8]
 ·exact di1 (an pf_41 f15)
 refine AW.seq ?_
 refine AW.seq ?_
 apply AW.rg hS [8,27]
 ·exact di
 refine AW.iff_ h rfl rfl (fun hb16 h=>?_) (fun hb16 h=>?_)
 ·cases h
 refine AW.skip ?_
 refine AW.seq ?_
 refine AW.seq ?_
 replace h:=obs h;obtain⟨r17,q18,h⟩:=h
 have f19:=(hk 2 42 rfl).ret r11 q18 rfl rfl
 try dsimp only at f19
 apply AW.rg hS [8,32]
 ·exact di1 (an pf_42 f19)
 refine AW.iff_ h rfl rfl (fun hb20 h=>?_) (fun hb20 h=>?_)
 ·cases h
 refine AW.skip ?_
 refine AW.seq ?_
 apply AW.rg hS [2,3,4]
 ·exact di
 refine AW.ret ?_
 cases h
 exact fin
set_option maxHeartbeats 4000000 in
theorem g_F45(c:AllG env []):GoodH env (S45 F45):=by
 obtain⟨O,X,hS,hX,hpf,hk⟩:=orcs (pf:=pfn) c
 refine GH (fn:=Tryz.f45) fn_45 rfl rfl 92 rfl [] rfl ?_
 rintro(⟨l1,group2,w3⟩:(List GEnv)×Int×Word) (r:(List GValue)×Int) h m em
 refine GHs rfl rfl em rfl rfl rfl ?_
 clear em m
 replace h:F45 l1 group2 w3=some r:=h
 rw[F45]at h
 refine AW.seq ?_
 apply AW.rg hS [5]
 ·exact di
 refine AW.seq ?_
 refine AW.seq ?_
 apply AW.rg hS [5,12]
 ·exact di
 refine AW.block ?_
 refine AW.seq ?_
 apply AW.rg hS [5,13]
 ·exact di
 refine AW.iff_ h rfl rfl (fun hb6 h=>?_) (fun hb6 h=>?_)
 ·refine AW.seq ?_
  refine AW.seq ?_
  apply AW.rg hS [5,21]
  ·exact di
  refine AW.iff_ h rfl rfl (fun hb7 h=>?_) (fun hb7 h=>?_)
  ·cases h
  refine AW.skip ?_
  refine AW.seq ?_
  refine AW.reg hS [(6,.full (List.map GValue.pv [GValue.mk w3.text_ w3.quoted_])),(7,.pv (.int .i64 0))] [.var [.pv (.int .i64 w3.kind_),.pv (.str w3.text_),.pv (.str w3.quoted_),.pv (.slice (List.map Word.pv w3.words_)),.pv (.slice (List.map Cmd.pv w3.cmd_))]] ?_ ?_
  ·exact dk
  refine AW.ret ?_
  cases h
  exact fin
 cases h
set_option maxHeartbeats 4000000 in
theorem g_F46(c:AllG env []):GoodH env (S46 F46):=by
 obtain⟨O,X,hS,hX,hpf,hk⟩:=orcs (pf:=pfn) c
 refine GH (fn:=Tryz.f46) fn_46 rfl rfl 19 rfl [] rfl ?_
 rintro(l1:(List GValue)) (r:(List Str)) h m em
 refine GHs rfl rfl em rfl rfl rfl ?_
 clear em m
 replace h:F46 l1=some r:=h
 rw[F46]at h
 refine AW.seq ?_
 apply AW.rg hS [0]
 ·exact di
 refine AW.seq ?_
 refine AW.reg hS [(0,.pv (.slice (List.map GValue.pv l1))),(3,.nils)] [] ?_ ?_
 ·exact dk
 refine AW.weak (Weak.own 3 9 1 (by decide) rfl) ?_
 refine AW.weak (Weak.slots (L:=[(0,.pv (.slice (List.map GValue.pv l1))),(3,.vec 0 (List.length ([]:List Str)))]) ⟨rfl,rfl,trivial⟩) ?_
 refine AW.seq ?_
 refine AW.seq ?_
 apply AW.rg hS [3,6,7,8]
 ·exact di
 refine AW.block ?_
 refine AW.lp (α:=Nat×Int×(List Str)) (fun(_,i3,l4)=>⟨sl [(3,.vec 0 (List.length l4)),(6,.pv (.slice (List.map GValue.pv l1))),(7,.pv (.int .i64 (l1.length:Int))),(8,.pv (.int .i64 i3))],19,[.row 9 1 (List.map PV.str l4) true]⟩) (fun x=>iter (F46_b1 l1) x.1 x.2=some r) (fun x=>x.1) (BIG,(0,([]:List Str))) (Weak.slots kp) h ?_
 clear h
 intro⟨n15,i3,l4⟩ h
 replace h:=iter_some h;obtain⟨m7,rfl,h⟩:=h
 rw[F46_b1]at h
 try dsimp only at h
 refine AW.st ?_
 refine AW.seq ?_
 apply AW.rg hS [3,6,7,8,9]
 ·exact di
 refine AW.seq ?_
 refine AW.iff_ h rfl rfl (fun hb8 h=>?_) (fun hb8 h=>?_)
 ·refine AW.skip ?_
  refine AW.seq ?_
  refine AW.block ?_
  refine AW.seq ?_
  replace h:=obs h;obtain⟨u9,q10,h⟩:=h
  have f11:=lidx_f q10
  apply AW.rg hS [3,5,6,7,8]
  ·exact di1 (an f11.1 f11.2.1)
  replace h:=obs h;obtain⟨out12,q13,h⟩:=h
  have f14:=appO_f q13
  try simp only[List.length_cons,List.length_nil,List.length_replicate,Nat.zero_add,Nat.reduceAdd,Nat.reduceLeDiff,Nat.add_zero,Nat.reduceMul]at f14
  have f14m:=appO_m PV.str q13
  try simp only[List.map_cons,List.map_nil,List.nil_append,oPV_none,oPV_some,Attr.pv_eq,P22_eq,Plumb.pv_eq,Token.pv_eq,P50_eq,Redir.pv_eq,P51_eq,Cmd.pv_eq,P46_eq,Word.pv_eq,P54_eq,Var.pv_eq,P324_eq,GEnv.pv_eq,GValue.pv_eq,P59_eq,Qid.pv_eq,P66_eq,Dir.pv_eq,Msg.pv_eq,Call.pv_eq,P60_eq,Client.pv_eq,S274.pv_eq,S276.pv_eq,P81_eq,Port.pv_eq,Pattern.pv_eq,P153_eq,Rule.pv_eq,P29_eq,P30_eq,Plumber.pv_eq]at f14m
  have f14n:=appO_n q13
  try simp only[List.length_cons,List.length_nil,Nat.zero_add]at f14n
  refine AW.reg hS [(3,.vec 0 (List.length out12)),(6,.pv (.slice (List.map GValue.pv l1))),(7,.pv (.int .i64 (l1.length:Int))),(8,.pv (.int .i64 i3))] [.row 9 1 (List.map PV.str out12) true,.var [.pv (.str u9.text_),.pv (.str u9.marks_)]] ?_ ?_
  ·exact dk1 (an f14.1 (an f14m f14n))
  clear f14
  clear f14m
  clear f14n
  apply AW.rg hS [3,6,7,8]
  ·exact di
  exact⟨(m7,(IntKind.wrap .i64 (i3+1),out12)),h,(Weak.norm (m:=1) (Nat.le_of_ble_eq_true rfl) kp hq rfl rfl),Nat.lt_succ_self _⟩
 refine AW.exit ?_
 refine AW.seq ?_
 apply AW.rg hS [2]
 ·exact di
 refine AW.ret ?_
 cases h
 exact fin
set_option maxHeartbeats 4000000 in
theorem g_F15(c:AllG env [(S45 F45),(S46 F46)]):GoodH env (S15 F15):=by
 obtain⟨O,X,hS,hX,hpf,hk⟩:=orcs (pf:=pfn) c
 have pf_45:O.pf 45=true:=pft hpf 45 rfl
 have pf_46:O.pf 46=true:=pft hpf 46 rfl
 refine GH (fn:=Tryz.f15) fn_15 rfl rfl 39 rfl [] rfl ?_
 rintro(⟨l1,group2,w3⟩:(List GEnv)×Int×Word) (r:(List Str)×(List Str)×Int) h m em
 refine GHs rfl rfl em rfl rfl rfl ?_
 clear em m
 replace h:F15 l1 group2 w3=some r:=h
 rw[F15]at h
 refine AW.seq ?_
 apply AW.rg hS [0,1,5]
 ·exact di
 refine AW.seq ?_
 replace h:=obs h;obtain⟨⟨r7,r8⟩,q9,h⟩:=h
 dsimp only at h
 have f10:=(hk 0 45 rfl).ret (l1,group2,w3) q9 rfl rfl
 try dsimp only at f10
 apply AW.rg hS [9,10]
 ·exact di1 (an pf_45 f10)
 refine AW.seq ?_
 refine AW.seq ?_
 apply AW.rg hS [9,22]
 ·exact di
 refine AW.iff_ h rfl rfl (fun hb11 h=>?_) (fun hb11 h=>?_)
 ·cases h
 refine AW.skip ?_
 refine AW.seq ?_
 refine AW.reg hS [(9,.pv (.slice (List.map GValue.pv r7))),(11,.nils)] [.var [.pv (.int .i64 w3.kind_),.pv (.str w3.text_),.pv (.str w3.quoted_),.pv (.slice (List.map Word.pv w3.words_)),.pv (.slice (List.map Cmd.pv w3.cmd_))]] ?_ ?_
 ·exact dk
 refine AW.weak (Weak.own 11 9 1 (by decide) rfl) ?_
 refine AW.weak (Weak.slots (L:=[(9,.pv (.slice (List.map GValue.pv r7))),(11,.vec 1 (List.length ([]:List Str)))]) ⟨rfl,rfl,trivial⟩) ?_
 refine AW.seq ?_
 refine AW.seq ?_
 apply AW.rg hS [9,11,24,25,26]
 ·exact di
 refine AW.block ?_
 refine AW.lp (α:=Nat×Int×(List Str)) (fun(_,i12,l13)=>⟨sl [(9,.pv (.slice (List.map GValue.pv r7))),(11,.vec 1 (List.length l13)),(24,.pv (.slice (List.map GValue.pv r7))),(25,.pv (.int .i64 (r7.length:Int))),(26,.pv (.int .i64 i12))],39,[.var [.pv (.int .i64 w3.kind_),.pv (.str w3.text_),.pv (.str w3.quoted_),.pv (.slice (List.map Word.pv w3.words_)),.pv (.slice (List.map Cmd.pv w3.cmd_))],.row 9 1 (List.map PV.str l13) true]⟩) (fun x=>iter (F15_b1 r7) x.1 x.2=some r) (fun x=>x.1) (BIG,(0,([]:List Str))) (Weak.slots kp) h ?_
 clear h
 intro⟨n27,i12,l13⟩ h
 replace h:=iter_some h;obtain⟨m16,rfl,h⟩:=h
 rw[F15_b1]at h
 try dsimp only at h
 refine AW.st ?_
 refine AW.seq ?_
 apply AW.rg hS [9,11,24,25,26,27]
 ·exact di
 refine AW.seq ?_
 refine AW.iff_ h rfl rfl (fun hb17 h=>?_) (fun hb17 h=>?_)
 ·refine AW.skip ?_
  refine AW.seq ?_
  refine AW.block ?_
  refine AW.seq ?_
  replace h:=obs h;obtain⟨u18,q19,h⟩:=h
  have f20:=lidx_f q19
  apply AW.rg hS [9,11,13,24,25,26]
  ·exact di1 (an f20.1 f20.2.1)
  replace h:=obs h;obtain⟨out21,q22,h⟩:=h
  have f23:=appO_f q22
  try simp only[List.length_cons,List.length_nil,List.length_replicate,Nat.zero_add,Nat.reduceAdd,Nat.reduceLeDiff,Nat.add_zero,Nat.reduceMul]at f23
  have f23m:=appO_m PV.str q22
  try simp only[List.map_cons,List.map_nil,List.nil_append,oPV_none,oPV_some,Attr.pv_eq,P22_eq,Plumb.pv_eq,Token.pv_eq,P50_eq,Redir.pv_eq,P51_eq,Cmd.pv_eq,P46_eq,Word.pv_eq,P54_eq,Var.pv_eq,P324_eq,GEnv.pv_eq,GValue.pv_eq,P59_eq,Qid.pv_eq,P66_eq,Dir.pv_eq,Msg.pv_eq,Call.pv_eq,P60_eq,Client.pv_eq,S274.pv_eq,S276.pv_eq,P81_eq,Port.pv_eq,Pattern.pv_eq,P153_eq,Rule.pv_eq,P29_eq,P30_eq,Plumber.pv_eq]at f23m
  have f23n:=appO_n q22
  try simp only[List.length_cons,List.length_nil,Nat.zero_add]at f23n
  refine AW.reg hS [(9,.pv (.slice (List.map GValue.pv r7))),(11,.vec 1 (List.length out21)),(24,.pv (.slice (List.map GValue.pv r7))),(25,.pv (.int .i64 (r7.length:Int))),(26,.pv (.int .i64 i12))] [.var [.pv (.int .i64 w3.kind_),.pv (.str w3.text_),.pv (.str w3.quoted_),.pv (.slice (List.map Word.pv w3.words_)),.pv (.slice (List.map Cmd.pv w3.cmd_))],.row 9 1 (List.map PV.str out21) true,.var [.pv (.str u18.text_),.pv (.str u18.marks_)]] ?_ ?_
  ·exact dk1 (an f23.1 (an f23m f23n))
  clear f23
  clear f23m
  clear f23n
  apply AW.rg hS [9,11,24,25,26]
  ·exact di
  exact⟨(m16,(IntKind.wrap .i64 (i12+1),out21)),h,(Weak.norm (m:=2) (Nat.le_of_ble_eq_true rfl) kp hq rfl rfl),Nat.lt_succ_self _⟩
 refine AW.exit ?_
 refine AW.seq ?_
 replace h:=obs h;obtain⟨r24,q25,h⟩:=h
 have f26:=(hk 1 46 rfl).ret r7 q25 rfl rfl
 try dsimp only at f26
 apply AW.rg hS [6,7,8]
 ·exact di1 (an pf_46 f26)
 refine AW.ret ?_
 cases h
 exact fin
end Go.Abs.U54
