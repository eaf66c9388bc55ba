import Derived.Test.YtljahlbklgnfhaaGreatDoorD1
set_option linter.unusedVariables false
set_option linter.unusedSimpArgs false
set_option linter.defProp false
set_option maxRecDepth 8000
set_option maxHeartbeats 4000000
namespace Go.Abs.U48
open Go.RowKit Go.Proofs AW
theorem g_F28{w28:Y10}{w62:Y9}(c:AllG env [(S62 w62),(S28 w28)]):GoodH env (S28 (F28 w28 w62)):=by
 obtain⟨O,X,hS,hX,hpf,hk⟩:=orp c
 refine gh fn_28 77 ?_
 rintro⟨l1,left2⟩ (r:Int) h m em
 refine ghs em ?_;clear em m
 replace h:F28 w28 w62 l1 left2=some r:=h
 rw[F28]at h
 refine srg hS [0,1] di ?_
 refine seq ?_
 refine srg hS [0,1,8] di ?_
 refine ifk h (fun hb4 h=>?_) fun hb4 h=>?_
 ·refine srg hS [4] di ?_
  cases h;exact ret fin
 ·refine seq ?_
  refine srg hS [0,1,10,11] di ?_
  refine block ?_
  refine lp (α:=Nat×Int×Int) (fun(_,left5,i6)=>⟨sl [(0,vC l1),(1,ai left5),(10,ai (l1.length:Int)),(11,ai i6)],77,[]⟩) (fun x=>iter (F28_b2 l1 w62 w28) x.1 x.2=some r) (fun x=>x.1) (BIG,(left2,0)) (Weak.slots kp) h ?_
  clear h
  intro⟨n38,left5,i6⟩ h
  replace h:=iter_some h;obtain⟨m9,rfl,h⟩:=h
  rw[F28_b2]at h
  try dsimp only at h
  refine AW.st ?_
  refine srg hS [0,1,10,11,12] di ?_
  refine seq ?_
  refine ifs h (fun hb10 h=>?_) fun hb10 h=>?_
  ·refine skip ?_
   refine seq ?_
   refine block ?_
   refine srg hS [0,1,5,10,11] di ?_
   refine srg hS [0,1,5,10,11] di ?_
   refine seq ?_
   refine seq ?_
   obtain⟨u11,q12,h⟩:=obs h
   have f13:=lidx_g (guardO_t q12)
   refine reg hS [(0,vC l1),(1,ai (IntKind.wrap .i64 (left5-1))),(5,ai i6),(10,ai (l1.length:Int)),(11,ai i6),(36,ab ((decide (IntKind.wrap .i64 (left5-1)<0)||decide (2000<(u11.name_.length:Int)))||decide (IntKind.wrap .i64 (left5-1)<(u11.redirs_.length:Int))))] [] ?_ ?_
   ·clear h hk hS hX c
    exact dh1 (an f13.1 f13.2.1)
   refine ifk h (fun hb14 h=>?_) fun hb14 h=>?_
   ·refine srg hS [4] di ?_
    cases h;exact ret fin
   ·refine seq ?_
    obtain⟨u15,q16,h⟩:=obs h
    have f17:=lidx_f q16
    obtain⟨r18,q19,h⟩:=obs h
    have f20:=(hk 0 62 rfl).ret (u15.words_,IntKind.wrap .i64 (left5-1)) q19 rfl rfl
    refine rg hS [0,1,5,10,11] (di1 (an f17.1 (an f17.2.1 (ap1 62 hpf f20)))) ?_
    refine seq ?_
    obtain⟨r21,q22,h⟩:=obs h
    have f23:=(hk 1 28 rfl).ret (u15.kids_,r18) q22 rfl rfl
    refine rg hS [0,1,5,10,11] (di1 (an f17.1 (an f17.2.1 (ap1 28 hpf f23)))) ?_
    refine seq ?_
    refine srg hS [0,1,5,10,11,56,57] (di1 (an f17.1 f17.2.1)) ?_
    refine block ?_
    refine lp (α:=Nat×Int×Int) (fun(_,left24,i25)=>⟨sl [(0,vC l1),(1,ai left24),(5,ai i6),(10,ai (l1.length:Int)),(11,ai i6),(56,ai (u15.redirs_.length:Int)),(57,ai i25)],77,[]⟩) (fun x=>iter (F28_b3 u15 w62 (iter (F28_b2 l1 w62 w28) m9) i6) x.1 x.2=some r) (fun x=>x.1) (BIG,(r21,0)) (Weak.slots kp) h ?_
    clear h
    intro⟨n37,left24,i25⟩ h
    replace h:=iter_some h;obtain⟨m28,rfl,h⟩:=h
    rw[F28_b3]at h
    try dsimp only at h
    refine AW.st ?_
    refine srg hS [0,1,5,10,11,56,57,58] di ?_
    refine seq ?_
    refine ifs h (fun hb29 h=>?_) fun hb29 h=>?_
    ·refine skip ?_
     refine seq ?_
     refine block ?_
     refine srg hS [0,1,5,6,10,11,56,57] di ?_
     obtain⟨u30,q31,h⟩:=obs h
     have f32:=lidx_f q31
     obtain⟨r33,q34,h⟩:=obs h
     have f35:=(hk 0 62 rfl).ret (([u30.word_]:List Word),left24) q34 rfl rfl
     try simp only[PVE]at f35
     refine reg hS [(0,vC l1),(1,ai r33),(5,ai i6),(10,ai (l1.length:Int)),(11,ai i6),(56,ai (u15.redirs_.length:Int)),(57,ai i25)] [] (dk1 (an f17.1 (an f17.2.1 (an f32.1 (an f32.2.1 (ap1 62 hpf f35)))))) ?_
     refine rg hS [0,1,5,10,11,56,57] di ?_
     exact⟨(m28,(r33,IntKind.wrap .i64 (i25+1))),h,(Weak.norm (m:=0) (Nat.le_of_ble_eq_true rfl) kp hq rfl rfl),Nat.lt_succ_self _⟩
    ·refine exit ?_
     refine srg hS [0,1,10,11,74] di ?_
     refine ifk h (fun hb36 h=>?_) fun hb36 h=>?_
     ·refine srg hS [4] di ?_
      cases h;exact ret fin
     ·refine rg hS [0,1,10,11] di ?_
      exact⟨(m9,(left24,IntKind.wrap .i64 (i6+1))),h,(Weak.norm (m:=0) (Nat.le_of_ble_eq_true rfl) kp hq rfl rfl),Nat.lt_succ_self _⟩
  ·refine exit ?_
   refine srg hS [4] di ?_
   cases h;exact ret fin
theorem g_F62{w28:Y10}{w62:Y9}(c:AllG env [(S62 w62),(S28 w28)]):GoodH env (S62 (F62 w28 w62)):=by
 obtain⟨O,X,hS,hX,hpf,hk⟩:=orp c
 refine gh fn_62 51 ?_
 rintro⟨l1,left2⟩ (r:Int) h m em
 refine ghs em ?_;clear em m
 replace h:F62 w28 w62 l1 left2=some r:=h
 rw[F62]at h
 refine srg hS [0,1] di ?_
 refine seq ?_
 refine srg hS [0,1,7,8] di ?_
 refine block ?_
 refine lp (α:=Nat×Int×Int) (fun(_,left4,i5)=>⟨sl [(0,vWo l1),(1,ai left4),(7,ai (l1.length:Int)),(8,ai i5)],51,[]⟩) (fun x=>iter (F62_b1 l1 w62 w28) x.1 x.2=some r) (fun x=>x.1) (BIG,(left2,0)) (Weak.slots kp) h ?_
 clear h
 intro⟨n24,left4,i5⟩ h
 replace h:=iter_some h;obtain⟨m8,rfl,h⟩:=h
 rw[F62_b1]at h
 try dsimp only at h
 refine AW.st ?_
 refine srg hS [0,1,7,8,9] di ?_
 refine seq ?_
 refine ifs h (fun hb9 h=>?_) fun hb9 h=>?_
 ·refine skip ?_
  refine seq ?_
  refine block ?_
  refine srg hS [0,1,5,7,8] di ?_
  refine srg hS [0,1,5,7,8] di ?_
  refine seq ?_
  refine seq ?_
  obtain⟨u10,q11,h⟩:=obs h
  have f12:=lidx_g (guardO_t q11)
  refine reg hS [(0,vWo l1),(1,ai (IntKind.wrap .i64 (left4-1))),(5,ai i5),(7,ai (l1.length:Int)),(8,ai i5),(32,ab ((decide (IntKind.wrap .i64 (left4-1)<0)||decide (2000<(u10.text_.length:Int)))||decide (2000<(u10.quoted_.length:Int))))] [] ?_ ?_
  ·clear h hk hS hX c
   exact dh1 (an f12.1 f12.2.1)
  refine ifk h (fun hb13 h=>?_) fun hb13 h=>?_
  ·refine srg hS [4] di ?_
   cases h;exact ret fin
  ·refine seq ?_
   obtain⟨u14,q15,h⟩:=obs h
   have f16:=lidx_f q15
   obtain⟨r17,q18,h⟩:=obs h
   have f19:=(hk 0 62 rfl).ret (u14.words_,IntKind.wrap .i64 (left4-1)) q18 rfl rfl
   refine rg hS [0,1,5,7,8] (di1 (an f16.1 (an f16.2.1 (ap1 62 hpf f19)))) ?_
   refine seq ?_
   obtain⟨r20,q21,h⟩:=obs h
   have f22:=(hk 1 28 rfl).ret (u14.cmd_,r17) q21 rfl rfl
   refine rg hS [0,1,7,8] (di1 (an f16.1 (an f16.2.1 (ap1 28 hpf f22)))) ?_
   refine srg hS [0,1,7,8,48] di ?_
   refine ifk h (fun hb23 h=>?_) fun hb23 h=>?_
   ·refine srg hS [4] di ?_
    cases h;exact ret fin
   ·refine rg hS [0,1,7,8] di ?_
    exact⟨(m8,(r20,IntKind.wrap .i64 (i5+1))),h,(Weak.norm (m:=0) (Nat.le_of_ble_eq_true rfl) kp hq rfl rfl),Nat.lt_succ_self _⟩
 ·refine exit ?_
  refine srg hS [4] di ?_
  cases h;exact ret fin
theorem g_F12(c:AllG env [(S28 (K28 BIG))]):GoodH env (S12 F12):=by
 obtain⟨O,X,hS,hX,hpf,hk⟩:=orp c
 refine gh fn_12 6 ?_
 rintro(l1:(List Cmd)) (r:Bool) h m em
 refine ghs em ?_;clear em m
 replace h:F12 l1=some r:=h
 rw[F12]at h
 refine srg hS [0] di ?_
 refine seq ?_
 obtain⟨r3,q4,h⟩:=obs h
 have f5:=hk 0 28 rfl
 replace f5:=f5.ret (l1,2000) q4 rfl rfl
 refine rg hS [2] (di1 (ap1 28 hpf f5)) ?_
 cases h;exact ret fin
theorem g_F74(c:AllG env []):GoodH env (S74 F74):=by
 obtain⟨O,X,hS,hX,hpf,hk⟩:=orp c
 refine gh fn_74 18 ?_
 rintro⟨s1,prefix2⟩ (r:Bool) h m em
 refine ghs em ?_;clear em m
 replace h:F74 s1 prefix2=some r:=h
 rw[F74]at h
 refine srg hS [0,1] di ?_
 refine seq ?_
 obtain⟨t4,q5,h⟩:=obs h
 have f6:=sslice_g (guardO_t q5)
 try simp only[NRM,Int.reduceToNat]at f6
 have f6e:=f6.2.2.2.2
 try simp only[NRM,Int.reduceToNat]at f6e
 have f6l:=f6.2.2.1
 try simp only[NRM,Int.reduceToNat]at f6l
 refine reg hS [(4,ab (decide ((prefix2.length:Int)≤(s1.length:Int))&&decide (t4=prefix2)))] [] ?_ ?_
 ·clear h hk hS hX c
  exact dh1 (an f6.1 (an f6.2.1 (an f6l (an f6.2.2.2.1 f6e))))
 cases h;exact ret fin
theorem g_F42(c:AllG env [(S74 F74)]):GoodH env (S42 F42):=by
 obtain⟨O,X,hS,hX,hpf,hk⟩:=orp c
 refine gh fn_42 8 ?_
 rintro⟨s1,prefix2⟩ (r:Bool) h m em
 refine ghs em ?_;clear em m
 replace h:F42 s1 prefix2=some r:=h
 rw[F42]at h
 refine srg hS [0,1] di ?_
 refine seq ?_
 obtain⟨r4,q5,h⟩:=obs h
 have f6:=(hk 0 74 rfl).ret (s1,prefix2) q5 rfl rfl
 refine rg hS [4] (di1 (ap1 74 hpf f6)) ?_
 cases h;exact ret fin
theorem g_F117(c:AllG env [SL_Cut]):GoodH env (S117 F117):=by
 obtain⟨O,X,hS,hX,hpf,hk⟩:=orp c
 refine gh fn_117 40 ?_
 rintro⟨s1,at2⟩ (r:(List Str)×(List Int)) h m em
 refine ghs em ?_;clear em m
 replace h:F117 s1 at2=some r:=h
 rw[F117]at h
 refine srg hS [0,1] di ?_
 refine seq ?_
 refine reg hS [(0,as_ s1),(1,ai at2),(6,.nils)] [] dk ?_
 refine weak (Weak.own 6 9 1 (by decide) rfl) ?_
 refine weak (Weak.slots (L:=[(0,as_ s1),(1,ai at2),(6,.vec 0 (List.length ([]:List Str)))]) ⟨rfl,rfl,rfl,trivial⟩) ?_
 refine seq ?_
 refine reg hS [(0,as_ s1),(1,ai at2),(6,.vec 0 (List.length ([]:List Str))),(7,.nils)] [.row 9 1 (List.map PV.str ([]:List Str)) true] dk ?_
 refine weak (Weak.own 7 3 1 (by decide) rfl) ?_
 refine weak (Weak.slots (L:=[(0,as_ s1),(1,ai at2),(6,.vec 0 (List.length ([]:List Str))),(7,.vec 1 (List.length ([]:List Int)))]) ⟨rfl,rfl,rfl,rfl,trivial⟩) ?_
 refine seq ?_
 refine block ?_
 refine lp (α:=Nat×Int×(List Str)×(List Int)) (fun(_,at5,l6,l7)=>⟨sl [(0,as_ s1),(1,ai at5),(6,.vec 0 (List.length l6)),(7,.vec 1 (List.length l7))],40,[rSt l6,.row 3 1 (List.map (PV.int .i64) l7) true]⟩) (fun x=>iter (F117_b1 s1) x.1 x.2=some r) (fun x=>x.1) (BIG,(at2,([]:List Str),([]:List Int))) (Weak.slots kp) h ?_
 clear h
 intro⟨n27,at5,l6,l7⟩ h
 replace h:=iter_some h;obtain⟨m10,rfl,h⟩:=h
 rw[F117_b1]at h
 try dsimp only at h
 refine AW.st ?_
 refine seq ?_
 refine srg hS [0,1,6,7,14] di ?_
 refine ifs h (fun hb11 h=>?_) fun hb11 h=>?_
 ·refine skip ?_
  refine block ?_
  refine seq ?_
  obtain⟨t12,q13,h⟩:=obs h
  have f14:=sslice_f q13
  try simp only[NRM,Int.reduceToNat]at f14
  have f14e:=f14.2.2.2.2
  try simp only[NRM,Int.reduceToNat]at f14e
  have f14l:=f14.2.2.1
  try simp only[NRM,Int.reduceToNat]at f14l
  obtain⟨⟨a15,b16,ok17⟩,q18,h⟩:=obs h
  dsimp only at h
  have f19:=(hk 0 161 rfl).ret (t12,([10]:Str)) q18 rfl rfl
  try simp only[PVE]at f19
  refine rg hS [0,1,6,7,8,10] (di1 (an f14.1 (an f14.2.1 (an f14l (an f14.2.2.2.1 (an f14e (ap1 161 hpf f19))))))) ?_
  refine srg hS [0,1,6,7,8,10] di ?_
  refine seqM ⟨sl [(0,as_ s1),(1,ai (bif ok17 then IntKind.wrap .i64 ((IntKind.wrap .i64 (at5+(a15.length:Int)))+1)else IntKind.wrap .i64 (at5+(a15.length:Int)))),(6,.vec 0 (List.length l6)),(7,.vec 1 (List.length l7)),(8,as_ a15)],40,[rSt l6,.row 3 1 (List.map (PV.int .i64) l7) true]⟩ ?_ ?_
  ·refine srg hS [0,1,6,7,8,27] di ?_
   refine cond (b:=ok17) rfl (fun hb20=>?_) (fun hb20=>?_)
   ·refine rg hS [0,1,6,7,8] di ?_
    exact Weak.of_eq (Weak.slots (L:=[(0,as_ s1),(1,ai (IntKind.wrap .i64 ((IntKind.wrap .i64 (at5+(a15.length:Int)))+1))),(6,.vec 0 (List.length l6)),(7,.vec 1 (List.length l7)),(8,as_ a15)]) kp) (wq hb20)
   ·refine skip ?_
    exact Weak.of_eq (Weak.slots (L:=[(0,as_ s1),(1,ai (IntKind.wrap .i64 (at5+(a15.length:Int)))),(6,.vec 0 (List.length l6)),(7,.vec 1 (List.length l7)),(8,as_ a15)]) kp) (wq hb20)
  obtain⟨out21,q22,h⟩:=obs h
  have f23:=appO_f q22
  try simp only[LNS,List.length_replicate,Nat.reduceAdd,Nat.reduceLeDiff,Nat.add_zero,Nat.reduceMul]at f23
  have f23m:=appO_m PV.str q22
  try simp only[PVE,List.nil_append]at f23m
  have f23n:=appO_n q22
  try simp only[LNS]at f23n
  obtain⟨out24,q25,h⟩:=obs h
  have f26:=appO_f q25
  try simp only[LNS,List.length_replicate,Nat.reduceAdd,Nat.reduceLeDiff,Nat.add_zero,Nat.reduceMul]at f26
  have f26m:=appO_m (PV.int .i64) q25
  try simp only[PVE,List.nil_append]at f26m
  have f26n:=appO_n q25
  try simp only[LNS]at f26n
  refine reg hS [(0,as_ s1),(1,ai (bif ok17 then IntKind.wrap .i64 ((IntKind.wrap .i64 (at5+(a15.length:Int)))+1)else IntKind.wrap .i64 (at5+(a15.length:Int)))),(6,.vec 0 (List.length out21)),(7,.vec 1 (List.length out24))] [rSt out21,.row 3 1 (List.map (PV.int .i64) out24) true] (dk1 (an f23.1 (an f23m (an f23n (an f26.1 (an f26m f26n)))))) ?_
  clear f23
  clear f23m
  clear f23n
  clear f26
  clear f26m
  clear f26n
  exact⟨(m10,((bif ok17 then IntKind.wrap .i64 ((IntKind.wrap .i64 (at5+(a15.length:Int)))+1)else IntKind.wrap .i64 (at5+(a15.length:Int))),out21,out24)),h,(Weak.norm (m:=2) (Nat.le_of_ble_eq_true rfl) kp hq rfl rfl),Nat.lt_succ_self _⟩
 ·refine exit ?_
  refine srg hS [4,5] di ?_
  cases h;exact ret fin
theorem g_F118(c:AllG env []):GoodH env (S118 F118):=by
 obtain⟨O,X,hS,hX,hpf,hk⟩:=orp c
 refine gh fn_118 19 ?_
 rintro⟨s1,v2⟩ (r:Int) h m em
 refine ghs em ?_;clear em m
 replace h:F118 s1 v2=some r:=h
 rw[F118]at h
 refine srg hS [0,1] di ?_
 refine seq ?_
 refine srg hS [0,1,7,8] di ?_
 refine block ?_
 refine lp (α:=Nat×Int) (fun(_,i4)=>⟨sl [(0,vS s1),(1,as_ v2),(7,ai (s1.length:Int)),(8,ai i4)],19,[]⟩) (fun x=>iter (F118_b1 s1 v2) x.1 x.2=some r) (fun x=>x.1) (BIG,0) (Weak.slots kp) h ?_
 clear h
 intro⟨n13,i4⟩ h
 replace h:=iter_some h;obtain⟨m7,rfl,h⟩:=h
 rw[F118_b1]at h
 try dsimp only at h
 refine AW.st ?_
 refine srg hS [0,1,7,8,9] di ?_
 refine seq ?_
 refine ifs h (fun hb8 h=>?_) fun hb8 h=>?_
 ·refine skip ?_
  refine seq ?_
  refine block ?_
  refine srg hS [0,1,5,7,8] di ?_
  refine seq ?_
  obtain⟨w9,q10,h⟩:=obs h
  have f11:=lidx_f q10
  refine rg hS [0,1,5,7,8,16] (di1 (an f11.1 f11.2.1)) ?_
  refine ifk h (fun hb12 h=>?_) fun hb12 h=>?_
  ·refine srg hS [4] di ?_
   cases h;exact ret fin
  ·refine rg hS [0,1,7,8] di ?_
   exact⟨(m7,IntKind.wrap .i64 (i4+1)),h,(Weak.norm (m:=0) (Nat.le_of_ble_eq_true rfl) kp hq rfl rfl),Nat.lt_succ_self _⟩
 ·refine exit ?_
  refine srg hS [4] di ?_
  cases h;exact ret fin
theorem g_F72(c:AllG env [(S117 F117),(S118 F118),SL_Join]):GoodH env (S72 F72):=by
 obtain⟨O,X,hS,hX,hpf,hk⟩:=orp c
 have pf_119:O.pf 119=true:=pft hpf 119 rfl
 refine gh fn_72 44 ?_
 rintro⟨s1,at2,end3⟩ (r:Str×Int×Int) h m em
 refine ghs em ?_;clear em m
 replace h:F72 s1 at2 end3=some r:=h
 rw[F72]at h
 refine srg hS [0,1,2] di ?_
 refine seq ?_
 refine seq ?_
 refine reg hS [(0,as_ s1),(1,ai at2),(2,as_ end3),(20,ab (decide (at2<0)||decide ((s1.length:Int)<at2)))] [] ?_ ?_
 ·clear h hk hS hX c
  exact dh
 refine ifk h (fun hb7 h=>?_) fun hb7 h=>?_
 ·refine srg hS [6,7,8] di ?_
  cases h;exact ret fin
 ·refine seq ?_
  obtain⟨⟨r8,r9⟩,q10,h⟩:=obs h
  dsimp only at h
  have f11:=(hk 0 117 rfl).ret (s1,at2) q10 rfl rfl
  refine rg hS [2,9,10] (di1 (ap1 117 hpf f11)) ?_
  refine seq ?_
  obtain⟨r12,q13,h⟩:=obs h
  have f14:=(hk 1 118 rfl).ret (r8,end3) q13 rfl rfl
  refine rg hS [9,10,11] (di1 (ap1 118 hpf f14)) ?_
  refine seq ?_
  refine srg hS [9,10,11,31] di ?_
  refine ifk h (fun hb15 h=>?_) fun hb15 h=>?_
  ·refine srg hS [6,7,8] di ?_
   cases h;exact ret fin
  ·refine srg hS [9,10,11,12] di ?_
   refine seq ?_
   refine srg hS [9,10,11,12,33] di ?_
   refine ifk h (fun hb16 h=>?_) fun hb16 h=>?_
   ·obtain⟨l17,q18,h⟩:=obs h
    have f19:=lslicek_f q18
    try simp only[NRM,Int.reduceToNat]at f19
    have f19l:=f19.2.2.1
    have f19m:=lslice_m PV.str q18
    try simp only[NRM,Int.reduceToNat]at f19l f19m
    obtain⟨s20,q21,h⟩:=obs h
    have f22:=(hk 2 119 rfl).ret (l17,([10]:Str)) q21 rfl rfl
    try simp only[PVE]at f22
    obtain⟨s23,q24,h⟩:=obs h
    have f25:=catO_f q24
    try simp only[LNS,List.length_replicate,Nat.reduceAdd,Nat.reduceLeDiff,Nat.add_zero,Nat.reduceMul]at f25
    refine rg hS [10,11,12] (di1 (an f19.1 (an f19.2.1 (an f19l (an f19.2.2.2 (an f19m (an pf_119 (an f22 (an f25.1 f25.2))))))))) ?_
    clear f19 f19l f19m
    refine seq ?_
    obtain⟨n26,q27,h⟩:=obs h
    have f28:=lidx_f q27
    apply dgk mixed hS [6,7,8] (ordp hpf (by kernel_rfl))
    ·exact di1 (an f28.1 f28.2.1)
    cases h;exact ret fin
   ·refine seq ?_
    obtain⟨n29,q30,h⟩:=obs h
    have f31:=lidx_f q30
    apply dgk mixed hS [6,7,8] (ordp hpf (by kernel_rfl))
    ·exact di1 (an f31.1 f31.2.1)
    cases h;exact ret fin
theorem g_F73x2(c:AllG env []):GoodH env (S73x2 F73x2):=by
 obtain⟨O,X,hS,hX,hpf,hk⟩:=orp c
 refine gh fn_73 15 ?_
 rintro⟨off1,e2,x3,x4,x5,x6,x7,l8,l9⟩ (r:Bool×Int×Int) h m em
 refine ghs em ?_;clear em m
 replace h:F73x2 off1 e2 x3 x4 x5 x6 x7 l8 l9=some r:=h
 rw[F73x2]at h
 refine srg hS [0,1,2] di ?_
 refine srg hS [] di ?_
 refine srg hS [6] di ?_
 cases h;exact ret fin
theorem g_F71x2(c:AllG env [(S73x2 F73x2)]):GoodH env (S71x2 F71x2):=by
 obtain⟨O,X,hS,hX,hpf,hk⟩:=orp c
 refine gh fn_71 25 ?_
 rintro⟨t1,x2,x3,x4,x5,x6,l7,l8⟩ (r:Bool×Int×Int×(List Token)) h m em
 refine ghs em ?_;clear em m
 replace h:F71x2 t1 x2 x3 x4 x5 x6 l7 l8=some r:=h
 rw[F71x2]at h
 refine srg hS [0,3] di ?_
 refine seq ?_
 refine srg hS [0,3,10] di ?_
 refine ifk h (fun hb13 h=>?_) fun hb13 h=>?_
 ·refine seq ?_
  obtain⟨⟨r14,x15,x16⟩,q17,h⟩:=obs h
  dsimp only at h
  have f18:=(hk 0 73 rfl).ret (t1.at_,4,x2,x3,x4,x5,x6,l7,l8) q17 rfl rfl
  have e19:ecall O [V0 x2 x3 l7.length l8.length x4 x5 x6,rTo l7,rSt l8,V1 t1] 73 [.ref 0 0,ai t1.at_,ai 4]=some (retAV [ab r14],[V0 x2 x3 l7.length l8.length x4 x15 x16,rTo l7,rSt l8,V1 t1]):=ecall_eq rfl rfl rfl f18 rfl rfl rfl
  refine rg hS [4] (di1 (ap0 73 hpf e19)) ?_
  cases h;exact ret fin
 ·refine seq ?_
  obtain⟨out20,q21,h⟩:=obs h
  have f22:=appO_f q21
  try simp only[LNS,List.length_replicate,Nat.reduceAdd,Nat.reduceLeDiff,Nat.add_zero,Nat.reduceMul]at f22
  have f22m:=appO_m Token.pv q21
  try simp only[PVE,List.nil_append]at f22m
  have f22n:=appO_n q21
  try simp only[LNS]at f22n
  refine AW.dregB mixed hS [(3,some 3)] rfl (ordB hpf (B:=[(3,some 3)]) (by kernel_rfl)) [] [V0 x2 x3 out20.length l8.length x4 x5 x6,rTo out20,rSt l8,V1 t1] ?_ ?_
  ·exact dk1 (an f22.1 (an f22m f22n))
  clear f22
  clear f22m
  clear f22n
  refine srg hS [4] di ?_
  cases h;exact ret fin
theorem g_F39x2(c:AllG env []):GoodH env (S39x2 F39x2):=by
 obtain⟨O,X,hS,hX,hpf,hk⟩:=orp c
 refine gh fn_39 12 ?_
 rintro⟨x1,x2,x3,x4,x5,l6,l7⟩ (r:Str) h m em
 refine ghs em ?_;clear em m
 replace h:F39x2 x1 x2 x3 x4 x5 l6 l7=some r:=h
 rw[F39x2]at h
 refine srg hS [0] di ?_
 refine seq ?_
 obtain⟨t9,q10,h⟩:=obs h
 have f11:=sslice_f q10
 try simp only[NRM,Int.reduceToNat]at f11
 have f11e:=f11.2.2.2.2
 try simp only[NRM,Int.reduceToNat]at f11e
 have f11l:=f11.2.2.1
 try simp only[NRM,Int.reduceToNat]at f11l
 apply dgk mixed hS [2] (ordp hpf (by kernel_rfl))
 ·exact di1 (an f11.1 (an f11.2.1 (an f11l (an f11.2.2.2.1 f11e))))
 cases h;exact ret fin
theorem g_F38x2(c:AllG env [(S39x2 F39x2),(S42 F42)]):GoodH env (S38x2 F38x2):=by
 obtain⟨O,X,hS,hX,hpf,hk⟩:=orp c
 have pf_42:O.pf 42=true:=pft hpf 42 rfl
 refine gh fn_38 29 ?_
 rintro⟨x1,x2,x3,x4,x5,l6,l7⟩ (r:Int) h m em
 refine ghs em ?_;clear em m
 replace h:F38x2 x1 x2 x3 x4 x5 l6 l7=some r:=h
 rw[F38x2]at h
 refine block ?_
 refine lp (α:=Nat×Int) (fun(_,x9)=>⟨sl [(0,.ref 0 0)],29,[V0 x1 x9 l6.length l7.length x3 x4 x5,rTo l6,rSt l7]⟩) (fun x=>iter (F38x2_b1 x1 x3 x4 x5 l6 l7) x.1 x.2=some r) (fun x=>x.1) (BIG,x2) (Weak.slots kp) h ?_
 clear h
 intro⟨n28,x9⟩ h
 replace h:=iter_some h;obtain⟨m12,rfl,h⟩:=h
 rw[F38x2_b1]at h
 try dsimp only at h
 refine AW.st ?_
 refine block ?_
 refine seq ?_
 obtain⟨r13,q14,h⟩:=obs h
 have f15:=(hk 0 39 rfl).ret (x1,x9,x3,x4,x5,l6,l7) q14 rfl rfl
 have e16:ecall O [V0 x1 x9 l6.length l7.length x3 x4 x5,rTo l6,rSt l7] 39 [.ref 0 0]=some (retAV [as_ r13],[V0 x1 x9 l6.length l7.length x3 x4 x5,rTo l6,rSt l7]):=ecall_eq rfl rfl rfl f15 rfl rfl rfl
 refine rg hS [0,2] (di1 (ap0 39 hpf e16)) ?_
 refine block ?_
 refine seq ?_
 obtain⟨r17,q18,h⟩:=obs h
 have f19:=(hk 1 42 rfl).ret (r13,([32]:Str)) q18 rfl rfl
 try simp only[PVE]at f19
 obtain⟨r20,q21,h⟩:=obs h
 replace q21:=guardO_t q21
 have f22:=fun hg=>(hk 1 42 rfl).ret (r13,([9]:Str)) (q21 hg) rfl rfl
 try simp only[PVE]at f22
 refine reg hS [(0,.ref 0 0),(2,as_ r13),(5,ab (r17||r20))] [V0 x1 x9 l6.length l7.length x3 x4 x5,rTo l6,rSt l7] ?_ ?_
 ·clear h hk hS hX c
  exact dh1 (an pf_42 (an f19 f22))
 refine ifs h (fun hb23 h=>?_) fun hb23 h=>?_
 ·refine rg hS [0] di ?_
  exact⟨(m12,IntKind.wrap .i64 (x9+1)),h,(Weak.norm (m:=3) (Nat.le_of_ble_eq_true rfl) kp hq rfl rfl),Nat.lt_succ_self _⟩
 ·refine seq ?_
  obtain⟨r24,q25,h⟩:=obs h
  have f26:=(hk 1 42 rfl).ret (r13,([92,10]:Str)) q25 rfl rfl
  try simp only[PVE]at f26
  refine rg hS [0,19] (di1 (ap1 42 hpf f26)) ?_
  refine ifs h (fun hb27 h=>?_) fun hb27 h=>?_
  ·refine rg hS [0] di ?_
   exact⟨(m12,IntKind.wrap .i64 (x9+2)),h,(Weak.norm (m:=3) (Nat.le_of_ble_eq_true rfl) kp hq rfl rfl),Nat.lt_succ_self _⟩
  ·cases h;exact ret fin
theorem g_F41x2(c:AllG env [(S71x2 F71x2),(S72 F72),(S73x2 F73x2)]):GoodH env (S41x2 F41x2):=by
 obtain⟨O,X,hS,hX,hpf,hk⟩:=orp c
 refine gh fn_41 63 ?_
 rintro⟨x1,x2,x3,x4,x5,l6,l7⟩ (r:Bool×Bool×Int×Int×Int×(List Token)) h m em
 refine ghs em ?_;clear em m
 replace h:F41x2 x1 x2 x3 x4 x5 l6 l7=some r:=h
 rw[F41x2]at h
 refine srg hS [0] di ?_
 refine seq ?_
 refine seq ?_
 obtain⟨⟨r14,x15,x16,o17⟩,q18,h⟩:=obs h
 dsimp only at h
 have f19:=(hk 0 71 rfl).ret (Token.mk 3 x2 [10] [],x1,x2,x3,x4,x5,l6,l7) q18 rfl rfl
 try simp only[PVE]at f19
 have e20:ecall O [V0 x1 x2 l6.length l7.length x3 x4 x5,rTo l6,rSt l7] 71 [.ref 0 0,.pv (PV.agg [.int .i64 3,.int .i64 x2,.str [10],.str []])]=some (retAV [ab r14],[V0 x1 x2 o17.length l7.length x3 x15 x16,rTo o17,rSt l7]):=ecall_eq rfl rfl rfl f19 rfl rfl rfl
 refine rg hS [0,15] (di1 (ap0 71 hpf e20)) ?_
 refine ifk h (fun hb21 h=>?_) fun hb21 h=>?_
 ·refine srg hS [2] di ?_
  cases h;exact ret fin
 ·refine srg hS [0] di ?_
  refine seq ?_
  refine srg hS [0,26,27,28] di ?_
  refine block ?_
  refine lp (α:=Nat×Int×Int) (fun(_,i22,x23)=>⟨sl [(0,.ref 0 0),(26,.vec 2 (List.length l7)),(27,ai (l7.length:Int)),(28,ai i22)],63,[V0 x1 x23 o17.length l7.length x3 x15 x16,rTo o17,rSt l7]⟩) (fun x=>iter (F41x2_b1 l7 x1 x3 x15 x16 o17) x.1 x.2=some r) (fun x=>x.1) (BIG,(0,IntKind.wrap .i64 (x2+1))) (Weak.slots kp) h ?_
  clear h
  intro⟨n43,i22,x23⟩ h
  replace h:=iter_some h;obtain⟨m26,rfl,h⟩:=h
  rw[F41x2_b1]at h
  try dsimp only at h
  refine AW.st ?_
  refine srg hS [0,26,27,28,29] di ?_
  refine seq ?_
  refine ifs h (fun hb27 h=>?_) fun hb27 h=>?_
  ·refine skip ?_
   refine seq ?_
   refine block ?_
   refine seq ?_
   obtain⟨w28,q29,h⟩:=obs h
   have f30:=lidx_f q29
   refine rg hS [0,4,26,27,28] (di1 (an f30.1 (an f30.2.1 f30.2.2))) ?_
   refine seq ?_
   obtain⟨⟨r31,r32,r33⟩,q34,h⟩:=obs h
   dsimp only at h
   have f35:=(hk 1 72 rfl).ret (x1,x23,w28) q34 rfl rfl
   apply dgk mixed hS [0,6,7,26,27,28] (ordp hpf (by kernel_rfl))
   ·exact di1 (ap1 72 hpf f35)
   refine seq ?_
   refine srg hS [0,6,7,26,27,28,47] di ?_
   refine ifk h (fun hb36 h=>?_) fun hb36 h=>?_
   ·refine seq ?_
    obtain⟨⟨r37,x38,x39⟩,q40,h⟩:=obs h
    dsimp only at h
    have f41:=(hk 2 73 rfl).ret (x23,r33,x1,x23,x3,x15,x16,o17,l7) q40 rfl rfl
    have e42:ecall O [V0 x1 x23 o17.length l7.length x3 x15 x16,rTo o17,rSt l7] 73 [.ref 0 0,ai x23,ai r33]=some (retAV [ab r37],[V0 x1 x23 o17.length l7.length x3 x38 x39,rTo o17,rSt l7]):=ecall_eq rfl rfl rfl f41 rfl rfl rfl
    refine rg hS [2] (di1 (ap0 73 hpf e42)) ?_
    cases h;exact ret fin
   ·refine rg hS [0,26,27,28] di ?_
    refine rg hS [0,26,27,28] di ?_
    exact⟨(m26,(IntKind.wrap .i64 (i22+1),r32)),h,(Weak.norm (m:=3) (Nat.le_of_ble_eq_true rfl) kp hq rfl rfl),Nat.lt_succ_self _⟩
  ·refine exit ?_
   refine srg hS [] di ?_
   refine srg hS [2] di ?_
   cases h;exact ret fin
theorem g_F120x1(c:AllG env [(S39x2 F39x2),SL_IndexByte,(S42 F42)]):GoodH env (S120x1 F120x1):=by
 obtain⟨O,X,hS,hX,hpf,hk⟩:=orp c
 have pf_40:O.pf 40=true:=pft hpf 40 rfl
 refine gh fn_120 19 ?_
 rintro⟨x1,x2,x3,x4,x5,l6,l7⟩ (r:Bool) h m em
 refine ghs em ?_;clear em m
 replace h:F120x1 x1 x2 x3 x4 x5 l6 l7=some r:=h
 rw[F120x1]at h
 refine srg hS [0] di ?_
 refine seq ?_
 obtain⟨r9,q10,h⟩:=obs h
 have f11:=(hk 0 39 rfl).ret (x1,x2,x3,x4,x5,l6,l7) q10 rfl rfl
 have e12:ecall O [V0 x1 x2 l6.length l7.length x3 x4 x5,rTo l6,rSt l7] 39 [.ref 0 0]=some (retAV [as_ r9],[V0 x1 x2 l6.length l7.length x3 x4 x5,rTo l6,rSt l7]):=ecall_eq rfl rfl rfl f11 rfl rfl rfl
 refine rg hS [3] (di1 (ap0 39 hpf e12)) ?_
 refine seq ?_
 obtain⟨c13,q14,h⟩:=obs h
 have f15:=sidx_g (guardO_t q14)
 try simp only[NRM,Int.reduceToNat]at f15
 obtain⟨n16,q17,h⟩:=obs h
 replace q17:=guardO_t q17
 have f18:=fun hg=>(hk 1 40 rfl).ret (([32,9,10,59,38,124,40,41,123,125,60,62,61,94,96,36,39]:Str),c13) (q17 hg) rfl rfl
 try simp only[PVE]at f18
 obtain⟨r19,q20,h⟩:=obs h
 replace q20:=guardO_t q20
 have f21:=fun hg=>(hk 2 42 rfl).ret (r9,([92,10]:Str)) (q20 hg) rfl rfl
 try simp only[PVE]at f21
 refine reg hS [(2,ab ((!decide (r9=[])&&decide (n16<0))&&!r19))] [V0 x1 x2 l6.length l7.length x3 x4 x5,rTo l6,rSt l7] ?_ ?_
 ·clear h hk hS hX c
  exact dh1 (an f15.1 (an f15.2.1 (an f15.2.2 (an pf_40 (an f18 (ap1 42 hpf f21))))))
 cases h;exact ret fin
theorem g_F122x1(c:AllG env [(S39x2 F39x2),SL_IndexByte,(S73x2 F73x2),SL_WriteString,(S42 F42),SL_String,SL_WriteByte]):GoodH env (S122x1 F122x1):=by
 obtain⟨O,X,hS,hX,hpf,hk⟩:=orp c
 have pf_39:O.pf 39=false:=pft hpf 39 rfl
 refine gh fn_122 64 ?_
 rintro⟨x1,x2,x3,x4,x5,l6,l7⟩ (r:Str×Bool×Int×Int×Int) h m em
 refine ghs em ?_;clear em m
 replace h:F122x1 x1 x2 x3 x4 x5 l6 l7=some r:=h
 rw[F122x1]at h
 refine srg hS [0] di ?_
 refine srg hS [0,4] di ?_
 refine srg hS [0,4] di ?_
 refine srg hS [0,4,5] di ?_
 refine block ?_
 refine lp (α:=Nat×Int×Str) (fun(_,x13,b14)=>⟨sl [(0,.ref 0 0),(4,ai x2),(5,.ref 3 0)],64,[V0 x1 x13 l6.length l7.length x3 x4 x5,rTo l6,rSt l7,.bld b14]⟩) (fun x=>iter (F122x1_b1 x1 x3 x4 x5 l6 l7 x2) x.1 x.2=some r) (fun x=>x.1) (BIG,(IntKind.wrap .i64 (x2+1),[])) (Weak.slots kp) h ?_
 clear h
 intro⟨n56,x13,b14⟩ h
 replace h:=iter_some h;obtain⟨m17,rfl,h⟩:=h
 rw[F122x1_b1]at h
 try dsimp only at h
 refine AW.st ?_
 refine block ?_
 refine seq ?_
 obtain⟨r18,q19,h⟩:=obs h
 have f20:=(hk 0 39 rfl).ret (x1,x13,x3,x4,x5,l6,l7) q19 rfl rfl
 have e21:ecall O [V0 x1 x13 l6.length l7.length x3 x4 x5,rTo l6,rSt l7,.bld b14] 39 [.ref 0 0]=some (retAV [as_ r18],[V0 x1 x13 l6.length l7.length x3 x4 x5,rTo l6,rSt l7,.bld b14]):=ecall_eq rfl rfl rfl f20 rfl rfl rfl
 obtain⟨n22,q23,h⟩:=obs h
 have f24:=(hk 1 40 rfl).ret (r18,39) q23 rfl rfl
 refine rg hS [0,4,5,6] (di1 (an pf_39 (an e21 (ap1 40 hpf f24)))) ?_
 refine seq ?_
 refine srg hS [0,4,5,6,22] di ?_
 refine ifk h (fun hb25 h=>?_) fun hb25 h=>?_
 ·refine seq ?_
  obtain⟨⟨r26,x27,x28⟩,q29,h⟩:=obs h
  dsimp only at h
  have f30:=(hk 2 73 rfl).ret (x2,48,x1,x13,x3,x4,x5,l6,l7) q29 rfl rfl
  have e31:ecall O [V0 x1 x13 l6.length l7.length x3 x4 x5,rTo l6,rSt l7,.bld b14] 73 [.ref 0 0,ai x2,ai 48]=some (retAV [ab r26],[V0 x1 x13 l6.length l7.length x3 x27 x28,rTo l6,rSt l7,.bld b14]):=ecall_eq rfl rfl rfl f30 rfl rfl rfl
  refine rg hS [2,3] (di1 (ap0 73 hpf e31)) ?_
  cases h;exact ret fin
 ·refine seq ?_
  obtain⟨t32,q33,h⟩:=obs h
  have f34:=sslice_f q33
  try simp only[NRM,Int.reduceToNat]at f34
  have f34e:=f34.2.2.2.2
  try simp only[NRM,Int.reduceToNat]at f34e
  have f34l:=f34.2.2.1
  try simp only[NRM,Int.reduceToNat]at f34l
  obtain⟨⟨n35,c36⟩,q37,h⟩:=obs h
  dsimp only at h
  have f38:=(hk 3 123 rfl).ret (b14,t32) q37 rfl rfl
  have e39:ecall O [V0 x1 x13 l6.length l7.length x3 x4 x5,rTo l6,rSt l7,.bld b14] 123 [.ref 3 0,as_ t32]=some (retAV [ai n35,.pv (.nil)],[V0 x1 x13 l6.length l7.length x3 x4 x5,rTo l6,rSt l7,.bld c36]):=ecall_eq rfl rfl rfl f38 rfl rfl rfl
  apply dgk mixed hS [0,4,5,6] (ordp hpf (by kernel_rfl))
  ·exact di1 (an f34.1 (an f34.2.1 (an f34l (an f34.2.2.2.1 (an f34e (ap0 123 hpf e39))))))
  refine srg hS [0,4,5] di ?_
  refine seq ?_
  refine seq ?_
  obtain⟨r40,q41,h⟩:=obs h
  have f42:=(hk 0 39 rfl).ret (x1,IntKind.wrap .i64 (x13+(IntKind.wrap .i64 (n22+1))),x3,x4,x5,l6,l7) q41 rfl rfl
  have e43:ecall O [V0 x1 (IntKind.wrap .i64 (x13+(IntKind.wrap .i64 (n22+1)))) l6.length l7.length x3 x4 x5,rTo l6,rSt l7,.bld c36] 39 [.ref 0 0]=some (retAV [as_ r40],[V0 x1 (IntKind.wrap .i64 (x13+(IntKind.wrap .i64 (n22+1)))) l6.length l7.length x3 x4 x5,rTo l6,rSt l7,.bld c36]):=ecall_eq rfl rfl rfl f42 rfl rfl rfl
  obtain⟨r44,q45,h⟩:=obs h
  have f46:=(hk 4 42 rfl).ret (r40,([39]:Str)) q45 rfl rfl
  try simp only[PVE]at f46
  refine rg hS [0,4,5,54] (di1 (an pf_39 (an e43 (ap1 42 hpf f46)))) ?_
  refine ifk h (fun hb47 h=>?_) fun hb47 h=>?_
  ·refine seq ?_
   obtain⟨s48,q49,h⟩:=obs h
   have f50:=(hk 5 36 rfl).ret c36 q49 rfl rfl
   have e51:ecall O [V0 x1 (IntKind.wrap .i64 (x13+(IntKind.wrap .i64 (n22+1)))) l6.length l7.length x3 x4 x5,rTo l6,rSt l7,.bld c36] 36 [.ref 3 0]=some (retAV [as_ s48],[V0 x1 (IntKind.wrap .i64 (x13+(IntKind.wrap .i64 (n22+1)))) l6.length l7.length x3 x4 x5,rTo l6,rSt l7,.gone]):=ecall_eq rfl rfl rfl f50 rfl rfl rfl
   refine rg hS [2,3] (di1 (ap0 36 hpf e51)) ?_
   cases h;exact ret fin
  ·refine seq ?_
   obtain⟨d52,q53,h⟩:=obs h
   have f54:=(hk 6 121 rfl).ret (c36,39) q53 rfl rfl
   have e55:ecall O [V0 x1 (IntKind.wrap .i64 (x13+(IntKind.wrap .i64 (n22+1)))) l6.length l7.length x3 x4 x5,rTo l6,rSt l7,.bld c36] 121 [.ref 3 0,.pv (.int .u8 39)]=some (retAV [.pv (.nil)],[V0 x1 (IntKind.wrap .i64 (x13+(IntKind.wrap .i64 (n22+1)))) l6.length l7.length x3 x4 x5,rTo l6,rSt l7,.bld d52]):=ecall_eq rfl rfl rfl f54 rfl rfl rfl
   refine rg hS [0,4,5] (di1 (ap0 121 hpf e55)) ?_
   refine rg hS [0,4,5] di ?_
   exact⟨(m17,(IntKind.wrap .i64 ((IntKind.wrap .i64 (x13+(IntKind.wrap .i64 (n22+1))))+1),d52)),h,(Weak.norm (m:=4) (Nat.le_of_ble_eq_true rfl) kp hq rfl rfl),Nat.lt_succ_self _⟩
theorem g_F75x1(c:AllG env [(S120x1 F120x1),SL_WriteByte,(S39x2 F39x2),(S42 F42),(S122x1 F122x1),SL_WriteString,SL_Repeat,SL_String]):GoodH env (S75x1 F75x1):=by
 obtain⟨O,X,hS,hX,hpf,hk⟩:=orp c
 have pf_36:O.pf 36=false:=pft hpf 36 rfl
 have pf_39:O.pf 39=false:=pft hpf 39 rfl
 have pf_124:O.pf 124=true:=pft hpf 124 rfl
 refine gh fn_75 49 ?_
 rintro⟨x1,x2,x3,x4,x5,l6,l7⟩ (r:Str×Str×Bool×Int×Int×Int) h m em
 refine ghs em ?_;clear em m
 replace h:F75x1 x1 x2 x3 x4 x5 l6 l7=some r:=h
 rw[F75x1]at h
 refine srg hS [0] di ?_
 refine srg hS [0,5,6] di ?_
 refine block ?_
 refine lp (α:=Nat×Int×Int×Int×Str×Str) (fun(_,x14,x15,x16,b17,b18)=>⟨sl [(0,.ref 0 0),(5,.ref 3 0),(6,.ref 4 0)],49,[V0 x1 x14 l6.length l7.length x3 x15 x16,rTo l6,rSt l7,.bld b17,.bld b18]⟩) (fun x=>iter (F75x1_b1 x1 x3 l6 l7) x.1 x.2=some r) (fun x=>x.1) (BIG,(x2,x4,x5,[],[])) (Weak.slots kp) h ?_
 clear h
 intro⟨n76,x14,x15,x16,b17,b18⟩ h
 replace h:=iter_some h;obtain⟨m21,rfl,h⟩:=h
 rw[F75x1_b1]at h
 try dsimp only at h
 refine AW.st ?_
 refine block ?_
 refine block ?_
 refine seq ?_
 obtain⟨r22,q23,h⟩:=obs h
 have f24:=(hk 0 120 rfl).ret (x1,x14,x3,x15,x16,l6,l7) q23 rfl rfl
 have e25:ecall O [V0 x1 x14 l6.length l7.length x3 x15 x16,rTo l6,rSt l7,.bld b17,.bld b18] 120 [.ref 0 0]=some (retAV [ab r22],[V0 x1 x14 l6.length l7.length x3 x15 x16,rTo l6,rSt l7,.bld b17,.bld b18]):=ecall_eq rfl rfl rfl f24 rfl rfl rfl
 refine rg hS [0,5,6,11] (di1 (ap0 120 hpf e25)) ?_
 refine ifs h (fun hb26 h=>?_) fun hb26 h=>?_
 ·refine seq ?_
  obtain⟨c27,q28,h⟩:=obs h
  have f29:=sidx_f q28
  obtain⟨d30,q31,h⟩:=obs h
  have f32:=(hk 1 121 rfl).ret (b17,c27) q31 rfl rfl
  have e33:ecall O [V0 x1 x14 l6.length l7.length x3 x15 x16,rTo l6,rSt l7,.bld b17,.bld b18] 121 [.ref 3 0,.pv (.int .u8 c27)]=some (retAV [.pv (.nil)],[V0 x1 x14 l6.length l7.length x3 x15 x16,rTo l6,rSt l7,.bld d30,.bld b18]):=ecall_eq rfl rfl rfl f32 rfl rfl rfl
  apply dgk mixed hS [0,5,6] (ordp hpf (by kernel_rfl))
  ·exact di1 (an f29.1 (an f29.2.1 (an f29.2.2 (ap0 121 hpf e33))))
  refine seq ?_
  obtain⟨d34,q35,h⟩:=obs h
  have f36:=(hk 1 121 rfl).ret (b18,48) q35 rfl rfl
  have e37:ecall O [V0 x1 x14 l6.length l7.length x3 x15 x16,rTo l6,rSt l7,.bld d30,.bld b18] 121 [.ref 4 0,.pv (.int .u8 48)]=some (retAV [.pv (.nil)],[V0 x1 x14 l6.length l7.length x3 x15 x16,rTo l6,rSt l7,.bld d30,.bld d34]):=ecall_eq rfl rfl rfl f36 rfl rfl rfl
  refine rg hS [0,5,6] (di1 (ap0 121 hpf e37)) ?_
  refine rg hS [0,5,6] di ?_
  exact⟨(m21,(IntKind.wrap .i64 (x14+1),x15,x16,d30,d34)),h,(Weak.norm (m:=5) (Nat.le_of_ble_eq_true rfl) kp hq rfl rfl),Nat.lt_succ_self _⟩
 ·refine seq ?_
  obtain⟨r38,q39,h⟩:=obs h
  have f40:=(hk 2 39 rfl).ret (x1,x14,x3,x15,x16,l6,l7) q39 rfl rfl
  have e41:ecall O [V0 x1 x14 l6.length l7.length x3 x15 x16,rTo l6,rSt l7,.bld b17,.bld b18] 39 [.ref 0 0]=some (retAV [as_ r38],[V0 x1 x14 l6.length l7.length x3 x15 x16,rTo l6,rSt l7,.bld b17,.bld b18]):=ecall_eq rfl rfl rfl f40 rfl rfl rfl
  obtain⟨r42,q43,h⟩:=obs h
  have f44:=(hk 3 42 rfl).ret (r38,([39]:Str)) q43 rfl rfl
  try simp only[PVE]at f44
  refine rg hS [0,5,6,32] (di1 (an pf_39 (an e41 (ap1 42 hpf f44)))) ?_
  refine ifs h (fun hb45 h=>?_) fun hb45 h=>?_
  ·refine seq ?_
   obtain⟨⟨r46,r47,x48,x49,x50⟩,q51,h⟩:=obs h
   dsimp only at h
   have f52:=(hk 4 122 rfl).ret (x1,x14,x3,x15,x16,l6,l7) q51 rfl rfl
   have e53:ecall O [V0 x1 x14 l6.length l7.length x3 x15 x16,rTo l6,rSt l7,.bld b17,.bld b18] 122 [.ref 0 0]=some (retAV [as_ r46,ab r47],[V0 x1 x48 l6.length l7.length x3 x49 x50,rTo l6,rSt l7,.bld b17,.bld b18]):=ecall_eq rfl rfl rfl f52 rfl rfl rfl
   refine rg hS [0,5,6,7,8] (di1 (ap0 122 hpf e53)) ?_
   refine seq ?_
   refine srg hS [0,5,6,7,42] di ?_
   refine ifk h (fun hb54 h=>?_) fun hb54 h=>?_
   ·refine srg hS [2,3,4] di ?_
    cases h;exact ret fin
   ·refine seq ?_
    obtain⟨⟨n55,c56⟩,q57,h⟩:=obs h
    dsimp only at h
    have f58:=(hk 5 123 rfl).ret (b17,r46) q57 rfl rfl
    have e59:ecall O [V0 x1 x48 l6.length l7.length x3 x49 x50,rTo l6,rSt l7,.bld b17,.bld b18] 123 [.ref 3 0,as_ r46]=some (retAV [ai n55,.pv (.nil)],[V0 x1 x48 l6.length l7.length x3 x49 x50,rTo l6,rSt l7,.bld c56,.bld b18]):=ecall_eq rfl rfl rfl f58 rfl rfl rfl
    refine rg hS [0,5,6,7] (di1 (ap0 123 hpf e59)) ?_
    obtain⟨t60,q61,h⟩:=obs h
    have f62:=(hk 6 124 rfl).ret (([49]:Str),(r46.length:Int)) q61 rfl rfl
    try simp only[PVE]at f62
    obtain⟨⟨n63,c64⟩,q65,h⟩:=obs h
    dsimp only at h
    have f66:=(hk 5 123 rfl).ret (b18,t60) q65 rfl rfl
    have e67:ecall O [V0 x1 x48 l6.length l7.length x3 x49 x50,rTo l6,rSt l7,.bld c56,.bld b18] 123 [.ref 4 0,as_ t60]=some (retAV [ai n63,.pv (.nil)],[V0 x1 x48 l6.length l7.length x3 x49 x50,rTo l6,rSt l7,.bld c56,.bld c64]):=ecall_eq rfl rfl rfl f66 rfl rfl rfl
    refine rg hS [0,5,6] (di1 (an pf_124 (an f62 (ap0 123 hpf e67)))) ?_
    exact⟨(m21,(x48,x49,x50,c56,c64)),h,(Weak.norm (m:=5) (Nat.le_of_ble_eq_true rfl) kp hq rfl rfl),Nat.lt_succ_self _⟩
  ·refine seq ?_
   obtain⟨s68,q69,h⟩:=obs h
   have f70:=(hk 7 36 rfl).ret b17 q69 rfl rfl
   have e71:ecall O [V0 x1 x14 l6.length l7.length x3 x15 x16,rTo l6,rSt l7,.bld b17,.bld b18] 36 [.ref 3 0]=some (retAV [as_ s68],[V0 x1 x14 l6.length l7.length x3 x15 x16,rTo l6,rSt l7,.gone,.bld b18]):=ecall_eq rfl rfl rfl f70 rfl rfl rfl
   obtain⟨s72,q73,h⟩:=obs h
   have f74:=(hk 7 36 rfl).ret b18 q73 rfl rfl
   have e75:ecall O [V0 x1 x14 l6.length l7.length x3 x15 x16,rTo l6,rSt l7,.gone,.bld b18] 36 [.ref 4 0]=some (retAV [as_ s72],[V0 x1 x14 l6.length l7.length x3 x15 x16,rTo l6,rSt l7,.gone,.gone]):=ecall_eq rfl rfl rfl f74 rfl rfl rfl
   refine rg hS [2,3,4] (di1 (an pf_36 (an e71 e75))) ?_
   cases h;exact ret fin
theorem g_F43x1(c:AllG env [(S38x2 F38x2),(S75x1 F75x1),(S73x2 F73x2),(S71x2 F71x2)]):GoodH env (S43x1 F43x1):=by
 obtain⟨O,X,hS,hX,hpf,hk⟩:=orp c
 refine gh fn_43 58 ?_
 rintro⟨x1,x2,x3,x4,x5,l6,l7⟩ (r:Bool×Int×Int×Int×(List Token)×(List Str)) h m em
 refine ghs em ?_;clear em m
 replace h:F43x1 x1 x2 x3 x4 x5 l6 l7=some r:=h
 rw[F43x1]at h
 refine srg hS [0] di ?_
 refine srg hS [0,3] di ?_
 refine srg hS [0,3] di ?_
 refine seq ?_
 obtain⟨x14,q15,h⟩:=obs h
 have f16:=(hk 0 38 rfl).ret (x1,IntKind.wrap .i64 (x2+2),x3,x4,x5,l6,l7) q15 rfl rfl
 have e17:ecall O [V0 x1 (IntKind.wrap .i64 (x2+2)) l6.length l7.length x3 x4 x5,rTo l6,rSt l7] 38 [.ref 0 0]=some (retAV [],[V0 x1 x14 l6.length l7.length x3 x4 x5,rTo l6,rSt l7]):=ecall_eq rfl rfl rfl f16 rfl rfl rfl
 refine rg hS [0,3] (di1 (ap0 38 hpf e17)) ?_
 refine srg hS [0,3,4] di ?_
 refine seq ?_
 obtain⟨⟨r18,r19,r20,x21,x22,x23⟩,q24,h⟩:=obs h
 dsimp only at h
 have f25:=(hk 1 75 rfl).ret (x1,x14,x3,x4,x5,l6,l7) q24 rfl rfl
 have e26:ecall O [V0 x1 x14 l6.length l7.length x3 x4 x5,rTo l6,rSt l7] 75 [.ref 0 0]=some (retAV [as_ r18,as_ r19,ab r20],[V0 x1 x21 l6.length l7.length x3 x22 x23,rTo l6,rSt l7]):=ecall_eq rfl rfl rfl f25 rfl rfl rfl
 refine rg hS [0,3,4,5,6,7] (di1 (ap0 75 hpf e26)) ?_
 refine seq ?_
 refine srg hS [0,3,4,5,6,32] di ?_
 refine ifk h (fun hb27 h=>?_) fun hb27 h=>?_
 ·refine srg hS [2] di ?_
  cases h;exact ret fin
 ·refine seq ?_
  refine srg hS [0,3,4,5,6,38] di ?_
  refine ifk h (fun hb28 h=>?_) fun hb28 h=>?_
  ·refine seq ?_
   obtain⟨⟨r29,x30,x31⟩,q32,h⟩:=obs h
   dsimp only at h
   have f33:=(hk 2 73 rfl).ret (x14,47,x1,x21,x3,x22,x23,l6,l7) q32 rfl rfl
   have e34:ecall O [V0 x1 x21 l6.length l7.length x3 x22 x23,rTo l6,rSt l7] 73 [.ref 0 0,ai x14,ai 47]=some (retAV [ab r29],[V0 x1 x21 l6.length l7.length x3 x30 x31,rTo l6,rSt l7]):=ecall_eq rfl rfl rfl f33 rfl rfl rfl
   refine rg hS [2] (di1 (ap0 73 hpf e34)) ?_
   cases h;exact ret fin
  ·refine seq ?_
   obtain⟨out35,q36,h⟩:=obs h
   have f37:=appO_f q36
   try simp only[LNS,List.length_replicate,Nat.reduceAdd,Nat.reduceLeDiff,Nat.add_zero,Nat.reduceMul]at f37
   have f37m:=appO_m PV.str q36
   try simp only[PVE,List.nil_append]at f37m
   have f37n:=appO_n q36
   try simp only[LNS]at f37n
   refine reg hS [(0,.ref 0 0),(3,ai x2),(5,as_ r18),(6,as_ r19)] [V0 x1 x21 l6.length out35.length x3 x22 x23,rTo l6,rSt out35] (dk1 (an f37.1 (an f37m f37n))) ?_
   clear f37
   clear f37m
   clear f37n
   refine seq ?_
   obtain⟨⟨r38,x39,x40,o41⟩,q42,h⟩:=obs h
   dsimp only at h
   have f43:=(hk 3 71 rfl).ret (Token.mk 4 x2 r18 r19,x1,x21,x3,x22,x23,l6,out35) q42 rfl rfl
   have e44:ecall O [V0 x1 x21 l6.length out35.length x3 x22 x23,rTo l6,rSt out35] 71 [.ref 0 0,.pv (PV.agg [.int .i64 4,.int .i64 x2,.str r18,.str r19])]=some (retAV [ab r38],[V0 x1 x21 o41.length out35.length x3 x39 x40,rTo o41,rSt out35]):=ecall_eq rfl rfl rfl f43 rfl rfl rfl
   refine rg hS [2] (di1 (ap0 71 hpf e44)) ?_
   cases h;exact ret fin
theorem g_F76(c:AllG env []):GoodH env (S76 F76):=by
 obtain⟨O,X,hS,hX,hpf,hk⟩:=orp c
 refine gh fn_76 34 ?_
 rintro⟨x1,x2,x3,x4,x5,l6,l7⟩ (r:Bool) h m em
 refine ghs em ?_;clear em m
 replace h:F76 x1 x2 x3 x4 x5 l6 l7=some r:=h
 rw[F76]at h
 refine srg hS [0] di ?_
 refine srg hS [0,3] di ?_
 refine seq ?_
 obtain⟨u9,q10,h⟩:=obs h
 have f11:=lidx_g (guardO_t q10)
 refine dreg mixed hS (ordp hpf (by kernel_rfl)) [(2,ab ((decide (0<(l6.length:Int))&&decide (u9.kind_=1))&&decide (x3=x2)))] [V0 x1 x2 l6.length l7.length x3 x4 x5,rTo l6,rSt l7] ?_ ?_
 ·clear h hk hS hX c
  exact dh1 (an f11.1 (an f11.2.1 f11.2.2))
 cases h;exact ret fin
theorem g_F166(c:AllG env [SL_Atoi,SL_Itoa]):GoodH env (S166 F166):=by
 obtain⟨O,X,hS,hX,hpf,hk⟩:=orp c
 have pf_189:O.pf 189=true:=pft hpf 189 rfl
 refine gh fn_166 26 ?_
 rintro(s1:Str) (r:Bool) h m em
 refine ghs em ?_;clear em m
 replace h:F166 s1=some r:=h
 rw[F166]at h
 refine srg hS [0] di ?_
 refine seq ?_
 obtain⟨⟨n3,bad4⟩,q5,h⟩:=obs h
 dsimp only at h
 have f6:=(hk 0 199 rfl).ret s1 q5 rfl rfl
 refine rg hS [0,3,4] (di1 (ap1 199 hpf f6)) ?_
 refine seq ?_
 obtain⟨s7,q8,h⟩:=obs h
 replace q8:=guardO_t q8
 have f9:=fun hg=>(hk 1 189 rfl).ret n3 (q8 hg) rfl rfl
 refine reg hS [(2,ab (((!bad4&&decide (0≤n3))&&decide (n3<64))&&decide (s7=s1)))] [] ?_ ?_
 ·clear h hk hS hX c
  ((simp -implicitDefEqProofs only[RUNS,qindex,Nat.reduceAdd,Nat.reduceLeDiff,Nat.reduceSub,reduceIte,Nat.reduceEqDiff,Nat.reduceLT,reduceCtorEq,Nat.reduceMul,Nat.reduceBEq,Int.reduceEq,Int.reduceToNat,Int.toNat_zero,Nat.sub_zero,if_true,if_false,eq_self,ne_eq,TYS,pf_189,f9,qnil2_eql T_133,qnil2_neq T_133]);repeat'(split<;>rename_i hb<;>(try simp only[HBS,ge_iff_le,gt_iff_lt]at hb)<;>(try simp only[hb,Int.toNat_natCast,Int.toNat_zero,Int.reduceToNat,Nat.sub_zero,List.drop_zero,List.length_map]at q)<;>simp -implicitDefEqProofs only[RUNS,qindex,Nat.reduceAdd,Nat.reduceLeDiff,Nat.reduceSub,reduceIte,Nat.reduceEqDiff,Nat.reduceLT,reduceCtorEq,Nat.reduceMul,Nat.reduceBEq,Int.reduceEq,Int.reduceToNat,Int.toNat_zero,Nat.sub_zero,if_true,if_false,eq_self,ne_eq,TYS,pf_189,f9,qnil2_eql T_133,qnil2_neq T_133, *,decide_true,decide_false,Decidable.not_not,not_false_eq_true,not_true_eq_false]));all_goals(first|(simp only[BOOLS];done)|(simp[*];done)|((try simp only[CLOS,beq_iff_eq,bne_iff_ne,ne_eq]at *)<;>omega)|(simp_all;done)|(simp_all<;>omega))
 cases h;exact ret fin
theorem g_F125(c:AllG env [SL_IndexByte,SL_Cut,(S166 F166)]):GoodH env (S125 F125):=by
 obtain⟨O,X,hS,hX,hpf,hk⟩:=orp c
 have pf_166:O.pf 166=true:=pft hpf 166 rfl
 refine gh fn_125 42 ?_
 rintro⟨s1,pair2⟩ (r:Int) h m em
 refine ghs em ?_;clear em m
 replace h:F125 s1 pair2=some r:=h
 rw[F125]at h
 refine srg hS [0,1] di ?_
 refine seq ?_
 obtain⟨n4,q5,h⟩:=obs h
 have f6:=(hk 0 40 rfl).ret (s1,93) q5 rfl rfl
 refine rg hS [0,1,5] (di1 (ap1 40 hpf f6)) ?_
 refine seq ?_
 refine srg hS [0,1,5,12] di ?_
 refine ifk h (fun hb7 h=>?_) fun hb7 h=>?_
 ·refine srg hS [4] di ?_
  cases h;exact ret fin
 ·refine seq ?_
  obtain⟨t8,q9,h⟩:=obs h
  have f10:=sslice_f q9
  try simp only[NRM,Int.reduceToNat]at f10
  have f10e:=f10.2.2.2.2
  try simp only[NRM,Int.reduceToNat]at f10e
  have f10l:=f10.2.2.1
  try simp only[NRM,Int.reduceToNat]at f10l
  obtain⟨⟨a11,b12,ok13⟩,q14,h⟩:=obs h
  dsimp only at h
  have f15:=(hk 1 161 rfl).ret (t8,([61]:Str)) q14 rfl rfl
  try simp only[PVE]at f15
  refine rg hS [1,5,6,7,8] (di1 (an f10.1 (an f10.2.1 (an f10l (an f10.2.2.2.1 (an f10e (ap1 161 hpf f15))))))) ?_
  refine seq ?_
  refine seq ?_
  obtain⟨r16,q17,h⟩:=obs h
  have f18:=(hk 2 166 rfl).ret a11 q17 rfl rfl
  obtain⟨r19,q20,h⟩:=obs h
  replace q20:=guardO_t q20
  have f21:=fun hg=>(hk 2 166 rfl).ret b12 (q20 hg) rfl rfl
  refine reg hS [(5,ai n4),(39,ab (!r16||(ok13&&(!pair2||(!decide (b12=[])&&!r19)))))] [] ?_ ?_
  ·clear h hk hS hX c
   exact dh1 (an pf_166 (an f18 f21))
  refine ifk h (fun hb22 h=>?_) fun hb22 h=>?_
  ·refine srg hS [4] di ?_
   cases h;exact ret fin
  ·refine srg hS [4] di ?_
   cases h;exact ret fin
end Go.Abs.U48
