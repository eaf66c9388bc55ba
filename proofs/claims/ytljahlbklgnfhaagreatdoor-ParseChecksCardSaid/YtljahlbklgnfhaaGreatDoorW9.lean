import Derived.Test.YtljahlbklgnfhaaGreatDoorD1
set_option linter.unusedVariables false
set_option linter.unusedSimpArgs false
set_option linter.defProp false
set_option maxRecDepth 8000
set_option maxHeartbeats 4000000
namespace Go.Abs.U48
open Go.RowKit Go.Proofs AW
theorem g_F152{w66:Y5}{w152:Y2}(c:AllG env [(S190 F190),(S103 F103),(S191 (F191 w152)),(S104 (F104 w66))]):GoodH env (S152 (F152 w66 w152)):=by
 obtain⟨O,X,hS,hX,hpf,hk⟩:=orp c
 refine gh fn_152 54 ?_
 rintro⟨w1,b2,l3⟩ (r:Str×(List Redir)) h m em
 refine ghs em ?_;clear em m
 replace h:F152 w66 w152 w1 b2 l3=some r:=h
 rw[F152]at h
 refine srg hS [0,3] di ?_
 refine srg hS [0,3,5] di ?_
 refine block ?_
 refine srg hS [0,3,5,6] di ?_
 refine ifs h (fun hb6 h=>?_) fun hb6 h=>?_
 ·obtain⟨o7,q8,h⟩:=obs h
  have f9:=(hk 0 190 rfl).ret (w1,b2,l3) q8 rfl rfl
  have e10:ecall O [.prn 5 b2 51 9 (List.map Redir.pv l3),V17 w1] 190 [.ref 0 0,.pv (V10 w1)]=some (retAV [],[.prn 5 o7 51 9 (List.map Redir.pv l3),V17 w1]):=ecall_eq rfl rfl rfl f9 rfl rfl rfl
  refine rg hS [] (di1 (ap0 190 hpf e10)) ?_
  cases h
  exact fin
 ·refine srg hS [0,3,5,11] di ?_
  refine ifs h (fun hb11 h=>?_) fun hb11 h=>?_
  ·obtain⟨o12,q13,h⟩:=obs h
   have f14:=(hk 1 103 rfl).ret (([[36],w1.text_]:List Str),b2,l3) q13 rfl rfl
   try simp only[PVE]at f14
   have e15:ecall O [.prn 5 b2 51 9 (List.map Redir.pv l3),V17 w1] 103 [.ref 0 0,.full (List.map PV.str [[36],w1.text_])]=some (retAV [],[.prn 5 o12 51 9 (List.map Redir.pv l3),V17 w1]):=ecall_eq rfl rfl rfl f14 rfl rfl rfl
   try simp only[PVE]at e15
   refine rg hS [] (di1 (ap0 103 hpf e15)) ?_
   cases h
   exact fin
  ·refine srg hS [0,3,5,18] di ?_
   refine ifs h (fun hb16 h=>?_) fun hb16 h=>?_
   ·obtain⟨o17,q18,h⟩:=obs h
    have f19:=(hk 1 103 rfl).ret (([[36,35],w1.text_]:List Str),b2,l3) q18 rfl rfl
    try simp only[PVE]at f19
    have e20:ecall O [.prn 5 b2 51 9 (List.map Redir.pv l3),V17 w1] 103 [.ref 0 0,.full (List.map PV.str [[36,35],w1.text_])]=some (retAV [],[.prn 5 o17 51 9 (List.map Redir.pv l3),V17 w1]):=ecall_eq rfl rfl rfl f19 rfl rfl rfl
    try simp only[PVE]at e20
    refine rg hS [] (di1 (ap0 103 hpf e20)) ?_
    cases h
    exact fin
   ·refine srg hS [0,3,5,25] di ?_
    refine ifs h (fun hb21 h=>?_) fun hb21 h=>?_
    ·refine seq ?_
     obtain⟨o22,q23,h⟩:=obs h
     have f24:=(hk 1 103 rfl).ret (([[36],w1.text_]:List Str),b2,l3) q23 rfl rfl
     try simp only[PVE]at f24
     have e25:ecall O [.prn 5 b2 51 9 (List.map Redir.pv l3),V17 w1] 103 [.ref 0 0,.full (List.map PV.str [[36],w1.text_])]=some (retAV [],[.prn 5 o22 51 9 (List.map Redir.pv l3),V17 w1]):=ecall_eq rfl rfl rfl f24 rfl rfl rfl
     try simp only[PVE]at e25
     refine rg hS [0,3] (di1 (ap0 103 hpf e25)) ?_
     obtain⟨⟨o26,m27⟩,q28,h⟩:=obs h
     dsimp only at h
     have f29:=(hk 2 191 rfl).ret (([40]:Str),w1.words_,([32]:Str),([41]:Str),o22,l3) q28 rfl rfl
     try simp only[PVE]at f29
     have e30:ecall O [.prn 5 o22 51 9 (List.map Redir.pv l3),V17 w1] 191 [.ref 0 0,as_ [40],vWo w1.words_,as_ [32],as_ [41]]=some (retAV [],[.prn 5 o26 51 9 (List.map Redir.pv m27),V17 w1]):=ecall_eq rfl rfl rfl f29 rfl rfl rfl
     refine rg hS [] (di1 (ap0 191 hpf e30)) ?_
     cases h
     exact fin
    ·refine srg hS [0,3,5,36] di ?_
     refine ifs h (fun hb31 h=>?_) fun hb31 h=>?_
     ·obtain⟨⟨o32,m33⟩,q34,h⟩:=obs h
      dsimp only at h
      have f35:=(hk 2 191 rfl).ret (([40]:Str),w1.words_,([32]:Str),([41]:Str),b2,l3) q34 rfl rfl
      try simp only[PVE]at f35
      have e36:ecall O [.prn 5 b2 51 9 (List.map Redir.pv l3),V17 w1] 191 [.ref 0 0,as_ [40],vWo w1.words_,as_ [32],as_ [41]]=some (retAV [],[.prn 5 o32 51 9 (List.map Redir.pv m33),V17 w1]):=ecall_eq rfl rfl rfl f35 rfl rfl rfl
      refine rg hS [] (di1 (ap0 191 hpf e36)) ?_
      cases h
      exact fin
     ·refine srg hS [0,3,5,42] di ?_
      refine ifs h (fun hb37 h=>?_) fun hb37 h=>?_
      ·obtain⟨⟨o38,m39⟩,q40,h⟩:=obs h
       dsimp only at h
       have f41:=(hk 2 191 rfl).ret (([]:Str),w1.words_,([94]:Str),([]:Str),b2,l3) q40 rfl rfl
       try simp only[PVE]at f41
       have e42:ecall O [.prn 5 b2 51 9 (List.map Redir.pv l3),V17 w1] 191 [.ref 0 0,as_ [],vWo w1.words_,as_ [94],as_ []]=some (retAV [],[.prn 5 o38 51 9 (List.map Redir.pv m39),V17 w1]):=ecall_eq rfl rfl rfl f41 rfl rfl rfl
       refine rg hS [] (di1 (ap0 191 hpf e42)) ?_
       cases h
       exact fin
      ·refine srg hS [0,3,48] di ?_
       refine ifk h (fun hb43 h=>?_) fun hb43 h=>?_
       ·obtain⟨⟨o44,m45⟩,q46,h⟩:=obs h
        dsimp only at h
        have f47:=(hk 3 104 rfl).ret (([96,123]:Str),w1.cmd_,([125]:Str),b2,l3) q46 rfl rfl
        try simp only[PVE]at f47
        have e48:ecall O [.prn 5 b2 51 9 (List.map Redir.pv l3),V17 w1] 104 [.ref 0 0,as_ [96,123],vC w1.cmd_,as_ [125]]=some (retAV [],[.prn 5 o44 51 9 (List.map Redir.pv m45),V17 w1]):=ecall_eq rfl rfl rfl f47 rfl rfl rfl
        refine rg hS [] (di1 (ap0 104 hpf e48)) ?_
        cases h
        exact fin
       ·cases h
        exact fin
theorem g_F17(c:AllG env [(S13 F13),(S35 (F35 (K66 BIG))),(S36 F36)]):GoodH env (S17 F17):=by
 obtain⟨O,X,hS,hX,hpf,hk⟩:=orp c
 refine gh fn_17 12 ?_
 rintro(l1:(List Cmd)) (r:Str×Int) h m em
 refine ghs em ?_;clear em m
 replace h:F17 l1=some r:=h
 rw[F17]at h
 refine srg hS [0] di ?_
 refine seq ?_
 refine seq ?_
 obtain⟨r4,q5,h⟩:=obs h
 have f6:=(hk 0 13 rfl).ret l1 q5 rfl rfl
 refine rg hS [0,7] (di1 (ap1 13 hpf f6)) ?_
 refine ifk h (fun hb7 h=>?_) fun hb7 h=>?_
 ·refine srg hS [2,3] di ?_
  cases h;exact ret fin
 ·refine seq ?_
  apply rg hS [0,4]
  ·simp -implicitDefEqProofs only[RUNS,qindex,Nat.reduceAdd,Nat.reduceLeDiff,Nat.reduceSub,reduceIte,Nat.reduceEqDiff,Nat.reduceLT,reduceCtorEq,Nat.reduceMul,Nat.reduceBEq,Int.reduceEq,Int.reduceToNat,Int.toNat_zero,Nat.sub_zero,if_true,if_false,eq_self,ne_eq,pick_nil,pick_cons,leavesK_some,TYS,env_pT];exact⟨rfl,rfl⟩
  refine seq ?_
  obtain⟨⟨o8,m9⟩,q10,h⟩:=obs h
  dsimp only at h
  have f11:=hk 1 35 rfl
  replace f11:=f11.ret (l1,([]:Str),(([]:List Redir):List Redir)) q10 rfl rfl
  try simp only[PVE]at f11
  have e12:ecall O [.prn 5 [] 51 9 (List.map Redir.pv ([]:List Redir))] 35 [.ref 0 0,vC l1]=some (retAV [],[.prn 5 o8 51 9 (List.map Redir.pv m9)]):=ecall_eq rfl rfl rfl f11 rfl rfl rfl
  try simp only[List.length_nil,List.map_nil]at e12
  refine rg hS [4] (di1 (ap0 35 hpf e12)) ?_
  refine seq ?_
  obtain⟨r13,q14,h⟩:=obs h
  have f15:=(hk 2 36 rfl).ret (o8,m9) q14 rfl rfl
  have e16:ecall O [.prn 5 o8 51 9 (List.map Redir.pv m9)] 36 [.ref 0 0]=some (retAV [as_ r13],[.prn 5 o8 51 9 (List.map Redir.pv m9)]):=ecall_eq rfl rfl rfl f15 rfl rfl rfl
  refine rg hS [2,3] (di1 (ap0 36 hpf e16)) ?_
  cases h;exact ret fin
theorem g_F7(c:AllG env [(S8 F8),(S15 (K15 BIG)),(S13 F13),(S17 F17)]):GoodH env (S7 F7):=by
 obtain⟨O,X,hS,hX,hpf,hk⟩:=orp c
 have pf_15:O.pf 15=true:=pft hpf 15 rfl
 refine gh fn_7 71 ?_
 rintro⟨⟩ (r:Bool) h m em
 refine ghs em ?_;clear em m
 replace h:F7=some r:=(S7_F F7).symm.trans h
 rw[F7]at h
 refine srg hS [] di ?_
 refine seq ?_
 obtain⟨⟨r2,r3,r4⟩,q5,h⟩:=obs h
 dsimp only at h
 have f6:=(hk 0 8 rfl).ret ([105,102,40,126,32,36,120,32,97,41,123,101,99,104,111,32,39,98,32,99,39,125]:Str) q5 rfl rfl
 try simp only[PVE]at f6
 refine rg hS [1,2,3] (di1 (ap1 8 hpf f6)) ?_
 refine seq ?_
 refine seq ?_
 obtain⟨u7,q8,h⟩:=obs h
 have f9:=lidx_g (guardO_t q8)
 try simp only[NRM,Int.reduceToNat]at f9
 obtain⟨r10,q11,h⟩:=obs h
 have f12:=hk 1 15 rfl
 replace q11:=guardO_t q11
 replace f12:=fun hg=>f12.ret r2 (q11 hg) rfl rfl
 obtain⟨r13,q14,h⟩:=obs h
 replace q14:=guardO_t q14
 have f15:=fun hg=>(hk 2 13 rfl).ret r2 (q14 hg) rfl rfl
 refine reg hS [(1,vC r2),(48,ab ((((((!decide (r4=0)||!decide (r3=0))||!decide ((r2.length:Int)=1))||!decide (u7.kind_=8))||!decide ((u7.kids_.length:Int)=2))||!decide (r10=9))||!r13))] [] ?_ ?_
 ·clear h hk hS hX c
  exact dh1 (an f9.1 (an f9.2.1 (an pf_15 (an f12 (ap1 13 hpf f15)))))
 refine ifk h (fun hb16 h=>?_) fun hb16 h=>?_
 ·refine srg hS [0] di ?_
  cases h;exact ret fin
 ·refine seq ?_
  refine seq ?_
  obtain⟨⟨r17,r18,r19⟩,q20,h⟩:=obs h
  dsimp only at h
  have f21:=(hk 0 8 rfl).ret ([97,32,124,32,124,32,98]:Str) q20 rfl rfl
  try simp only[PVE]at f21
  refine rg hS [1,5,6] (di1 (ap1 8 hpf f21)) ?_
  refine seq ?_
  refine reg hS [(1,vC r2),(59,ab (!decide (r18=4)||!decide (r19=47)))] [] ?_ ?_
  ·clear h hk hS hX c
   exact dh
  refine ifk h (fun hb22 h=>?_) fun hb22 h=>?_
  ·refine srg hS [0] di ?_
   cases h;exact ret fin
  ·refine seq ?_
   obtain⟨⟨r23,r24⟩,q25,h⟩:=obs h
   dsimp only at h
   have f26:=(hk 3 17 rfl).ret r2 q25 rfl rfl
   refine rg hS [3,7] (di1 (ap1 17 hpf f26)) ?_
   refine seq ?_
   refine reg hS [(0,ab (decide (r23=[105,102,40,10,126,32,36,120,32,97,10,41,32,123,10,101,99,104,111,32,39,98,32,99,39,10,125,10])&&decide (r24=0)))] [] ?_ ?_
   ·clear h hk hS hX c
    exact dh
   cases h;exact ret fin
theorem g_F34(c:AllG env []):GoodH env (S34 F34):=by
 obtain⟨O,X,hS,hX,hpf,hk⟩:=orp c
 refine gh fn_34 14 ?_
 rintro(d1:Redir) (r:(List Word)) h m em
 refine ghs em ?_;clear em m
 replace h:F34 d1=some r:=h
 rw[F34]at h
 refine srg hS [1] di ?_
 refine seq ?_
 refine seq ?_
 refine reg hS [(1,.ref 0 0),(10,ab (decide (d1.kind_=5)||decide (d1.kind_=6)))] [V16 d1] ?_ ?_
 ·clear h hk hS hX c
  exact dh
 refine ifk h (fun hb3 h=>?_) fun hb3 h=>?_
 ·refine srg hS [2] di ?_
  cases h;exact ret fin
 ·refine seq ?_
  refine reg hS [(2,.full [V20 d1])] [V16 d1] dk ?_
  cases h;exact ret fin
theorem g_F16{w16:Y6}{w33:Y7}(c:AllG env [(S33 w33),(S16 w16),(S34 F34)]):GoodH env (S16 (F16 w16 w33)):=by
 obtain⟨O,X,hS,hX,hpf,hk⟩:=orp c
 have pf_33:O.pf 33=true:=pft hpf 33 rfl
 have pf_34:O.pf 34=true:=pft hpf 34 rfl
 refine gh fn_16 59 ?_
 rintro(l1:(List Cmd)) (r:Int) h m em
 refine ghs em ?_;clear em m
 replace h:F16 w16 w33 l1=some r:=h
 rw[F16]at h
 refine srg hS [0] di ?_
 refine srg hS [0,3] di ?_
 refine seq ?_
 refine srg hS [0,3,4] di ?_
 refine block ?_
 refine lp (α:=Nat×Int×Int) (fun(_,n3,i4)=>⟨sl [(0,vC l1),(3,ai n3),(4,ai i4)],59,[]⟩) (fun x=>iter (F16_b2 l1 w33 w16) x.1 x.2=some r) (fun x=>x.1) (BIG,((l1.length:Int),0)) (Weak.slots kp) h ?_
 clear h
 intro⟨n34,n3,i4⟩ h
 replace h:=iter_some h;obtain⟨m7,rfl,h⟩:=h
 rw[F16_b2]at h
 try dsimp only at h
 refine AW.st ?_
 refine seq ?_
 refine srg hS [0,3,4,11] di ?_
 refine ifs h (fun hb8 h=>?_) fun hb8 h=>?_
 ·refine skip ?_
  refine seq ?_
  refine block ?_
  refine seq ?_
  obtain⟨u9,q10,h⟩:=obs h
  have f11:=lidx_f q10
  obtain⟨r12,q13,h⟩:=obs h
  have f14:=(hk 0 33 rfl).ret u9.words_ q13 rfl rfl
  obtain⟨r15,q16,h⟩:=obs h
  have f17:=(hk 1 16 rfl).ret u9.kids_ q16 rfl rfl
  apply dgk mixed hS [0,3,4] (ordp hpf (by kernel_rfl))
  ·exact di1 (an f11.1 (an f11.2.1 (an pf_33 (an f14 (ap1 16 hpf f17)))))
  refine srg hS [0,3,4,5] di ?_
  refine block ?_
  refine lp (α:=Nat×Int×Int) (fun(_,n18,k19)=>⟨sl [(0,vC l1),(3,ai n18),(4,ai i4),(5,ai k19)],59,[]⟩) (fun x=>iter (F16_b3 u9 w33 (iter (F16_b2 l1 w33 w16) m7) i4) x.1 x.2=some r) (fun x=>x.1) (BIG,(IntKind.wrap .i64 ((IntKind.wrap .i64 ((IntKind.wrap .i64 (n3+r12))+r15))+(u9.redirs_.length:Int)),0)) (Weak.slots kp) h ?_
  clear h
  intro⟨n33,n18,k19⟩ h
  replace h:=iter_some h;obtain⟨m22,rfl,h⟩:=h
  rw[F16_b3]at h
  try dsimp only at h
  refine AW.st ?_
  refine seq ?_
  refine srg hS [0,3,4,5,43] (di1 (an f11.1 f11.2.1)) ?_
  refine ifs h (fun hb23 h=>?_) fun hb23 h=>?_
  ·refine skip ?_
   refine seq ?_
   refine block ?_
   obtain⟨u24,q25,h⟩:=obs h
   have f26:=lidx_f q25
   obtain⟨r27,q28,h⟩:=obs h
   have f29:=(hk 2 34 rfl).ret u24 q28 rfl rfl
   obtain⟨r30,q31,h⟩:=obs h
   have f32:=(hk 0 33 rfl).ret r27 q31 rfl rfl
   refine rg hS [0,3,4,5] (di1 (an f11.1 (an f11.2.1 (an f26.1 (an f26.2.1 (an pf_34 (an f29 (ap1 33 hpf f32)))))))) ?_
   refine rg hS [0,3,4,5] di ?_
   exact⟨(m22,(IntKind.wrap .i64 (n18+r30),IntKind.wrap .i64 (k19+1))),h,(Weak.norm (m:=0) (Nat.le_of_ble_eq_true rfl) kp hq rfl rfl),Nat.lt_succ_self _⟩
  ·refine exit ?_
   refine rg hS [0,3,4] di ?_
   exact⟨(m7,(n18,IntKind.wrap .i64 (i4+1))),h,(Weak.norm (m:=0) (Nat.le_of_ble_eq_true rfl) kp hq rfl rfl),Nat.lt_succ_self _⟩
 ·refine exit ?_
  refine srg hS [2] di ?_
  cases h;exact ret fin
theorem g_F33{w16:Y6}{w33:Y7}(c:AllG env [(S33 w33),(S16 w16)]):GoodH env (S33 (F33 w16 w33)):=by
 obtain⟨O,X,hS,hX,hpf,hk⟩:=orp c
 have pf_33:O.pf 33=true:=pft hpf 33 rfl
 refine gh fn_33 29 ?_
 rintro(l1:(List Word)) (r:Int) h m em
 refine ghs em ?_;clear em m
 replace h:F33 w16 w33 l1=some r:=h
 rw[F33]at h
 refine srg hS [0] di ?_
 refine srg hS [0,3] di ?_
 refine seq ?_
 refine srg hS [0,3,4] di ?_
 refine block ?_
 refine lp (α:=Nat×Int×Int) (fun(_,n3,i4)=>⟨sl [(0,vWo l1),(3,ai n3),(4,ai i4)],29,[]⟩) (fun x=>iter (F33_b1 l1 w33 w16) x.1 x.2=some r) (fun x=>x.1) (BIG,((l1.length:Int),0)) (Weak.slots kp) h ?_
 clear h
 intro⟨n18,n3,i4⟩ h
 replace h:=iter_some h;obtain⟨m7,rfl,h⟩:=h
 rw[F33_b1]at h
 try dsimp only at h
 refine AW.st ?_
 refine seq ?_
 refine srg hS [0,3,4,10] di ?_
 refine ifs h (fun hb8 h=>?_) fun hb8 h=>?_
 ·refine skip ?_
  refine seq ?_
  refine block ?_
  obtain⟨u9,q10,h⟩:=obs h
  have f11:=lidx_f q10
  obtain⟨r12,q13,h⟩:=obs h
  have f14:=(hk 0 33 rfl).ret u9.words_ q13 rfl rfl
  obtain⟨r15,q16,h⟩:=obs h
  have f17:=(hk 1 16 rfl).ret u9.cmd_ q16 rfl rfl
  apply dgk mixed hS [0,3,4] (ordp hpf (by kernel_rfl))
  ·exact di1 (an f11.1 (an f11.2.1 (an pf_33 (an f14 (ap1 16 hpf f17)))))
  refine rg hS [0,3,4] di ?_
  exact⟨(m7,(IntKind.wrap .i64 ((IntKind.wrap .i64 (n3+r12))+r15),IntKind.wrap .i64 (i4+1))),h,(Weak.norm (m:=0) (Nat.le_of_ble_eq_true rfl) kp hq rfl rfl),Nat.lt_succ_self _⟩
 ·refine exit ?_
  refine srg hS [2] di ?_
  cases h;exact ret fin
theorem g_F25{w25:Y6}{w61:Y7}(c:AllG env [(S61 w61),(S25 w25),(S34 F34)]):GoodH env (S25 (F25 w25 w61)):=by
 obtain⟨O,X,hS,hX,hpf,hk⟩:=orp c
 have pf_34:O.pf 34=true:=pft hpf 34 rfl
 have pf_61:O.pf 61=true:=pft hpf 61 rfl
 refine gh fn_25 53 ?_
 rintro(l1:(List Cmd)) (r:Int) h m em
 refine ghs em ?_;clear em m
 replace h:F25 w25 w61 l1=some r:=h
 rw[F25]at h
 refine srg hS [0] di ?_
 refine srg hS [0,3] di ?_
 refine seq ?_
 refine srg hS [0,3,4] di ?_
 refine block ?_
 refine lp (α:=Nat×Int×Int) (fun(_,n3,i4)=>⟨sl [(0,vC l1),(3,ai n3),(4,ai i4)],53,[]⟩) (fun x=>iter (F25_b2 l1 w61 w25) x.1 x.2=some r) (fun x=>x.1) (BIG,(0,0)) (Weak.slots kp) h ?_
 clear h
 intro⟨n34,n3,i4⟩ h
 replace h:=iter_some h;obtain⟨m7,rfl,h⟩:=h
 rw[F25_b2]at h
 try dsimp only at h
 refine AW.st ?_
 refine seq ?_
 refine srg hS [0,3,4,10] di ?_
 refine ifs h (fun hb8 h=>?_) fun hb8 h=>?_
 ·refine skip ?_
  refine seq ?_
  refine block ?_
  refine seq ?_
  obtain⟨u9,q10,h⟩:=obs h
  have f11:=lidx_f q10
  obtain⟨r12,q13,h⟩:=obs h
  have f14:=(hk 0 61 rfl).ret u9.words_ q13 rfl rfl
  obtain⟨r15,q16,h⟩:=obs h
  have f17:=(hk 1 25 rfl).ret u9.kids_ q16 rfl rfl
  refine dreg mixed hS (ordp hpf (by kernel_rfl)) [(0,vC l1),(3,ai n3),(4,ai i4),(5,ai (imax r12 r15))] [] ?_ ?_
  ·exact dk1 (an f11.1 (an f11.2.1 (an pf_61 (an f14 (ap1 25 hpf f17)))))
  refine seq ?_
  refine srg hS [0,3,4,5,6] di ?_
  refine block ?_
  refine lp (α:=Nat×Int×Int) (fun(_,d18,k19)=>⟨sl [(0,vC l1),(3,ai n3),(4,ai i4),(5,ai d18),(6,ai k19)],53,[]⟩) (fun x=>iter (F25_b3 u9 w61 (iter (F25_b2 l1 w61 w25) m7) n3 i4) x.1 x.2=some r) (fun x=>x.1) (BIG,(imax r12 r15,0)) (Weak.slots kp) h ?_
  clear h
  intro⟨n33,d18,k19⟩ h
  replace h:=iter_some h;obtain⟨m22,rfl,h⟩:=h
  rw[F25_b3]at h
  try dsimp only at h
  refine AW.st ?_
  refine seq ?_
  refine srg hS [0,3,4,5,6,33] (di1 (an f11.1 f11.2.1)) ?_
  refine ifs h (fun hb23 h=>?_) fun hb23 h=>?_
  ·refine skip ?_
   refine seq ?_
   refine block ?_
   obtain⟨u24,q25,h⟩:=obs h
   have f26:=lidx_f q25
   obtain⟨r27,q28,h⟩:=obs h
   have f29:=(hk 2 34 rfl).ret u24 q28 rfl rfl
   obtain⟨r30,q31,h⟩:=obs h
   have f32:=(hk 0 61 rfl).ret r27 q31 rfl rfl
   refine reg hS [(0,vC l1),(3,ai n3),(4,ai i4),(5,ai (imax d18 r30)),(6,ai k19)] [] (dk1 (an f11.1 (an f11.2.1 (an f26.1 (an f26.2.1 (an pf_34 (an f29 (ap1 61 hpf f32)))))))) ?_
   refine rg hS [0,3,4,5,6] di ?_
   exact⟨(m22,(imax d18 r30,IntKind.wrap .i64 (k19+1))),h,(Weak.norm (m:=0) (Nat.le_of_ble_eq_true rfl) kp hq rfl rfl),Nat.lt_succ_self _⟩
  ·refine exit ?_
   refine reg hS [(0,vC l1),(3,ai (imax n3 (IntKind.wrap .i64 (1+d18)))),(4,ai i4)] [] dk ?_
   refine rg hS [0,3,4] di ?_
   exact⟨(m7,(imax n3 (IntKind.wrap .i64 (1+d18)),IntKind.wrap .i64 (i4+1))),h,(Weak.norm (m:=0) (Nat.le_of_ble_eq_true rfl) kp hq rfl rfl),Nat.lt_succ_self _⟩
 ·refine exit ?_
  refine srg hS [2] di ?_
  cases h;exact ret fin
theorem g_F61{w25:Y6}{w61:Y7}(c:AllG env [(S61 w61),(S25 w25)]):GoodH env (S61 (F61 w25 w61)):=by
 obtain⟨O,X,hS,hX,hpf,hk⟩:=orp c
 have pf_61:O.pf 61=true:=pft hpf 61 rfl
 refine gh fn_61 28 ?_
 rintro(l1:(List Word)) (r:Int) h m em
 refine ghs em ?_;clear em m
 replace h:F61 w25 w61 l1=some r:=h
 rw[F61]at h
 refine srg hS [0] di ?_
 refine srg hS [0,3] di ?_
 refine seq ?_
 refine srg hS [0,3,4] di ?_
 refine block ?_
 refine lp (α:=Nat×Int×Int) (fun(_,n3,i4)=>⟨sl [(0,vWo l1),(3,ai n3),(4,ai i4)],28,[]⟩) (fun x=>iter (F61_b1 l1 w61 w25) x.1 x.2=some r) (fun x=>x.1) (BIG,(0,0)) (Weak.slots kp) h ?_
 clear h
 intro⟨n18,n3,i4⟩ h
 replace h:=iter_some h;obtain⟨m7,rfl,h⟩:=h
 rw[F61_b1]at h
 try dsimp only at h
 refine AW.st ?_
 refine seq ?_
 refine srg hS [0,3,4,8] di ?_
 refine ifs h (fun hb8 h=>?_) fun hb8 h=>?_
 ·refine skip ?_
  refine seq ?_
  refine block ?_
  obtain⟨u9,q10,h⟩:=obs h
  have f11:=lidx_f q10
  obtain⟨r12,q13,h⟩:=obs h
  have f14:=(hk 0 61 rfl).ret u9.words_ q13 rfl rfl
  obtain⟨r15,q16,h⟩:=obs h
  have f17:=(hk 1 25 rfl).ret u9.cmd_ q16 rfl rfl
  refine dreg mixed hS (ordp hpf (by kernel_rfl)) [(0,vWo l1),(3,ai (imax n3 (IntKind.wrap .i64 (1+(imax r12 r15))))),(4,ai i4)] [] ?_ ?_
  ·exact dk1 (an f11.1 (an f11.2.1 (an pf_61 (an f14 (ap1 25 hpf f17)))))
  refine rg hS [0,3,4] di ?_
  exact⟨(m7,(imax n3 (IntKind.wrap .i64 (1+(imax r12 r15))),IntKind.wrap .i64 (i4+1))),h,(Weak.norm (m:=0) (Nat.le_of_ble_eq_true rfl) kp hq rfl rfl),Nat.lt_succ_self _⟩
 ·refine exit ?_
  refine srg hS [2] di ?_
  cases h;exact ret fin
theorem g_F100(c:AllG env []):GoodH env (S100 F100):=by
 obtain⟨O,X,hS,hX,hpf,hk⟩:=orp c
 refine gh fn_100 24 ?_
 rintro(kind1:Int) (r:Int) h m em
 refine ghs em ?_;clear em m
 replace h:F100 kind1=some r:=h
 rw[F100]at h
 refine srg hS [0] di ?_
 refine seq ?_
 refine srg hS [3] di ?_
 refine block ?_
 refine seqM ⟨sl [(3,ai kind1),(4,ab (bif decide (kind1=1)then decide (kind1=1)else(bif decide (kind1=2)then decide (kind1=2)else(bif decide (kind1=7)then decide (kind1=7)else(bif decide (kind1=8)then decide (kind1=8)else(bif decide (kind1=9)then decide (kind1=9)else(bif decide (kind1=10)then decide (kind1=10)else(bif decide (kind1=11)then decide (kind1=11)else(bif decide (kind1=12)then decide (kind1=12)else(bif decide (kind1=13)then decide (kind1=13)else(bif decide (kind1=15)then decide (kind1=15)else(bif decide (kind1=16)then decide (kind1=16)else decide (kind1=17)))))))))))))],24,[]⟩ ?_ ?_
 ·refine srg hS [3,4] di ?_
  refine cond (b:=decide (kind1=1)) rfl (fun hb3=>?_) (fun hb3=>?_)
  ·refine skip ?_
   exact Weak.of_eq (Weak.slots (L:=[(3,ai kind1),(4,ab (decide (kind1=1)))]) kp) (wq hb3)
  ·refine srg hS [3,4] di ?_
   refine cond (b:=decide (kind1=2)) rfl (fun hb4=>?_) (fun hb4=>?_)
   ·refine skip ?_
    exact Weak.of_eq (Weak.slots (L:=[(3,ai kind1),(4,ab (decide (kind1=2)))]) kp) (by simp only[hb3,hb4,cond_true,cond_false,BOOLS,Bool.not_true,Bool.not_false]<;>rfl)
   ·refine srg hS [3,4] di ?_
    refine cond (b:=decide (kind1=7)) rfl (fun hb5=>?_) (fun hb5=>?_)
    ·refine skip ?_
     exact Weak.of_eq (Weak.slots (L:=[(3,ai kind1),(4,ab (decide (kind1=7)))]) kp) (by simp only[hb3,hb4,hb5,cond_true,cond_false,BOOLS,Bool.not_true,Bool.not_false]<;>rfl)
    ·refine srg hS [3,4] di ?_
     refine cond (b:=decide (kind1=8)) rfl (fun hb6=>?_) (fun hb6=>?_)
     ·refine skip ?_
      exact Weak.of_eq (Weak.slots (L:=[(3,ai kind1),(4,ab (decide (kind1=8)))]) kp) (by simp only[hb3,hb4,hb5,hb6,cond_true,cond_false,BOOLS,Bool.not_true,Bool.not_false]<;>rfl)
     ·refine srg hS [3,4] di ?_
      refine cond (b:=decide (kind1=9)) rfl (fun hb7=>?_) (fun hb7=>?_)
      ·refine skip ?_
       exact Weak.of_eq (Weak.slots (L:=[(3,ai kind1),(4,ab (decide (kind1=9)))]) kp) (by simp only[hb3,hb4,hb5,hb6,hb7,cond_true,cond_false,BOOLS,Bool.not_true,Bool.not_false]<;>rfl)
      ·refine srg hS [3,4] di ?_
       refine cond (b:=decide (kind1=10)) rfl (fun hb8=>?_) (fun hb8=>?_)
       ·refine skip ?_
        exact Weak.of_eq (Weak.slots (L:=[(3,ai kind1),(4,ab (decide (kind1=10)))]) kp) (by simp only[hb3,hb4,hb5,hb6,hb7,hb8,cond_true,cond_false,BOOLS,Bool.not_true,Bool.not_false]<;>rfl)
       ·refine srg hS [3,4] di ?_
        refine cond (b:=decide (kind1=11)) rfl (fun hb9=>?_) (fun hb9=>?_)
        ·refine skip ?_
         exact Weak.of_eq (Weak.slots (L:=[(3,ai kind1),(4,ab (decide (kind1=11)))]) kp) (by simp only[hb3,hb4,hb5,hb6,hb7,hb8,hb9,cond_true,cond_false,BOOLS,Bool.not_true,Bool.not_false]<;>rfl)
        ·refine srg hS [3,4] di ?_
         refine cond (b:=decide (kind1=12)) rfl (fun hb10=>?_) (fun hb10=>?_)
         ·refine skip ?_
          exact Weak.of_eq (Weak.slots (L:=[(3,ai kind1),(4,ab (decide (kind1=12)))]) kp) (by simp only[hb3,hb4,hb5,hb6,hb7,hb8,hb9,hb10,cond_true,cond_false,BOOLS,Bool.not_true,Bool.not_false]<;>rfl)
         ·refine srg hS [3,4] di ?_
          refine cond (b:=decide (kind1=13)) rfl (fun hb11=>?_) (fun hb11=>?_)
          ·refine skip ?_
           exact Weak.of_eq (Weak.slots (L:=[(3,ai kind1),(4,ab (decide (kind1=13)))]) kp) (by simp only[hb3,hb4,hb5,hb6,hb7,hb8,hb9,hb10,hb11,cond_true,cond_false,BOOLS,Bool.not_true,Bool.not_false]<;>rfl)
          ·refine srg hS [3,4] di ?_
           refine cond (b:=decide (kind1=15)) rfl (fun hb12=>?_) (fun hb12=>?_)
           ·refine skip ?_
            exact Weak.of_eq (Weak.slots (L:=[(3,ai kind1),(4,ab (decide (kind1=15)))]) kp) (by simp only[hb3,hb4,hb5,hb6,hb7,hb8,hb9,hb10,hb11,hb12,cond_true,cond_false,BOOLS,Bool.not_true,Bool.not_false]<;>rfl)
           ·refine srg hS [3,4] di ?_
            refine cond (b:=decide (kind1=16)) rfl (fun hb13=>?_) (fun hb13=>?_)
            ·refine skip ?_
             exact Weak.of_eq (Weak.slots (L:=[(3,ai kind1),(4,ab (decide (kind1=16)))]) kp) (by simp only[hb3,hb4,hb5,hb6,hb7,hb8,hb9,hb10,hb11,hb12,hb13,cond_true,cond_false,BOOLS,Bool.not_true,Bool.not_false]<;>rfl)
            ·refine rg hS [3,4] di ?_
             exact Weak.of_eq (Weak.slots (L:=[(3,ai kind1),(4,ab (decide (kind1=17)))]) kp) (by simp only[hb3,hb4,hb5,hb6,hb7,hb8,hb9,hb10,hb11,hb12,hb13,cond_true,cond_false,BOOLS,Bool.not_true,Bool.not_false]<;>rfl)
 refine ifs h (fun hb14 h=>?_) fun hb14 h=>?_
 ·refine srg hS [2] di ?_
  cases h;exact ret fin
 ·refine srg hS [3,17] di ?_
  refine ifs h (fun hb15 h=>?_) fun hb15 h=>?_
  ·refine srg hS [2] di ?_
   cases h;exact ret fin
  ·refine seqM ⟨sl [(3,ai kind1),(19,ab (bif decide (kind1=5)then decide (kind1=5)else decide (kind1=6)))],24,[]⟩ ?_ ?_
   ·refine srg hS [3,19] di ?_
    refine cond (b:=decide (kind1=5)) rfl (fun hb16=>?_) (fun hb16=>?_)
    ·refine skip ?_
     exact Weak.of_eq (Weak.slots (L:=[(3,ai kind1),(19,ab (decide (kind1=5)))]) kp) (wq hb16)
    ·refine rg hS [3,19] di ?_
     exact Weak.of_eq (Weak.slots (L:=[(3,ai kind1),(19,ab (decide (kind1=6)))]) kp) (wq hb16)
   refine ifs h (fun hb17 h=>?_) fun hb17 h=>?_
   ·refine srg hS [2] di ?_
    cases h;exact ret fin
   ·refine srg hS [22] di ?_
    refine ifk h (fun hb18 h=>?_) fun hb18 h=>?_
    ·refine srg hS [2] di ?_
     cases h;exact ret fin
    ·refine srg hS [2] di ?_
     cases h;exact ret fin
theorem g_F65{w101:Y4}(c:AllG env [(S100 F100),(S101 w101)]):GoodH env (S65 (F65 w101)):=by
 obtain⟨O,X,hS,hX,hpf,hk⟩:=orp c
 refine gh fn_65 34 ?_
 rintro⟨l1,most2⟩ (r:Bool) h m em
 refine ghs em ?_;clear em m
 replace h:F65 w101 l1 most2=some r:=h
 rw[F65]at h
 refine srg hS [0,1] di ?_
 refine seq ?_
 refine srg hS [0,1,5] di ?_
 refine block ?_
 refine lp (α:=Nat×Int) (fun(_,i4)=>⟨sl [(0,vC l1),(1,ai most2),(5,ai i4)],34,[]⟩) (fun x=>iter (F65_b1 l1 most2 w101) x.1 x.2=some r) (fun x=>x.1) (BIG,0) (Weak.slots kp) h ?_
 clear h
 intro⟨n19,i4⟩ h
 replace h:=iter_some h;obtain⟨m7,rfl,h⟩:=h
 rw[F65_b1]at h
 try dsimp only at h
 refine AW.st ?_
 refine seq ?_
 refine srg hS [0,1,5,10] di ?_
 refine ifs h (fun hb8 h=>?_) fun hb8 h=>?_
 ·refine skip ?_
  refine seq ?_
  refine block ?_
  refine seq ?_
  obtain⟨u9,q10,h⟩:=obs h
  have f11:=lidx_f q10
  obtain⟨r12,q13,h⟩:=obs h
  have f14:=(hk 0 100 rfl).ret u9.kind_ q13 rfl rfl
  refine rg hS [0,1,5,6] (di1 (an f11.1 (an f11.2.1 (ap1 100 hpf f14)))) ?_
  refine seq ?_
  obtain⟨r15,q16,h⟩:=obs h
  replace q16:=guardO_t q16
  have f17:=fun hg=>(hk 1 101 rfl).ret u9 (q16 hg) rfl rfl
  refine reg hS [(0,vC l1),(1,ai most2),(5,ai i4),(33,ab ((decide (r12<1)||decide (most2<r12))||!r15))] [] ?_ ?_
  ·clear h hk hS hX c
   exact dh1 (an f11.1 (an f11.2.1 (ap1 101 hpf f17)))
  refine ifk h (fun hb18 h=>?_) fun hb18 h=>?_
  ·refine srg hS [4] di ?_
   cases h;exact ret fin
  ·refine rg hS [0,1,5] di ?_
   exact⟨(m7,IntKind.wrap .i64 (i4+1)),h,(Weak.norm (m:=0) (Nat.le_of_ble_eq_true rfl) kp hq rfl rfl),Nat.lt_succ_self _⟩
 ·refine exit ?_
  refine srg hS [4] di ?_
  cases h;exact ret fin
theorem g_F30{w101:Y4}(c:AllG env [(S65 (F65 w101))]):GoodH env (S30 (F30 w101)):=by
 obtain⟨O,X,hS,hX,hpf,hk⟩:=orp c
 refine gh fn_30 5 ?_
 rintro(l1:(List Cmd)) (r:Bool) h m em
 refine ghs em ?_;clear em m
 replace h:F30 w101 l1=some r:=h
 rw[F30]at h
 refine srg hS [0] di ?_
 refine seq ?_
 obtain⟨r3,q4,h⟩:=obs h
 have f5:=(hk 0 65 rfl).ret (l1,4) q4 rfl rfl
 refine rg hS [2] (di1 (ap1 65 hpf f5)) ?_
 cases h;exact ret fin
theorem g_F172(c:AllG env []):GoodH env (S172 F172):=by
 obtain⟨O,X,hS,hX,hpf,hk⟩:=orp c
 refine gh fn_172 59 ?_
 rintro(s1:Str) (r:Bool) h m em
 refine ghs em ?_;clear em m
 replace h:F172 s1=some r:=h
 rw[F172]at h
 refine srg hS [0] di ?_
 refine seq ?_
 refine srg hS [0,3] di ?_
 refine block ?_
 refine lp (α:=Nat×Int) (fun(_,i3)=>⟨sl [(0,as_ s1),(3,ai i3)],59,[]⟩) (fun x=>iter (F172_b1 s1) x.1 x.2=some r) (fun x=>x.1) (BIG,0) (Weak.slots kp) h ?_
 clear h
 intro⟨n12,i3⟩ h
 replace h:=iter_some h;obtain⟨m6,rfl,h⟩:=h
 rw[F172_b1]at h
 try dsimp only at h
 refine AW.st ?_
 refine seq ?_
 refine srg hS [0,3,7] di ?_
 refine ifs h (fun hb7 h=>?_) fun hb7 h=>?_
 ·refine skip ?_
  refine seq ?_
  refine block ?_
  refine seq ?_
  obtain⟨c8,q9,h⟩:=obs h
  have f10:=sidx_f q9
  refine reg hS [(0,as_ s1),(3,ai i3),(56,ab (!(((((decide (97≤c8)&&decide (c8≤122))||(decide (65≤c8)&&decide (c8≤90)))||(decide (48≤c8)&&decide (c8≤57)))||decide (c8=95))||decide (c8=42))))] [] ?_ ?_
  ·clear h hk hS hX c
   exact dh1 (an f10.1 (an f10.2.1 f10.2.2))
  refine ifk h (fun hb11 h=>?_) fun hb11 h=>?_
  ·refine srg hS [2] di ?_
   cases h;exact ret fin
  ·refine rg hS [0,3] di ?_
   exact⟨(m6,IntKind.wrap .i64 (i3+1)),h,(Weak.norm (m:=0) (Nat.le_of_ble_eq_true rfl) kp hq rfl rfl),Nat.lt_succ_self _⟩
 ·refine exit ?_
  refine srg hS [2] di ?_
  cases h;exact ret fin
theorem g_F145(c:AllG env [(S172 F172)]):GoodH env (S145 F145):=by
 obtain⟨O,X,hS,hX,hpf,hk⟩:=orp c
 refine gh fn_145 133 ?_
 rintro(c1:Cmd) (r:Bool) h m em
 refine ghs em ?_;clear em m
 replace h:F145 c1=some r:=h
 rw[F145]at h
 refine srg hS [1] di ?_
 refine seq ?_
 apply dgk mixed hS [1,3,4] (ordp hpf (by kernel_rfl))
 ·exact di
 refine seq ?_
 refine reg hS [(1,.ref 0 0),(3,ai (c1.words_.length:Int)),(4,ai (c1.kids_.length:Int)),(5,ab ((decide (c1.kind_=2)||decide (c1.kind_=10))||decide (c1.kind_=15)))] [V6 c1] ?_ ?_
 ·clear h hk hS hX c
  exact dh
 refine seq ?_
 refine seq ?_
 obtain⟨r3,q4,h⟩:=obs h
 replace q4:=guardO_t q4
 have f5:=fun hg=>(hk 0 172 rfl).ret c1.name_ (q4 hg) rfl rfl
 refine reg hS [(1,.ref 0 0),(3,ai (c1.words_.length:Int)),(4,ai (c1.kids_.length:Int)),(56,ab (((((decide (c1.kind_=2)||decide (c1.kind_=10))||decide (c1.kind_=15))&&!r3)||(!((decide (c1.kind_=2)||decide (c1.kind_=10))||decide (c1.kind_=15))&&!decide (c1.name_=[])))||((decide (0<(c1.redirs_.length:Int))&&!decide (c1.kind_=1))&&!decide (c1.kind_=12))))] [V6 c1] ?_ ?_
 ·clear h hk hS hX c
  exact dh1 (ap1 172 hpf f5)
 refine ifk h (fun hb6 h=>?_) fun hb6 h=>?_
 ·refine srg hS [2] di ?_
  cases h;exact ret fin
 ·refine seq ?_
  refine srg hS [1,3,4,58] di ?_
  refine block ?_
  refine srg hS [1,3,4,58,59] di ?_
  refine ifs h (fun hb7 h=>?_) fun hb7 h=>?_
  ·refine seq ?_
   refine reg hS [(2,ab (decide (0<IntKind.wrap .i64 ((c1.words_.length:Int)+(c1.redirs_.length:Int)))&&decide ((c1.kids_.length:Int)=0)))] [V6 c1] ?_ ?_
   ·clear h hk hS hX c
    exact dh
   cases h;exact ret fin
  ·refine srg hS [1,3,4,58,71] di ?_
   refine ifs h (fun hb8 h=>?_) fun hb8 h=>?_
   ·refine seq ?_
    refine reg hS [(2,ab (decide ((c1.words_.length:Int)=1)&&decide ((c1.kids_.length:Int)≤1)))] [V6 c1] ?_ ?_
    ·clear h hk hS hX c
     exact dh
    cases h;exact ret fin
   ·refine seqM ⟨sl [(1,.ref 0 0),(3,ai (c1.words_.length:Int)),(4,ai (c1.kids_.length:Int)),(58,ai c1.kind_),(79,ab (bif decide (c1.kind_=7)then decide (c1.kind_=7)else(bif decide (c1.kind_=13)then decide (c1.kind_=13)else(bif decide (c1.kind_=9)then decide (c1.kind_=9)else decide (c1.kind_=14)))))],133,[V6 c1]⟩ ?_ ?_
    ·refine srg hS [1,3,4,58,79] di ?_
     refine cond (b:=decide (c1.kind_=7)) rfl (fun hb9=>?_) (fun hb9=>?_)
     ·refine skip ?_
      exact Weak.of_eq (Weak.slots (L:=[(1,.ref 0 0),(3,ai (c1.words_.length:Int)),(4,ai (c1.kids_.length:Int)),(58,ai c1.kind_),(79,ab (decide (c1.kind_=7)))]) kp) (wq hb9)
     ·refine srg hS [1,3,4,58,79] di ?_
      refine cond (b:=decide (c1.kind_=13)) rfl (fun hb10=>?_) (fun hb10=>?_)
      ·refine skip ?_
       exact Weak.of_eq (Weak.slots (L:=[(1,.ref 0 0),(3,ai (c1.words_.length:Int)),(4,ai (c1.kids_.length:Int)),(58,ai c1.kind_),(79,ab (decide (c1.kind_=13)))]) kp) (by simp only[hb9,hb10,cond_true,cond_false,BOOLS,Bool.not_true,Bool.not_false]<;>rfl)
      ·refine srg hS [1,3,4,58,79] di ?_
       refine cond (b:=decide (c1.kind_=9)) rfl (fun hb11=>?_) (fun hb11=>?_)
       ·refine skip ?_
        exact Weak.of_eq (Weak.slots (L:=[(1,.ref 0 0),(3,ai (c1.words_.length:Int)),(4,ai (c1.kids_.length:Int)),(58,ai c1.kind_),(79,ab (decide (c1.kind_=9)))]) kp) (by simp only[hb9,hb10,hb11,cond_true,cond_false,BOOLS,Bool.not_true,Bool.not_false]<;>rfl)
       ·refine rg hS [1,3,4,58,79] di ?_
        exact Weak.of_eq (Weak.slots (L:=[(1,.ref 0 0),(3,ai (c1.words_.length:Int)),(4,ai (c1.kids_.length:Int)),(58,ai c1.kind_),(79,ab (decide (c1.kind_=14)))]) kp) (by simp only[hb9,hb10,hb11,cond_true,cond_false,BOOLS,Bool.not_true,Bool.not_false]<;>rfl)
    refine ifs h (fun hb12 h=>?_) fun hb12 h=>?_
    ·refine seq ?_
     refine reg hS [(2,ab (decide ((c1.words_.length:Int)=0)&&decide ((c1.kids_.length:Int)=1)))] [V6 c1] ?_ ?_
     ·clear h hk hS hX c
      exact dh
     cases h;exact ret fin
    ·refine seqM ⟨sl [(1,.ref 0 0),(3,ai (c1.words_.length:Int)),(4,ai (c1.kids_.length:Int)),(58,ai c1.kind_),(90,ab (bif decide (c1.kind_=8)then decide (c1.kind_=8)else(bif decide (c1.kind_=11)then decide (c1.kind_=11)else(bif decide (c1.kind_=5)then decide (c1.kind_=5)else decide (c1.kind_=6)))))],133,[V6 c1]⟩ ?_ ?_
     ·refine srg hS [1,3,4,58,90] di ?_
      refine cond (b:=decide (c1.kind_=8)) rfl (fun hb13=>?_) (fun hb13=>?_)
      ·refine skip ?_
       exact Weak.of_eq (Weak.slots (L:=[(1,.ref 0 0),(3,ai (c1.words_.length:Int)),(4,ai (c1.kids_.length:Int)),(58,ai c1.kind_),(90,ab (decide (c1.kind_=8)))]) kp) (wq hb13)
      ·refine srg hS [1,3,4,58,90] di ?_
       refine cond (b:=decide (c1.kind_=11)) rfl (fun hb14=>?_) (fun hb14=>?_)
       ·refine skip ?_
        exact Weak.of_eq (Weak.slots (L:=[(1,.ref 0 0),(3,ai (c1.words_.length:Int)),(4,ai (c1.kids_.length:Int)),(58,ai c1.kind_),(90,ab (decide (c1.kind_=11)))]) kp) (by simp only[hb13,hb14,cond_true,cond_false,BOOLS,Bool.not_true,Bool.not_false]<;>rfl)
       ·refine srg hS [1,3,4,58,90] di ?_
        refine cond (b:=decide (c1.kind_=5)) rfl (fun hb15=>?_) (fun hb15=>?_)
        ·refine skip ?_
         exact Weak.of_eq (Weak.slots (L:=[(1,.ref 0 0),(3,ai (c1.words_.length:Int)),(4,ai (c1.kids_.length:Int)),(58,ai c1.kind_),(90,ab (decide (c1.kind_=5)))]) kp) (by simp only[hb13,hb14,hb15,cond_true,cond_false,BOOLS,Bool.not_true,Bool.not_false]<;>rfl)
        ·refine rg hS [1,3,4,58,90] di ?_
         exact Weak.of_eq (Weak.slots (L:=[(1,.ref 0 0),(3,ai (c1.words_.length:Int)),(4,ai (c1.kids_.length:Int)),(58,ai c1.kind_),(90,ab (decide (c1.kind_=6)))]) kp) (by simp only[hb13,hb14,hb15,cond_true,cond_false,BOOLS,Bool.not_true,Bool.not_false]<;>rfl)
     refine ifs h (fun hb16 h=>?_) fun hb16 h=>?_
     ·refine seq ?_
      refine reg hS [(2,ab (decide ((c1.words_.length:Int)=0)&&decide ((c1.kids_.length:Int)=2)))] [V6 c1] ?_ ?_
      ·clear h hk hS hX c
       exact dh
      cases h;exact ret fin
     ·refine srg hS [1,3,4,58,101] di ?_
      refine ifs h (fun hb17 h=>?_) fun hb17 h=>?_
      ·refine srg hS [2] di ?_
       cases h;exact ret fin
      ·refine seqM ⟨sl [(1,.ref 0 0),(3,ai (c1.words_.length:Int)),(4,ai (c1.kids_.length:Int)),(58,ai c1.kind_),(105,ab (bif decide (c1.kind_=12)then decide (c1.kind_=12)else decide (c1.kind_=15)))],133,[V6 c1]⟩ ?_ ?_
       ·refine srg hS [1,3,4,58,105] di ?_
        refine cond (b:=decide (c1.kind_=12)) rfl (fun hb18=>?_) (fun hb18=>?_)
        ·refine skip ?_
         exact Weak.of_eq (Weak.slots (L:=[(1,.ref 0 0),(3,ai (c1.words_.length:Int)),(4,ai (c1.kids_.length:Int)),(58,ai c1.kind_),(105,ab (decide (c1.kind_=12)))]) kp) (wq hb18)
        ·refine rg hS [1,3,4,58,105] di ?_
         exact Weak.of_eq (Weak.slots (L:=[(1,.ref 0 0),(3,ai (c1.words_.length:Int)),(4,ai (c1.kids_.length:Int)),(58,ai c1.kind_),(105,ab (decide (c1.kind_=15)))]) kp) (wq hb18)
       refine ifs h (fun hb19 h=>?_) fun hb19 h=>?_
       ·refine srg hS [2] di ?_
        cases h;exact ret fin
       ·refine srg hS [1,3,4,58,110] di ?_
        refine ifs h (fun hb20 h=>?_) fun hb20 h=>?_
        ·refine seq ?_
         refine reg hS [(2,ab (decide ((c1.words_.length:Int)=0)&&decide (2≤(c1.kids_.length:Int))))] [V6 c1] ?_ ?_
         ·clear h hk hS hX c
          exact dh
         cases h;exact ret fin
        ·refine srg hS [1,3,4,118] di ?_
         refine ifk h (fun hb21 h=>?_) fun hb21 h=>?_
         ·refine seq ?_
          refine reg hS [(2,ab (decide (0<(c1.words_.length:Int))&&decide ((c1.kids_.length:Int)=0)))] [V6 c1] ?_ ?_
          ·clear h hk hS hX c
           exact dh
          cases h;exact ret fin
         ·refine seq ?_
          refine reg hS [(2,ab (decide (c1.kind_=17)&&decide ((c1.words_.length:Int)=1)))] [V6 c1] ?_ ?_
          ·clear h hk hS hX c
           exact dh
          cases h;exact ret fin
theorem g_F146{w184:Y3}(c:AllG env [(S184 w184)]):GoodH env (S146 (F146 w184)):=by
 obtain⟨O,X,hS,hX,hpf,hk⟩:=orp c
 refine gh fn_146 16 ?_
 rintro(l1:(List Word)) (r:Bool) h m em
 refine ghs em ?_;clear em m
 replace h:F146 w184 l1=some r:=h
 rw[F146]at h
 refine srg hS [0] di ?_
 refine seq ?_
 refine srg hS [0,3] di ?_
 refine block ?_
 refine lp (α:=Nat×Int) (fun(_,i3)=>⟨sl [(0,vWo l1),(3,ai i3)],16,[]⟩) (fun x=>iter (F146_b1 l1 w184) x.1 x.2=some r) (fun x=>x.1) (BIG,0) (Weak.slots kp) h ?_
 clear h
 intro⟨n15,i3⟩ h
 replace h:=iter_some h;obtain⟨m6,rfl,h⟩:=h
 rw[F146_b1]at h
 try dsimp only at h
 refine AW.st ?_
 refine seq ?_
 refine srg hS [0,3,7] di ?_
 refine ifs h (fun hb7 h=>?_) fun hb7 h=>?_
 ·refine skip ?_
  refine seq ?_
  refine block ?_
  refine seq ?_
  obtain⟨u8,q9,h⟩:=obs h
  have f10:=lidx_f q9
  obtain⟨r11,q12,h⟩:=obs h
  have f13:=(hk 0 184 rfl).ret u8 q12 rfl rfl
  refine rg hS [0,3,15] (di1 (an f10.1 (an f10.2.1 (ap1 184 hpf f13)))) ?_
  refine ifk h (fun hb14 h=>?_) fun hb14 h=>?_
  ·refine srg hS [2] di ?_
   cases h;exact ret fin
  ·refine rg hS [0,3] di ?_
   exact⟨(m6,IntKind.wrap .i64 (i3+1)),h,(Weak.norm (m:=0) (Nat.le_of_ble_eq_true rfl) kp hq rfl rfl),Nat.lt_succ_self _⟩
 ·refine exit ?_
  refine srg hS [2] di ?_
  cases h;exact ret fin
theorem g_F185(c:AllG env []):GoodH env (S185 F185):=by
 obtain⟨O,X,hS,hX,hpf,hk⟩:=orp c
 refine gh fn_185 26 ?_
 rintro(w1:Word) (r:Bool) h m em
 refine ghs em ?_;clear em m
 replace h:F185 w1=some r:=h
 rw[F185]at h
 refine srg hS [1] di ?_
 refine seq ?_
 refine reg hS [(2,ab (((decide (w1.kind_=0)&&decide (w1.text_=[]))&&decide (w1.quoted_=[]))&&decide (IntKind.wrap .i64 ((w1.words_.length:Int)+(w1.cmd_.length:Int))=0)))] [V17 w1] ?_ ?_
 ·clear h hk hS hX c
  exact dh
 cases h;exact ret fin
theorem g_F186(c:AllG env []):GoodH env (S186 F186):=by
 obtain⟨O,X,hS,hX,hpf,hk⟩:=orp c
 refine gh fn_186 13 ?_
 rintro(n1:Int) (r:Str) h m em
 refine ghs em ?_;clear em m
 replace h:F186 n1=some r:=h
 rw[F186]at h
 refine srg hS [0] di ?_
 refine srg hS [0,3] di ?_
 refine seq ?_
 refine srg hS [0,3,4] di ?_
 refine block ?_
 refine lp (α:=Nat×Str×Int) (fun(_,s3,i4)=>⟨sl [(0,ai n1),(3,as_ s3),(4,ai i4)],13,[]⟩) (fun x=>iter (F186_b1 n1) x.1 x.2=some r) (fun x=>x.1) (BIG,([],0)) (Weak.slots kp) h ?_
 clear h
 intro⟨n12,s3,i4⟩ h
 replace h:=iter_some h;obtain⟨m7,rfl,h⟩:=h
 rw[F186_b1]at h
 try dsimp only at h
 refine AW.st ?_
 refine seq ?_
 refine srg hS [0,3,4,7] di ?_
 refine ifs h (fun hb8 h=>?_) fun hb8 h=>?_
 ·refine skip ?_
  refine seq ?_
  refine block ?_
  obtain⟨s9,q10,h⟩:=obs h
  have f11:=catO_f q10
  try simp only[LNS,List.length_replicate,Nat.reduceAdd,Nat.reduceLeDiff,Nat.add_zero,Nat.reduceMul]at f11
  refine rg hS [0,3,4] (di1 (an f11.1 f11.2)) ?_
  refine rg hS [0,3,4] di ?_
  exact⟨(m7,(s9,IntKind.wrap .i64 (i4+1))),h,(Weak.norm (m:=0) (Nat.le_of_ble_eq_true rfl) kp hq rfl rfl),Nat.lt_succ_self _⟩
 ·refine exit ?_
  refine srg hS [2] di ?_
  cases h;exact ret fin
theorem g_F147{w184:Y3}(c:AllG env [(S184 w184),(S185 F185),(S186 F186)]):GoodH env (S147 (F147 w184)):=by
 obtain⟨O,X,hS,hX,hpf,hk⟩:=orp c
 have pf_186:O.pf 186=true:=pft hpf 186 rfl
 refine gh fn_147 101 ?_
 rintro(d1:Redir) (r:Bool) h m em
 refine ghs em ?_;clear em m
 replace h:F147 w184 d1=some r:=h
 rw[F147]at h
 refine srg hS [1] di ?_
 refine seq ?_
 refine seq ?_
 refine reg hS [(1,.ref 0 0),(41,ab (((((decide (d1.fd_<0)||decide (64≤d1.fd_))||decide (d1.from_<0))||decide (64≤d1.from_))||(!decide (d1.kind_=5)&&!decide (d1.from_=0)))||(!decide (d1.kind_=4)&&d1.raw_)))] [V16 d1] ?_ ?_
 ·clear h hk hS hX c
  exact dh
 refine ifk h (fun hb3 h=>?_) fun hb3 h=>?_
 ·refine srg hS [2] di ?_
  cases h;exact ret fin
 ·refine seq ?_
  refine srg hS [1,43] di ?_
  refine block ?_
  refine seqM ⟨sl [(1,.ref 0 0),(43,ai d1.kind_),(44,ab (bif decide (d1.kind_=1)then decide (d1.kind_=1)else(bif decide (d1.kind_=2)then decide (d1.kind_=2)else decide (d1.kind_=3))))],101,[V16 d1]⟩ ?_ ?_
  ·refine srg hS [1,43,44] di ?_
   refine cond (b:=decide (d1.kind_=1)) rfl (fun hb4=>?_) (fun hb4=>?_)
   ·refine skip ?_
    exact Weak.of_eq (Weak.slots (L:=[(1,.ref 0 0),(43,ai d1.kind_),(44,ab (decide (d1.kind_=1)))]) kp) (wq hb4)
   ·refine srg hS [1,43,44] di ?_
    refine cond (b:=decide (d1.kind_=2)) rfl (fun hb5=>?_) (fun hb5=>?_)
    ·refine skip ?_
     exact Weak.of_eq (Weak.slots (L:=[(1,.ref 0 0),(43,ai d1.kind_),(44,ab (decide (d1.kind_=2)))]) kp) (by simp only[hb4,hb5,cond_true,cond_false,BOOLS,Bool.not_true,Bool.not_false]<;>rfl)
    ·refine rg hS [1,43,44] di ?_
     exact Weak.of_eq (Weak.slots (L:=[(1,.ref 0 0),(43,ai d1.kind_),(44,ab (decide (d1.kind_=3)))]) kp) (by simp only[hb4,hb5,cond_true,cond_false,BOOLS,Bool.not_true,Bool.not_false]<;>rfl)
  refine ifs h (fun hb6 h=>?_) fun hb6 h=>?_
  ·refine seq ?_
   obtain⟨r7,q8,h⟩:=obs h
   have f9:=(hk 0 184 rfl).ret d1.word_ q8 rfl rfl
   refine rg hS [2] (di1 (ap1 184 hpf f9)) ?_
   cases h;exact ret fin
  ·refine seqM ⟨sl [(1,.ref 0 0),(43,ai d1.kind_),(51,ab (bif decide (d1.kind_=5)then decide (d1.kind_=5)else decide (d1.kind_=6)))],101,[V16 d1]⟩ ?_ ?_
   ·refine srg hS [1,43,51] di ?_
    refine cond (b:=decide (d1.kind_=5)) rfl (fun hb10=>?_) (fun hb10=>?_)
    ·refine skip ?_
     exact Weak.of_eq (Weak.slots (L:=[(1,.ref 0 0),(43,ai d1.kind_),(51,ab (decide (d1.kind_=5)))]) kp) (wq hb10)
    ·refine rg hS [1,43,51] di ?_
     exact Weak.of_eq (Weak.slots (L:=[(1,.ref 0 0),(43,ai d1.kind_),(51,ab (decide (d1.kind_=6)))]) kp) (wq hb10)
   refine ifs h (fun hb11 h=>?_) fun hb11 h=>?_
   ·refine seq ?_
    obtain⟨r12,q13,h⟩:=obs h
    have f14:=(hk 1 185 rfl).ret d1.word_ q13 rfl rfl
    refine rg hS [2] (di1 (ap1 185 hpf f14)) ?_
    cases h;exact ret fin
   ·refine srg hS [1,57] di ?_
    refine ifk h (fun hb15 h=>?_) fun hb15 h=>?_
    ·refine srg hS [1,3] di ?_
     refine srg hS [1,3,4] di ?_
     refine seq ?_
     obtain⟨r16,q17,h⟩:=obs h
     replace q17:=guardO_t q17
     have f18:=fun hg=>(hk 2 186 rfl).ret (d1.word_.text_.length:Int) (q17 hg) rfl rfl
     obtain⟨c19,q20,h⟩:=obs h
     have f21:=sidx_g (guardO_t q20)
     refine dreg mixed hS (ordp hpf (by kernel_rfl)) [(2,ab ((((decide (d1.fd_=0)&&decide (d1.word_.kind_=1))&&decide (d1.word_.quoted_=r16))&&decide (IntKind.wrap .i64 ((d1.word_.words_.length:Int)+(d1.word_.cmd_.length:Int))=0))&&(decide ((d1.word_.text_.length:Int)=0)||decide (c19=10))))] [V16 d1,V18 d1] ?_ ?_
     ·clear h hk hS hX c
      exact dh1 (an pf_186 (an f18 (an f21.1 (an f21.2.1 f21.2.2))))
     cases h;exact ret fin
    ·refine srg hS [2] di ?_
     cases h;exact ret fin
theorem g_F187(c:AllG env []):GoodH env (S187 F187):=by
 obtain⟨O,X,hS,hX,hpf,hk⟩:=orp c
 refine gh fn_187 29 ?_
 rintro(s1:Str) (r:Bool) h m em
 refine ghs em ?_;clear em m
 replace h:F187 s1=some r:=h
 rw[F187]at h
 refine srg hS [0] di ?_
 refine seq ?_
 refine reg hS [(2,ab ((((((decide (s1=[105,102])||decide (s1=[119,104,105,108,101]))||decide (s1=[102,111,114]))||decide (s1=[115,119,105,116,99,104]))||decide (s1=[99,97,115,101]))||decide (s1=[102,110]))||decide (s1=[126])))] [] ?_ ?_
 ·clear h hk hS hX c
  exact dh
 cases h;exact ret fin
end Go.Abs.U48
