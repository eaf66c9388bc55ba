import Derived.Test.YtljahlbklgnfhaaGreatDoorD1
set_option linter.unusedVariables false
set_option linter.unusedSimpArgs false
set_option linter.defProp false
set_option maxRecDepth 8000
set_option maxHeartbeats 4000000
namespace Go.Abs.U48
open Go.RowKit Go.Proofs AW
theorem g_F77(c:AllG env [(S39x2 F39x2),(S42 F42),SL_IndexByte,(S125 F125),(S73x2 F73x2)]):GoodH env (S77 F77):=by
 obtain⟨O,X,hS,hX,hpf,hk⟩:=orp c
 refine gh fn_77 73 ?_
 rintro⟨x1,x2,x3,x4,x5,l6,l7⟩ (r:Str×Bool×Int×Int) h m em
 refine ghs em ?_;clear em m
 replace h:F77 x1 x2 x3 x4 x5 l6 l7=some r:=h
 rw[F77]at h
 refine srg hS [0] di ?_
 refine seq ?_
 obtain⟨r12,q13,h⟩:=obs h
 have f14:=(hk 0 39 rfl).ret (x1,x2,x3,x4,x5,l6,l7) q13 rfl rfl
 have e15:ecall O [V0 x1 x2 l6.length l7.length x3 x4 x5,rTo l6,rSt l7] 39 [.ref 0 0]=some (retAV [as_ r12],[V0 x1 x2 l6.length l7.length x3 x4 x5,rTo l6,rSt l7]):=ecall_eq rfl rfl rfl f14 rfl rfl rfl
 refine rg hS [0,4] (di1 (ap0 39 hpf e15)) ?_
 refine seq ?_
 refine srg hS [0,4,12,13,14] di ?_
 refine block ?_
 refine lp (α:=Nat×Int) (fun(_,i16)=>⟨sl [(0,.ref 0 0),(4,as_ r12),(12,.full (List.map PV.str [[38,38],[124,124],[36,35]])),(13,ai ([[38,38],[124,124],[36,35]].length:Int)),(14,ai i16)],73,[V0 x1 x2 l6.length l7.length x3 x4 x5,rTo l6,rSt l7]⟩) (fun x=>iter (F77_b1 r12 x4 x5 x2 x1 x3 l6 l7) x.1 x.2=some r) (fun x=>x.1) (BIG,0) (Weak.slots kp) h ?_
 clear h
 intro⟨n72,i16⟩ h
 replace h:=iter_some h;obtain⟨m19,rfl,h⟩:=h
 rw[F77_b1]at h
 try dsimp only at h
 refine AW.st ?_
 refine srg hS [0,4,12,13,14,15] di ?_
 refine seq ?_
 refine ifs h (fun hb20 h=>?_) fun hb20 h=>?_
 ·refine skip ?_
  refine seq ?_
  refine block ?_
  refine seq ?_
  obtain⟨w21,q22,h⟩:=obs h
  have f23:=lidx_f q22
  have f23m:(List.map PV.str [[38,38],[124,124],[36,35]])[Int.toNat i16]?=some (PV.str w21):=by rw[List.getElem?_map,f23.2.1];rfl
  try simp only[List.map_cons,List.map_nil]at f23m
  refine rg hS [0,4,6,12,13,14] (di1 (an f23.1 (an f23.2.1 f23m))) ?_
  refine seq ?_
  obtain⟨r24,q25,h⟩:=obs h
  have f26:=(hk 1 42 rfl).ret (r12,w21) q25 rfl rfl
  refine rg hS [0,4,6,12,13,14,20] (di1 (ap1 42 hpf f26)) ?_
  refine ifk h (fun hb27 h=>?_) fun hb27 h=>?_
  ·refine srg hS [2,3] di ?_
   cases h;exact ret fin
  ·refine rg hS [0,4,12,13,14] di ?_
   exact⟨(m19,IntKind.wrap .i64 (i16+1)),h,(Weak.norm (m:=3) (Nat.le_of_ble_eq_true rfl) kp hq rfl rfl),Nat.lt_succ_self _⟩
 ·refine exit ?_
  refine seq ?_
  refine srg hS [0,4,24] di ?_
  refine ifk h (fun hb28 h=>?_) fun hb28 h=>?_
  ·refine srg hS [2,3] di ?_
   cases h;exact ret fin
  ·refine seq ?_
   refine seq ?_
   obtain⟨c29,q30,h⟩:=obs h
   have f31:=sidx_f q30
   try simp only[NRM,Int.reduceToNat]at f31
   obtain⟨n32,q33,h⟩:=obs h
   have f34:=(hk 2 40 rfl).ret (([59,38,40,41,123,125,61,94,96,36,33,64]:Str),c29) q33 rfl rfl
   try simp only[PVE]at f34
   refine rg hS [0,4,28] (di1 (an f31.1 (an f31.2.1 (an f31.2.2 (ap1 40 hpf f34))))) ?_
   refine ifk h (fun hb35 h=>?_) fun hb35 h=>?_
   ·refine seq ?_
    obtain⟨t36,q37,h⟩:=obs h
    have f38:=sslice_f q37
    try simp only[NRM,Int.reduceToNat]at f38
    have f38e:=f38.2.2.2.2
    try simp only[NRM,Int.reduceToNat]at f38e
    have f38l:=f38.2.2.1
    try simp only[NRM,Int.reduceToNat]at f38l
    refine rg hS [2,3] (di1 (an f38.1 (an f38.2.1 (an f38l (an f38.2.2.2.1 f38e))))) ?_
    cases h;exact ret fin
   ·refine seq ?_
    refine srg hS [0,4,31,32,33] di ?_
    refine block ?_
    refine lp (α:=Nat×Int) (fun(_,i39)=>⟨sl [(0,.ref 0 0),(4,as_ r12),(31,.full (List.map PV.str [[62,62],[62],[60],[124]])),(32,ai ([[62,62],[62],[60],[124]].length:Int)),(33,ai i39)],73,[V0 x1 x2 l6.length l7.length x3 x4 x5,rTo l6,rSt l7]⟩) (fun x=>iter (F77_b2 r12 x4 x5 x2 x1 x3 l6 l7) x.1 x.2=some r) (fun x=>x.1) (BIG,0) (Weak.slots kp) h ?_
    clear h
    intro⟨n71,i39⟩ h
    replace h:=iter_some h;obtain⟨m42,rfl,h⟩:=h
    rw[F77_b2]at h
    try dsimp only at h
    refine AW.st ?_
    refine srg hS [0,4,31,32,33,34] di ?_
    refine seq ?_
    refine ifs h (fun hb43 h=>?_) fun hb43 h=>?_
    ·refine skip ?_
     refine seq ?_
     refine block ?_
     refine seq ?_
     obtain⟨w44,q45,h⟩:=obs h
     have f46:=lidx_f q45
     have f46m:(List.map PV.str [[62,62],[62],[60],[124]])[Int.toNat i39]?=some (PV.str w44):=by rw[List.getElem?_map,f46.2.1];rfl
     try simp only[List.map_cons,List.map_nil]at f46m
     refine rg hS [0,4,8,31,32,33] (di1 (an f46.1 (an f46.2.1 f46m))) ?_
     refine seq ?_
     refine seq ?_
     obtain⟨r47,q48,h⟩:=obs h
     have f49:=(hk 1 42 rfl).ret (r12,w44) q48 rfl rfl
     refine rg hS [0,4,8,31,32,33,40] (di1 (ap1 42 hpf f49)) ?_
     refine ifk h (fun hb50 h=>?_) fun hb50 h=>?_
     ·refine exit ?_
      refine rg hS [0,4,31,32,33] di ?_
      exact⟨(m42,IntKind.wrap .i64 (i39+1)),h,(Weak.norm (m:=3) (Nat.le_of_ble_eq_true rfl) kp hq rfl rfl),Nat.lt_succ_self _⟩
     ·refine seq ?_
      refine seq ?_
      obtain⟨t51,q52,h⟩:=obs h
      have f53:=sslice_f q52
      try simp only[NRM,Int.reduceToNat]at f53
      have f53e:=f53.2.2.2.2
      try simp only[NRM,Int.reduceToNat]at f53e
      have f53l:=f53.2.2.1
      try simp only[NRM,Int.reduceToNat]at f53l
      obtain⟨r54,q55,h⟩:=obs h
      have f56:=(hk 1 42 rfl).ret (t51,([91]:Str)) q55 rfl rfl
      try simp only[PVE]at f56
      refine rg hS [0,4,8,46] (di1 (an f53.1 (an f53.2.1 (an f53l (an f53.2.2.2.1 (an f53e (ap1 42 hpf f56))))))) ?_
      refine ifk h (fun hb57 h=>?_) fun hb57 h=>?_
      ·refine srg hS [2,3] di ?_
       cases h;exact ret fin
      ·refine seq ?_
       try simp only[NRM,Int.reduceToNat]at f53
       have f53e:=f53.2.2.2.2
       try simp only[NRM,Int.reduceToNat]at f53e
       have f53l:=f53.2.2.1
       try simp only[NRM,Int.reduceToNat]at f53l
       obtain⟨r58,q59,h⟩:=obs h
       have f60:=(hk 3 125 rfl).ret (t51,!decide (w44=[124])) q59 rfl rfl
       refine rg hS [0,4,8,9] (di1 (an f53.1 (an f53.2.1 (an f53l (an f53.2.2.2.1 (an f53e (ap1 125 hpf f60))))))) ?_
       refine seq ?_
       refine srg hS [0,4,8,9,56] di ?_
       refine ifk h (fun hb61 h=>?_) fun hb61 h=>?_
       ·refine seq ?_
        obtain⟨⟨r62,x63,x64⟩,q65,h⟩:=obs h
        dsimp only at h
        have f66:=(hk 4 73 rfl).ret (IntKind.wrap .i64 (x2+(w44.length:Int)),47,x1,x2,x3,x4,x5,l6,l7) q65 rfl rfl
        have e67:ecall O [V0 x1 x2 l6.length l7.length x3 x4 x5,rTo l6,rSt l7] 73 [.ref 0 0,ai (IntKind.wrap .i64 (x2+(w44.length:Int))),ai 47]=some (retAV [ab r62],[V0 x1 x2 l6.length l7.length x3 x63 x64,rTo l6,rSt l7]):=ecall_eq rfl rfl rfl f66 rfl rfl rfl
        refine rg hS [2,3] (di1 (ap0 73 hpf e67)) ?_
        cases h;exact ret fin
       ·refine seq ?_
        obtain⟨t68,q69,h⟩:=obs h
        have f70:=sslice_f q69
        try simp only[NRM,Int.reduceToNat]at f70
        have f70e:=f70.2.2.2.2
        try simp only[NRM,Int.reduceToNat]at f70e
        have f70l:=f70.2.2.1
        try simp only[NRM,Int.reduceToNat]at f70l
        refine rg hS [2,3] (di1 (an f70.1 (an f70.2.1 (an f70l (an f70.2.2.2.1 f70e))))) ?_
        cases h;exact ret fin
    ·refine exit ?_
     refine srg hS [2,3] di ?_
     cases h;exact ret fin
theorem g_F78(c:AllG env [SL_IndexByte,(S71x2 F71x2)]):GoodH env (S78 F78):=by
 obtain⟨O,X,hS,hX,hpf,hk⟩:=orp c
 refine gh fn_78 43 ?_
 rintro⟨t1,touches2,x3,x4,x5,x6,x7,l8,l9⟩ (r:Bool×Int×Int×(List Token)) h m em
 refine ghs em ?_;clear em m
 replace h:F78 t1 touches2 x3 x4 x5 x6 x7 l8 l9=some r:=h
 rw[F78]at h
 refine srg hS [0,2,4] di ?_
 refine seq ?_
 obtain⟨c14,q15,h⟩:=obs h
 have f16:=sidx_g (guardO_t q15)
 try simp only[NRM,Int.reduceToNat]at f16
 obtain⟨n17,q18,h⟩:=obs h
 replace q18:=guardO_t q18
 have f19:=fun hg=>(hk 0 40 rfl).ret (([36,96]:Str),c14) (q18 hg) rfl rfl
 try simp only[PVE]at f19
 refine reg hS [(0,.ref 0 0),(2,ab touches2),(4,.ref 3 0),(7,ab (decide (t1.kind_=1)||((decide (t1.kind_=2)&&!decide (t1.text_=[]))&&decide (0≤n17))))] [V0 x3 x4 l8.length l9.length x5 x6 x7,rTo l8,rSt l9,V1 t1] ?_ ?_
 ·clear h hk hS hX c
  exact dh1 (an f16.1 (an f16.2.1 (an f16.2.2 (ap1 40 hpf f19))))
 refine seq ?_
 refine seq ?_
 refine AW.cases ((touches2&&(decide (t1.kind_=1)||((decide (t1.kind_=2)&&!decide (t1.text_=[]))&&decide (0≤n17))))) (fun hsp3=>?_) (fun hsp3=>?_)
 ·replace h:=bif_t hsp3 h
  try simp only[Bool.and_eq_true,Bool.or_eq_false_iff]at hsp3
  obtain⟨⟨r20,x21,x22,o23⟩,q24,h⟩:=obs h
  dsimp only at h
  have f25:=(hk 1 71 rfl).ret (Token.mk 2 t1.at_ [94] [],x3,x4,x5,x6,x7,l8,l9) q24 rfl rfl
  try simp only[PVE]at f25
  have e26:ecall O [V0 x3 x4 l8.length l9.length x5 x6 x7,rTo l8,rSt l9,V1 t1] 71 [.ref 0 0,.pv (PV.agg [.int .i64 2,.int .i64 t1.at_,.str [94],.str []])]=some (retAV [ab r20],[V0 x3 x4 o23.length l9.length x5 x21 x22,rTo o23,rSt l9,V1 t1]):=ecall_eq rfl rfl rfl f25 rfl rfl rfl
  refine reg hS [(0,.ref 0 0),(4,.ref 3 0),(39,ab (!r20))] [V0 x3 x4 o23.length l9.length x5 x21 x22,rTo o23,rSt l9,V1 t1] ?_ ?_
  ·clear h hk hS hX c
   exact dh1 (an hsp3 (ap0 71 hpf e26))
  refine ifk h (fun hb27 h=>?_) fun hb27 h=>?_
  ·refine srg hS [6] di ?_
   cases h;exact ret fin
  ·refine seq ?_
   obtain⟨⟨r28,x29,x30,o31⟩,q32,h⟩:=obs h
   dsimp only at h
   have f33:=(hk 1 71 rfl).ret (t1,x3,x4,x5,x21,x22,o23,l9) q32 rfl rfl
   have e34:ecall O [V0 x3 x4 o23.length l9.length x5 x21 x22,rTo o23,rSt l9,V1 t1] 71 [.ref 0 0,.pv (V3 t1)]=some (retAV [ab r28],[V0 x3 x4 o31.length l9.length x5 x29 x30,rTo o31,rSt l9,V1 t1]):=ecall_eq rfl rfl rfl f33 rfl rfl rfl
   refine rg hS [6] (di1 (ap0 71 hpf e34)) ?_
   cases h;exact ret fin
 ·replace h:=bif_f hsp3 h
  try simp only[Bool.and_eq_true,Bool.or_eq_false_iff]at hsp3
  refine reg hS [(0,.ref 0 0),(4,.ref 3 0),(39,ab false)] [V0 x3 x4 l8.length l9.length x5 x6 x7,rTo l8,rSt l9,V1 t1] ?_ ?_
  ·clear h hk hS hX c
   exact dh1 hsp3
  refine cond (b:=false) rfl (fun hb=>absurd hb (by decide)) (fun _=>?_)
  refine skip ?_
  refine seq ?_
  obtain⟨⟨r21,x22,x23,o24⟩,q25,h⟩:=obs h
  dsimp only at h
  have f26:=(hk 1 71 rfl).ret (t1,x3,x4,x5,x6,x7,l8,l9) q25 rfl rfl
  have e27:ecall O [V0 x3 x4 l8.length l9.length x5 x6 x7,rTo l8,rSt l9,V1 t1] 71 [.ref 0 0,.pv (V3 t1)]=some (retAV [ab r21],[V0 x3 x4 o24.length l9.length x5 x22 x23,rTo o24,rSt l9,V1 t1]):=ecall_eq rfl rfl rfl f26 rfl rfl rfl
  refine rg hS [6] (di1 (ap0 71 hpf e27)) ?_
  cases h;exact ret fin
theorem g_F126(c:AllG env []):GoodH env (S126 F126):=by
 obtain⟨O,X,hS,hX,hpf,hk⟩:=orp c
 refine gh fn_126 33 ?_
 rintro(c1:Int) (r:Bool) h m em
 refine ghs em ?_;clear em m
 replace h:F126 c1=some r:=h
 rw[F126]at h
 refine srg hS [0] di ?_
 refine seq ?_
 refine reg hS [(2,ab (((((decide (97≤c1)&&decide (c1≤122))||(decide (65≤c1)&&decide (c1≤90)))||(decide (48≤c1)&&decide (c1≤57)))||decide (c1=95))||decide (c1=42)))] [] ?_ ?_
 ·clear h hk hS hX c
  exact dh
 cases h;exact ret fin
theorem g_F79(c:AllG env [(S126 F126),(S73x2 F73x2),SL_Repeat,(S71x2 F71x2)]):GoodH env (S79 F79):=by
 obtain⟨O,X,hS,hX,hpf,hk⟩:=orp c
 have pf_124:O.pf 124=true:=pft hpf 124 rfl
 refine gh fn_79 65 ?_
 rintro⟨x1,x2,x3,x4,x5,l6,l7⟩ (r:Bool×Int×Int×Int×(List Token)) h m em
 refine ghs em ?_;clear em m
 replace h:F79 x1 x2 x3 x4 x5 l6 l7=some r:=h
 rw[F79]at h
 refine srg hS [0] di ?_
 refine srg hS [0,3] di ?_
 refine seq ?_
 refine block ?_
 refine lp (α:=Nat×Int) (fun(_,x13)=>⟨sl [(0,.ref 0 0),(3,ai x2)],65,[V0 x1 x13 l6.length l7.length x3 x4 x5,rTo l6,rSt l7]⟩) (fun x=>iter (F79_b1 x1 x2 x3 x4 x5 l6 l7) x.1 x.2=some r) (fun x=>x.1) (BIG,x2) (Weak.slots kp) h ?_
 clear h
 intro⟨n44,x13⟩ h
 replace h:=iter_some h;obtain⟨m16,rfl,h⟩:=h
 rw[F79_b1]at h
 try dsimp only at h
 refine AW.st ?_
 refine seq ?_
 refine seq ?_
 obtain⟨c17,q18,h⟩:=obs h
 have f19:=sidx_g (guardO_t q18)
 obtain⟨r20,q21,h⟩:=obs h
 replace q21:=guardO_t q21
 have f22:=fun hg=>(hk 0 126 rfl).ret c17 (q21 hg) rfl rfl
 refine dreg mixed hS (ordp hpf (by kernel_rfl)) [(0,.ref 0 0),(3,ai x2),(30,ab (decide (x13<(x1.length:Int))&&r20))] [V0 x1 x13 l6.length l7.length x3 x4 x5,rTo l6,rSt l7] ?_ ?_
 ·clear h hk hS hX c
  exact dh1 (an f19.1 (an f19.2.1 (an f19.2.2 (ap1 126 hpf f22))))
 refine ifs h (fun hb23 h=>?_) fun hb23 h=>?_
 ·refine skip ?_
  refine block ?_
  refine rg hS [0,3] di ?_
  exact⟨(m16,IntKind.wrap .i64 (x13+1)),h,(Weak.norm (m:=3) (Nat.le_of_ble_eq_true rfl) kp hq rfl rfl),Nat.lt_succ_self _⟩
 ·refine exit ?_
  refine seq ?_
  refine srg hS [0,3,43] di ?_
  refine ifk h (fun hb24 h=>?_) fun hb24 h=>?_
  ·refine seq ?_
   obtain⟨⟨r25,x26,x27⟩,q28,h⟩:=obs h
   dsimp only at h
   have f29:=(hk 1 73 rfl).ret (x2,47,x1,x13,x3,x4,x5,l6,l7) q28 rfl rfl
   have e30:ecall O [V0 x1 x13 l6.length l7.length x3 x4 x5,rTo l6,rSt l7] 73 [.ref 0 0,ai x2,ai 47]=some (retAV [ab r25],[V0 x1 x13 l6.length l7.length x3 x26 x27,rTo l6,rSt l7]):=ecall_eq rfl rfl rfl f29 rfl rfl rfl
   refine rg hS [2] (di1 (ap0 73 hpf e30)) ?_
   cases h;exact ret fin
  ·refine seq ?_
   obtain⟨t31,q32,h⟩:=obs h
   have f33:=sslice_f q32
   try simp only[NRM,Int.reduceToNat]at f33
   have f33e:=f33.2.2.2.2
   try simp only[NRM,Int.reduceToNat]at f33e
   have f33l:=f33.2.2.1
   try simp only[NRM,Int.reduceToNat]at f33l
   apply dgk mixed hS [0,3,4] (ordp hpf (by kernel_rfl))
   ·exact di1 (an f33.1 (an f33.2.1 (an f33l (an f33.2.2.2.1 f33e))))
   refine seq ?_
   obtain⟨t34,q35,h⟩:=obs h
   have f36:=(hk 2 124 rfl).ret (([48]:Str),(t31.length:Int)) q35 rfl rfl
   try simp only[PVE]at f36
   obtain⟨⟨r37,x38,x39,o40⟩,q41,h⟩:=obs h
   dsimp only at h
   have f42:=(hk 3 71 rfl).ret (Token.mk 1 x2 t31 t34,x1,x13,x3,x4,x5,l6,l7) q41 rfl rfl
   have e43:ecall O [V0 x1 x13 l6.length l7.length x3 x4 x5,rTo l6,rSt l7] 71 [.ref 0 0,.pv (PV.agg [.int .i64 1,.int .i64 x2,.str t31,.str t34])]=some (retAV [ab r37],[V0 x1 x13 o40.length l7.length x3 x38 x39,rTo o40,rSt l7]):=ecall_eq rfl rfl rfl f42 rfl rfl rfl
   refine rg hS [2] (di1 (an pf_124 (an f36 (ap0 71 hpf e43)))) ?_
   cases h;exact ret fin
theorem g_F44(c:AllG env [(S76 F76),(S77 F77),(S78 F78),(S79 F79),(S75x1 F75x1)]):GoodH env (S44 F44):=by
 obtain⟨O,X,hS,hX,hpf,hk⟩:=orp c
 refine gh fn_44 64 ?_
 rintro⟨x1,x2,x3,x4,x5,l6,l7⟩ (r:Bool×Int×Int×Int×(List Token)) h m em
 refine ghs em ?_;clear em m
 replace h:F44 x1 x2 x3 x4 x5 l6 l7=some r:=h
 rw[F44]at h
 refine srg hS [0] di ?_
 refine srg hS [0,3] di ?_
 refine seq ?_
 obtain⟨r13,q14,h⟩:=obs h
 have f15:=(hk 0 76 rfl).ret (x1,x2,x3,x4,x5,l6,l7) q14 rfl rfl
 have e16:ecall O [V0 x1 x2 l6.length l7.length x3 x4 x5,rTo l6,rSt l7] 76 [.ref 0 0]=some (retAV [ab r13],[V0 x1 x2 l6.length l7.length x3 x4 x5,rTo l6,rSt l7]):=ecall_eq rfl rfl rfl f15 rfl rfl rfl
 refine rg hS [0,3,4] (di1 (ap0 76 hpf e16)) ?_
 refine seq ?_
 obtain⟨⟨r17,r18,x19,x20⟩,q21,h⟩:=obs h
 dsimp only at h
 have f22:=(hk 1 77 rfl).ret (x1,x2,x3,x4,x5,l6,l7) q21 rfl rfl
 have e23:ecall O [V0 x1 x2 l6.length l7.length x3 x4 x5,rTo l6,rSt l7] 77 [.ref 0 0]=some (retAV [as_ r17,ab r18],[V0 x1 x2 l6.length l7.length x3 x19 x20,rTo l6,rSt l7]):=ecall_eq rfl rfl rfl f22 rfl rfl rfl
 refine rg hS [0,3,4,5,6] (di1 (ap0 77 hpf e23)) ?_
 refine seq ?_
 refine srg hS [0,3,4,5,21] di ?_
 refine ifk h (fun hb24 h=>?_) fun hb24 h=>?_
 ·refine srg hS [2] di ?_
  cases h;exact ret fin
 ·refine seq ?_
  refine srg hS [0,3,4,5,23] di ?_
  refine ifk h (fun hb25 h=>?_) fun hb25 h=>?_
  ·refine srg hS [0,3,4,5] di ?_
   refine seq ?_
   refine seq ?_
   obtain⟨⟨r26,x27,x28,o29⟩,q30,h⟩:=obs h
   dsimp only at h
   have f31:=(hk 2 78 rfl).ret (Token.mk 2 x2 r17 [],r13,x1,IntKind.wrap .i64 (x2+(r17.length:Int)),x3,x19,x20,l6,l7) q30 rfl rfl
   try simp only[PVE]at f31
   have e32:ecall O [V0 x1 (IntKind.wrap .i64 (x2+(r17.length:Int))) l6.length l7.length x3 x19 x20,rTo l6,rSt l7] 78 [.ref 0 0,.pv (PV.agg [.int .i64 2,.int .i64 x2,.str r17,.str []]),ab r13]=some (retAV [ab r26],[V0 x1 (IntKind.wrap .i64 (x2+(r17.length:Int))) o29.length l7.length x3 x27 x28,rTo o29,rSt l7]):=ecall_eq rfl rfl rfl f31 rfl rfl rfl
   refine rg hS [0,5,39] (di1 (ap0 78 hpf e32)) ?_
   refine ifk h (fun hb33 h=>?_) fun hb33 h=>?_
   ·refine srg hS [2] di ?_
    cases h;exact ret fin
   ·refine seq ?_
    refine seq ?_
    refine reg hS [(0,.ref 0 0),(45,ab (decide (r17=[36])||decide (r17=[36,35])))] [V0 x1 (IntKind.wrap .i64 (x2+(r17.length:Int))) o29.length l7.length x3 x27 x28,rTo o29,rSt l7] ?_ ?_
    ·clear h hk hS hX c
     exact dh
    refine ifk h (fun hb34 h=>?_) fun hb34 h=>?_
    ·refine seq ?_
     obtain⟨⟨r35,x36,x37,x38,o39⟩,q40,h⟩:=obs h
     dsimp only at h
     have f41:=(hk 3 79 rfl).ret (x1,(IntKind.wrap .i64 (x2+(r17.length:Int))),x3,x27,x28,o29,l7) q40 rfl rfl
     have e42:ecall O [V0 x1 (IntKind.wrap .i64 (x2+(r17.length:Int))) o29.length l7.length x3 x27 x28,rTo o29,rSt l7] 79 [.ref 0 0]=some (retAV [ab r35],[V0 x1 x36 o39.length l7.length x3 x37 x38,rTo o39,rSt l7]):=ecall_eq rfl rfl rfl f41 rfl rfl rfl
     refine rg hS [2] (di1 (ap0 79 hpf e42)) ?_
     cases h;exact ret fin
    ·refine srg hS [2] di ?_
     cases h;exact ret fin
  ·refine seq ?_
   obtain⟨⟨r43,r44,r45,x46,x47,x48⟩,q49,h⟩:=obs h
   dsimp only at h
   have f50:=(hk 4 75 rfl).ret (x1,x2,x3,x19,x20,l6,l7) q49 rfl rfl
   have e51:ecall O [V0 x1 x2 l6.length l7.length x3 x19 x20,rTo l6,rSt l7] 75 [.ref 0 0]=some (retAV [as_ r43,as_ r44,ab r45],[V0 x1 x46 l6.length l7.length x3 x47 x48,rTo l6,rSt l7]):=ecall_eq rfl rfl rfl f50 rfl rfl rfl
   refine rg hS [0,3,4,6,7,8] (di1 (ap0 75 hpf e51)) ?_
   refine seq ?_
   refine AW.cases (r45) (fun hsp5=>?_) (fun hsp5=>?_)
   ·replace h:=bif_t hsp5 h
    obtain⟨⟨r52,x53,x54,o55⟩,q56,h⟩:=obs h
    dsimp only at h
    have f57:=(hk 2 78 rfl).ret (Token.mk 1 x2 r43 r44,r13,x1,x46,x3,x47,x48,l6,l7) q56 rfl rfl
    have e58:ecall O [V0 x1 x46 l6.length l7.length x3 x47 x48,rTo l6,rSt l7] 78 [.ref 0 0,.pv (PV.agg [.int .i64 1,.int .i64 x2,.str r43,.str r44]),ab r13]=some (retAV [ab r52],[V0 x1 x46 o55.length l7.length x3 x53 x54,rTo o55,rSt l7]):=ecall_eq rfl rfl rfl f57 rfl rfl rfl
    refine reg hS [(2,ab r52)] [V0 x1 x46 o55.length l7.length x3 x53 x54,rTo o55,rSt l7] (dk1 (an hsp5 (ap0 78 hpf e58))) ?_
    cases h;exact ret fin
   ·replace h:=bif_f hsp5 h
    refine reg hS [(2,ab false)] [V0 x1 x46 l6.length l7.length x3 x47 x48,rTo l6,rSt l7] (dk1 hsp5) ?_
    cases h;exact ret fin
theorem g_F19(c:AllG env [(S38x2 F38x2),(S39x2 F39x2),SL_IndexByte,(S41x2 F41x2),(S42 F42),(S43x1 F43x1),(S44 F44)]):GoodH env (S19 F19):=by
 obtain⟨O,X,hS,hX,hpf,hk⟩:=orp c
 refine gh fn_19 94 ?_
 rintro(s1:Str) (r:(List Token)×Int×Int) h m em
 refine ghs em ?_;clear em m
 replace h:F19 s1=some r:=h
 rw[F19]at h
 refine srg hS [0] di ?_
 refine seq ?_
 refine srg hS [0,10] di ?_
 refine ifk h (fun hb5 h=>?_) fun hb5 h=>?_
 ·refine srg hS [2,3,4] di ?_
  cases h;exact ret fin
 ·refine seq ?_
  refine AW.after ?_
  refine reg hS [(0,as_ s1),(5,.ref 0 0)] [.var [as_ s1,ai 0,.nils,.nils,ai 0,ai 0,ai 0]] dk ?_
  refine⟨⟨sl [(0,as_ s1),(5,.ref 0 0)],94,[V0 s1 0 (List.length ([]:List Token)) (List.length ([]:List Str)) 0 0 0,.row 87 4 (List.map Token.pv ([]:List Token)) true,.row 9 1 (List.map PV.str ([]:List Str)) true]⟩,(Weak.trans (Weak.ownC (σ:=⟨sl [(0,as_ s1),(5,.ref 0 0)],94,[.var [as_ s1,ai 0,.nils,.nils,ai 0,ai 0,ai 0]]⟩) 0 2 87 4 (by decide) (cs:=[as_ s1,ai 0,.nils,.nils,ai 0,ai 0,ai 0]) rfl rfl) (Weak.trans (Weak.slots (L:=[(0,as_ s1),(5,.ref 0 0)]) ⟨rfl,rfl,trivial⟩) (Weak.trans (Weak.ownC (σ:=⟨sl [(0,as_ s1),(5,.ref 0 0)],94,[.var [as_ s1,ai 0,.vec 1 (List.length ([]:List Token)),.nils,ai 0,ai 0,ai 0],.row 87 4 (List.map Token.pv ([]:List Token)) true]⟩) 0 3 9 1 (by decide) (cs:=[as_ s1,ai 0,.vec 1 (List.length ([]:List Token)),.nils,ai 0,ai 0,ai 0]) rfl rfl) (Weak.slots (L:=[(0,as_ s1),(5,.ref 0 0)]) ⟨rfl,rfl,trivial⟩)))),?_⟩
  refine seq ?_
  refine block ?_
  refine lp (α:=Nat×Int×Int×Int×Int×(List Token)×(List Str)) (fun(_,x6,x7,x8,x9,l10,l11)=>⟨sl [(0,as_ s1),(5,.ref 0 0)],94,[V0 s1 x6 l10.length l11.length x7 x8 x9,rTo l10,rSt l11]⟩) (fun x=>iter (F19_b1 s1) x.1 x.2=some r) (fun x=>x.1) (BIG,(0,0,0,0,([]:List Token),([]:List Str))) (Weak.slots kp) h ?_
  clear h
  intro⟨n65,x6,x7,x8,x9,l10,l11⟩ h
  replace h:=iter_some h;obtain⟨m14,rfl,h⟩:=h
  rw[F19_b1]at h
  try dsimp only at h
  refine AW.st ?_
  refine seq ?_
  refine srg hS [0,5,18] di ?_
  refine ifs h (fun hb15 h=>?_) fun hb15 h=>?_
  ·refine skip ?_
   refine block ?_
   refine srg hS [0,5] di ?_
   refine seq ?_
   obtain⟨x16,q17,h⟩:=obs h
   have f18:=(hk 0 38 rfl).ret (s1,x6,x6,x8,x9,l10,l11) q17 rfl rfl
   have e19:ecall O [V0 s1 x6 l10.length l11.length x6 x8 x9,rTo l10,rSt l11] 38 [.ref 0 0]=some (retAV [],[V0 s1 x16 l10.length l11.length x6 x8 x9,rTo l10,rSt l11]):=ecall_eq rfl rfl rfl f18 rfl rfl rfl
   refine rg hS [0,5] (di1 (ap0 38 hpf e19)) ?_
   refine seq ?_
   obtain⟨r20,q21,h⟩:=obs h
   have f22:=(hk 1 39 rfl).ret (s1,x16,x6,x8,x9,l10,l11) q21 rfl rfl
   have e23:ecall O [V0 s1 x16 l10.length l11.length x6 x8 x9,rTo l10,rSt l11] 39 [.ref 0 0]=some (retAV [as_ r20],[V0 s1 x16 l10.length l11.length x6 x8 x9,rTo l10,rSt l11]):=ecall_eq rfl rfl rfl f22 rfl rfl rfl
   refine rg hS [0,5,6] (di1 (ap0 39 hpf e23)) ?_
   refine block ?_
   refine srg hS [0,5,6,32] di ?_
   refine ifs h (fun hb24 h=>?_) fun hb24 h=>?_
   ·refine seq ?_
    refine srg hS [0,5,40] di ?_
    refine ifk h (fun hb25 h=>?_) fun hb25 h=>?_
    ·refine srg hS [2,3,4] di ?_
     cases h;exact ret fin
    ·refine srg hS [2,3,4] di ?_
     cases h;exact ret fin
   ·refine seq ?_
    obtain⟨c26,q27,h⟩:=obs h
    have f28:=sidx_f q27
    try simp only[NRM,Int.reduceToNat]at f28
    refine rg hS [0,5,6,47] (di1 (an f28.1 (an f28.2.1 f28.2.2))) ?_
    refine ifs h (fun hb29 h=>?_) fun hb29 h=>?_
    ·refine srg hS [0,5,6] di ?_
     refine seq ?_
     obtain⟨n30,q31,h⟩:=obs h
     have f32:=(hk 2 40 rfl).ret (r20,10) q31 rfl rfl
     refine rg hS [0,5,6,7] (di1 (ap1 40 hpf f32)) ?_
     refine srg hS [0,5,6,7,63] di ?_
     refine ifk h (fun hb33 h=>?_) fun hb33 h=>?_
     ·refine rg hS [0,5] di ?_
      exact⟨(m14,(IntKind.wrap .i64 ((IntKind.wrap .i64 (x16+(r20.length:Int)))+(IntKind.wrap .i64 (n30-(r20.length:Int)))),x6,x8,x9,l10,l11)),h,(Weak.norm (m:=3) (Nat.le_of_ble_eq_true rfl) kp hq rfl rfl),Nat.lt_succ_self _⟩
     ·exact⟨(m14,(IntKind.wrap .i64 (x16+(r20.length:Int)),x6,x8,x9,l10,l11)),h,(Weak.norm (m:=3) (Nat.le_of_ble_eq_true rfl) kp hq rfl rfl),Nat.lt_succ_self _⟩
    ·refine srg hS [0,5,6,75] (di1 (an f28.1 (an f28.2.1 f28.2.2))) ?_
     refine ifs h (fun hb34 h=>?_) fun hb34 h=>?_
     ·obtain⟨⟨tag35,r36,x37,x38,x39,o40⟩,q41,h⟩:=obs h
      dsimp only at h
      refine AW.cases (tag35) (fun hsp8=>?_) (fun hsp8=>?_)
      ·subst hsp8
       replace h:=bif_t rfl h
       have f42:=(hk 3 41 rfl).ret (s1,x16,x6,x8,x9,l10,l11) q41 rfl rfl
       simp only[cond_true,cond_false]at f42
       have e43:ecall O [V0 s1 x16 l10.length l11.length x6 x8 x9,rTo l10,rSt l11] 41 [.ref 0 0]=some (retAV [ab r36],[.var [as_ s1,ai x37,.vec 1 (List.length o40),.nils,ai x6,ai x38,ai x39],rTo o40,rSt l11]):=ecall_eq rfl rfl rfl f42 rfl rfl rfl
       refine AW.after ?_
       refine reg hS [(0,as_ s1),(5,.ref 0 0)] [.var [as_ s1,ai x37,.vec 1 (List.length o40),.nils,ai x6,ai x38,ai x39],rTo o40,rSt l11] (dk1 (ap0 41 hpf e43)) ?_
       refine⟨⟨sl [(0,as_ s1),(5,.ref 0 0)],94,[.var [as_ s1,ai x37,.vec 1 (List.length o40),.vec 3 (List.length ([]:List Str)),ai x6,ai x38,ai x39],rTo o40,rSt l11,.row 9 1 (List.map PV.str ([]:List Str)) true]⟩,(Weak.trans (Weak.ownC (σ:=⟨sl [(0,as_ s1),(5,.ref 0 0)],94,[.var [as_ s1,ai x37,.vec 1 (List.length o40),.nils,ai x6,ai x38,ai x39],rTo o40,rSt l11]⟩) 0 3 9 1 (by decide) (cs:=[as_ s1,ai x37,.vec 1 (List.length o40),.nils,ai x6,ai x38,ai x39]) rfl rfl) (Weak.slots (L:=[(0,as_ s1),(5,.ref 0 0)]) ⟨rfl,rfl,trivial⟩)),?_⟩
       exact⟨(m14,(x37,x6,x38,x39,o40,([]:List Str))),h,(Weak.sel [0,1,3] (L:=[(0,as_ s1),(5,.ref 0 0)]) ⟨rfl,rfl,trivial⟩ (by decide) rfl rfl),Nat.lt_succ_self _⟩
      ·subst hsp8
       replace h:=bif_f rfl h
       have f42:=(hk 3 41 rfl).ret (s1,x16,x6,x8,x9,l10,l11) q41 rfl rfl
       simp only[cond_true,cond_false]at f42
       have e43:ecall O [V0 s1 x16 l10.length l11.length x6 x8 x9,rTo l10,rSt l11] 41 [.ref 0 0]=some (retAV [ab r36],[V0 s1 x37 o40.length l11.length x6 x38 x39,rTo o40,rSt l11]):=ecall_eq rfl rfl rfl f42 rfl rfl rfl
       refine rg hS [0,5] (di1 (ap0 41 hpf e43)) ?_
       exact⟨(m14,(x37,x6,x38,x39,o40,l11)),h,(Weak.norm (m:=3) (Nat.le_of_ble_eq_true rfl) kp hq rfl rfl),Nat.lt_succ_self _⟩
     ·refine seq ?_
      obtain⟨r44,q45,h⟩:=obs h
      have f46:=(hk 4 42 rfl).ret (r20,([60,60]:Str)) q45 rfl rfl
      try simp only[PVE]at f46
      refine rg hS [0,5,81] (di1 (ap1 42 hpf f46)) ?_
      refine ifs h (fun hb47 h=>?_) fun hb47 h=>?_
      ·obtain⟨⟨r48,x49,x50,x51,o52,o53⟩,q54,h⟩:=obs h
       dsimp only at h
       have f55:=(hk 5 43 rfl).ret (s1,x16,x6,x8,x9,l10,l11) q54 rfl rfl
       have e56:ecall O [V0 s1 x16 l10.length l11.length x6 x8 x9,rTo l10,rSt l11] 43 [.ref 0 0]=some (retAV [ab r48],[V0 s1 x49 o52.length o53.length x6 x50 x51,rTo o52,rSt o53]):=ecall_eq rfl rfl rfl f55 rfl rfl rfl
       refine rg hS [0,5] (di1 (ap0 43 hpf e56)) ?_
       exact⟨(m14,(x49,x6,x50,x51,o52,o53)),h,(Weak.norm (m:=3) (Nat.le_of_ble_eq_true rfl) kp hq rfl rfl),Nat.lt_succ_self _⟩
      ·obtain⟨⟨r57,x58,x59,x60,o61⟩,q62,h⟩:=obs h
       dsimp only at h
       have f63:=(hk 6 44 rfl).ret (s1,x16,x6,x8,x9,l10,l11) q62 rfl rfl
       have e64:ecall O [V0 s1 x16 l10.length l11.length x6 x8 x9,rTo l10,rSt l11] 44 [.ref 0 0]=some (retAV [ab r57],[V0 s1 x58 o61.length l11.length x6 x59 x60,rTo o61,rSt l11]):=ecall_eq rfl rfl rfl f63 rfl rfl rfl
       refine rg hS [0,5] (di1 (ap0 44 hpf e64)) ?_
       exact⟨(m14,(x58,x6,x59,x60,o61,l11)),h,(Weak.norm (m:=3) (Nat.le_of_ble_eq_true rfl) kp hq rfl rfl),Nat.lt_succ_self _⟩
  ·refine exit ?_
   refine seq ?_
   apply dgk mixed hS [2,3,4] (ordp hpf (by kernel_rfl))
   ·exact di
   cases h;exact ret fin
theorem g_F46(c:AllG env [(S72 F72)]):GoodH env (S46 F46):=by
 obtain⟨O,X,hS,hX,hpf,hk⟩:=orp c
 have pf_72:O.pf 72=true:=pft hpf 72 rfl
 refine gh fn_46 59 ?_
 rintro⟨s1,tokens2⟩ (r:(List Str)) h m em
 refine ghs em ?_;clear em m
 replace h:F46 s1 tokens2=some r:=h
 rw[F46]at h
 refine srg hS [0,1] di ?_
 refine seq ?_
 obtain⟨u4,q5,h⟩:=obs h
 have f6:=mkO_f q5
 have f6m:=emakeSlice_str (H:=[]) (k1:=.i64) (k2:=.i64) T_42 T_9 (of_eq_true f6.1) (of_eq_true f6.2) (by decide)
 refine reg hS [(0,as_ s1),(1,vTo tokens2),(5,.vec 0 (List.length (List.replicate (Int.toNat (tokens2.length:Int)) ([]:Str))))] [.row 9 1 (List.map PV.str (List.replicate (Int.toNat (tokens2.length:Int)) ([]:Str))) false] ?_ ?_
 ·simp -implicitDefEqProofs only[RUNS,qindex,Nat.reduceAdd,Nat.reduceLeDiff,Nat.reduceSub,reduceIte,Nat.reduceEqDiff,Nat.reduceLT,reduceCtorEq,Nat.reduceMul,Nat.reduceBEq,Int.reduceEq,Int.reduceToNat,Int.toNat_zero,Nat.sub_zero,if_true,if_false,eq_self,ne_eq,TYS,f6m,List.length_replicate,List.map_replicate]<;>(try simp only[List.length_take,List.length_drop,List.length_map])
 refine seq ?_
 refine reg hS [(0,as_ s1),(1,vTo tokens2),(5,.vec 0 (List.length (List.replicate (Int.toNat (tokens2.length:Int)) ([]:Str)))),(6,.nils)] [.row 9 1 (List.map PV.str (List.replicate (Int.toNat (tokens2.length:Int)) ([]:Str))) false] dk ?_
 refine weak (Weak.own 6 3 1 (by decide) rfl) ?_
 refine weak (Weak.slots (L:=[(0,as_ s1),(1,vTo tokens2),(5,.vec 0 (List.length (List.replicate (Int.toNat (tokens2.length:Int)) ([]:Str)))),(6,.vec 1 (List.length ([]:List Int)))]) ⟨rfl,rfl,rfl,rfl,trivial⟩) ?_
 refine seq ?_
 refine srg hS [0,1,5,6,15,16,17] di ?_
 refine block ?_
 refine lp (α:=Nat×Int×(List Str)×(List Int)) (fun(_,i7,l8,l9)=>⟨sl [(0,as_ s1),(1,vTo tokens2),(5,.vec 0 (List.length l8)),(6,.vec 1 (List.length l9)),(15,vTo tokens2),(16,ai (tokens2.length:Int)),(17,ai i7)],59,[.row 9 1 (List.map PV.str l8) false,.row 3 1 (List.map (PV.int .i64) l9) true]⟩) (fun x=>iter (F46_b2 tokens2 s1) x.1 x.2=some r) (fun x=>x.1) (BIG,(0,List.replicate (Int.toNat (tokens2.length:Int)) ([]:Str),([]:List Int))) (Weak.slots kp) h ?_
 clear h
 intro⟨n44,i7,l8,l9⟩ h
 replace h:=iter_some h;obtain⟨m12,rfl,h⟩:=h
 rw[F46_b2]at h
 try dsimp only at h
 refine AW.st ?_
 refine srg hS [0,1,5,6,15,16,17,18] di ?_
 refine seq ?_
 refine ifs h (fun hb13 h=>?_) fun hb13 h=>?_
 ·refine skip ?_
  refine seq ?_
  refine block ?_
  refine seq ?_
  obtain⟨u14,q15,h⟩:=obs h
  have f16:=lidx_f q15
  refine rg hS [0,1,5,6,7,8,15,16,17] (di1 (an f16.1 f16.2.1)) ?_
  refine srg hS [0,1,5,6,7,8,15,16,17,23] di ?_
  refine block ?_
  refine srg hS [0,1,5,6,7,8,15,16,17,23,24] di ?_
  refine ifs h (fun hb17 h=>?_) fun hb17 h=>?_
  ·obtain⟨out18,q19,h⟩:=obs h
   have f20:=appO_f q19
   try simp only[LNS,List.length_replicate,Nat.reduceAdd,Nat.reduceLeDiff,Nat.add_zero,Nat.reduceMul]at f20
   have f20m:=appO_m (PV.int .i64) q19
   try simp only[PVE,List.nil_append]at f20m
   have f20n:=appO_n q19
   try simp only[LNS]at f20n
   refine reg hS [(0,as_ s1),(1,vTo tokens2),(5,.vec 0 (List.length l8)),(6,.vec 1 (List.length out18)),(15,vTo tokens2),(16,ai (tokens2.length:Int)),(17,ai i7)] [.row 9 1 (List.map PV.str l8) false,.row 3 1 (List.map (PV.int .i64) out18) true,V1 u14] (dk1 (an f20.1 (an f20m f20n))) ?_
   clear f20
   clear f20m
   clear f20n
   refine rg hS [0,1,5,6,15,16,17] di ?_
   exact⟨(m12,(IntKind.wrap .i64 (i7+1),l8,out18)),h,(Weak.norm (m:=2) (Nat.le_of_ble_eq_true rfl) kp hq rfl rfl),Nat.lt_succ_self _⟩
  ·refine srg hS [0,1,5,6,8,15,16,17,30] di ?_
   refine ifk h (fun hb21 h=>?_) fun hb21 h=>?_
   ·refine srg hS [0,1,5,6,9,15,16,17] di ?_
    refine seq ?_
    refine srg hS [0,1,5,9,15,16,17,35,36,37] di ?_
    refine block ?_
    refine lp (α:=Nat×Int×Int×(List Str)) (fun(_,at22,i23,l24)=>⟨sl [(0,as_ s1),(1,vTo tokens2),(5,.vec 0 (List.length l24)),(9,ai at22),(15,vTo tokens2),(16,ai (tokens2.length:Int)),(17,ai i7),(35,.vec 1 (List.length l9)),(36,ai (l9.length:Int)),(37,ai i23)],59,[.row 9 1 (List.map PV.str l24) false,.row 3 1 (List.map (PV.int .i64) l9) true,V1 u14]⟩) (fun x=>iter (F46_b3 l9 tokens2 s1 (iter (F46_b2 tokens2 s1) m12) i7) x.1 x.2=some r) (fun x=>x.1) (BIG,(IntKind.wrap .i64 (u14.at_+1),0,l8)) (Weak.slots kp) h ?_
    clear h
    intro⟨n43,at22,i23,l24⟩ h
    replace h:=iter_some h;obtain⟨m27,rfl,h⟩:=h
    rw[F46_b3]at h
    try dsimp only at h
    refine AW.st ?_
    refine srg hS [0,1,5,9,15,16,17,35,36,37,38] di ?_
    refine seq ?_
    refine ifs h (fun hb28 h=>?_) fun hb28 h=>?_
    ·refine skip ?_
     refine seq ?_
     refine block ?_
     refine seq ?_
     obtain⟨n29,q30,h⟩:=obs h
     have f31:=lidx_f q30
     refine rg hS [0,1,5,9,11,15,16,17,35,36,37] (di1 (an f31.1 (an f31.2.1 f31.2.2))) ?_
     obtain⟨u32,q33,h⟩:=obs h
     have f34:=lidx_f q33
     obtain⟨⟨r35,r36,r37⟩,q38,h⟩:=obs h
     dsimp only at h
     have f39:=(hk 0 72 rfl).ret (s1,at22,u32.text_) q38 rfl rfl
     obtain⟨w40,q41,h⟩:=obs h
     have f42:=lidx_f q41
     refine reg hS [(0,as_ s1),(1,vTo tokens2),(5,.vec 0 (List.length (List.set l24 (Int.toNat n29) r35))),(9,ai r36),(15,vTo tokens2),(16,ai (tokens2.length:Int)),(17,ai i7),(35,.vec 1 (List.length l9)),(36,ai (l9.length:Int)),(37,ai i23)] [.row 9 1 (List.map PV.str (List.set l24 (Int.toNat n29) r35)) false,.row 3 1 (List.map (PV.int .i64) l9) true,V1 u14] (dk1 (an f34.1 (an f34.2.1 (an pf_72 (an f39 (an f42.1 (an f42.2.1 f42.2.2))))))) ?_
     refine rg hS [0,1,5,9,15,16,17,35,36,37] di ?_
     exact⟨(m27,(r36,IntKind.wrap .i64 (i23+1),List.set l24 (Int.toNat n29) r35)),h,(Weak.norm (m:=3) (Nat.le_of_ble_eq_true rfl) kp hq rfl rfl),Nat.lt_succ_self _⟩
    ·refine exit ?_
     refine reg hS [(0,as_ s1),(1,vTo tokens2),(5,.vec 0 (List.length l24)),(6,.nils),(15,vTo tokens2),(16,ai (tokens2.length:Int)),(17,ai i7)] [.row 9 1 (List.map PV.str l24) false,.row 3 1 (List.map (PV.int .i64) l9) true,V1 u14] dk ?_
     refine weak (Weak.own 6 3 1 (by decide) rfl) ?_
     refine weak (Weak.slots (L:=[(0,as_ s1),(1,vTo tokens2),(5,.vec 0 (List.length l24)),(6,.vec 3 (List.length ([]:List Int))),(15,vTo tokens2),(16,ai (tokens2.length:Int)),(17,ai i7)]) ⟨rfl,rfl,rfl,rfl,rfl,rfl,rfl,trivial⟩) ?_
     refine rg hS [0,1,5,6,15,16,17] di ?_
     exact⟨(m12,(IntKind.wrap .i64 (i7+1),l24,([]:List Int))),h,(Weak.sel [0,3] (L:=[(0,as_ s1),(1,vTo tokens2),(5,.vec 0 (List.length l24)),(6,.vec 3 (List.length ([]:List Int))),(15,vTo tokens2),(16,ai (tokens2.length:Int)),(17,ai (IntKind.wrap .i64 (i7+1)))]) ⟨rfl,rfl,rfl,rfl,rfl,rfl,rfl,trivial⟩ (by decide) rfl rfl),Nat.lt_succ_self _⟩
   ·refine rg hS [0,1,5,6,15,16,17] di ?_
    exact⟨(m12,(IntKind.wrap .i64 (i7+1),l8,l9)),h,(Weak.norm (m:=2) (Nat.le_of_ble_eq_true rfl) kp hq rfl rfl),Nat.lt_succ_self _⟩
 ·refine exit ?_
  refine srg hS [4] di ?_
  refine weak (Weak.freeze 0 rfl) ?_
  refine weak (σ':=⟨sl [(4,.vec 0 (List.length l8))],59,[rSt l8,.row 3 1 (List.map (PV.int .i64) l9) true]⟩) (Weak.slots ⟨rfl,trivial⟩) ?_
  cases h;exact ret fin
theorem g_F84(c:AllG env []):GoodH env (S84 F84):=by
 obtain⟨O,X,hS,hX,hpf,hk⟩:=orp c
 refine gh fn_84 30 ?_
 rintro⟨ahead1,x2,x3,x4,x5⟩ (r:Token) h m em
 refine ghs em ?_;clear em m
 replace h:F84 ahead1 x2 x3 x4 x5=some r:=h
 rw[F84]at h
 refine srg hS [0,1,4] di ?_
 refine seq ?_
 refine seq ?_
 apply dgk mixed hS [0,1,4,16] (ordp hpf (by kernel_rfl))
 ·exact di
 refine ifk h (fun hb7 h=>?_) fun hb7 h=>?_
 ·refine srg hS [4] di ?_
  cases h;exact ret fin
 ·refine seq ?_
  obtain⟨u8,q9,h⟩:=obs h
  have f10:=lidx_f q9
  apply dgB mixed hS [(4,some 1),(28,none)] [4] rfl (ordB hpf (B:=[(4,some 1),(28,none)]) (by kernel_rfl))
  ·exact di1 (an f10.1 f10.2.1)
  cases h;exact ret fin
theorem g_F128(c:AllG env []):GoodH env (S128 F128):=by
 obtain⟨O,X,hS,hX,hpf,hk⟩:=orp c
 refine gh fn_128 14 ?_
 rintro⟨t1,symbol2⟩ (r:Bool) h m em
 refine ghs em ?_;clear em m
 replace h:F128 t1 symbol2=some r:=h
 rw[F128]at h
 refine srg hS [1,2] di ?_
 refine seq ?_
 refine reg hS [(4,ab (decide (t1.kind_=2)&&decide (t1.text_=symbol2)))] [V1 t1] ?_ ?_
 ·clear h hk hS hX c
  exact dh
 cases h;exact ret fin
theorem g_F127(c:AllG env [(S84 F84),(S128 F128)]):GoodH env (S127 F127):=by
 obtain⟨O,X,hS,hX,hpf,hk⟩:=orp c
 have pf_84:O.pf 84=false:=pft hpf 84 rfl
 refine gh fn_127 9 ?_
 rintro⟨symbol1,x2,x3,x4,x5⟩ (r:Bool) h m em
 refine ghs em ?_;clear em m
 replace h:F127 symbol1 x2 x3 x4 x5=some r:=h
 rw[F127]at h
 refine srg hS [0,1] di ?_
 refine seq ?_
 obtain⟨r7,q8,h⟩:=obs h
 have f9:=(hk 0 84 rfl).ret (0,x2,x3,x4,x5) q8 rfl rfl
 have e10:=ecall0 f9 rfl rfl rfl rfl
 obtain⟨r11,q12,h⟩:=obs h
 have f13:=(hk 1 128 rfl).ret (r7,symbol1) q12 rfl rfl
 refine rg hS [4] (di1 (an pf_84 (an e10 (ap1 128 hpf f13)))) ?_
 cases h;exact ret fin
theorem g_F80(c:AllG env [(S84 F84),(S127 F127)]):GoodH env (S80 F80):=by
 obtain⟨O,X,hS,hX,hpf,hk⟩:=orp c
 have pf_84:O.pf 84=false:=pft hpf 84 rfl
 refine gh fn_80 29 ?_
 rintro⟨x1,x2,x3,x4⟩ (r:Bool×Int) h m em
 refine ghs em ?_;clear em m
 replace h:F80 x1 x2 x3 x4=some r:=h
 rw[F80]at h
 refine srg hS [0] di ?_
 refine srg hS [0,3] di ?_
 refine seq ?_
 refine block ?_
 refine lp (α:=Nat×Int) (fun(_,x7)=>⟨sl [(0,.ref 0 0),(3,ai x4)],29,[V2 x1 x2 x3 x7]⟩) (fun x=>iter (F80_b1 x1 x2 x3 x4) x.1 x.2=some r) (fun x=>x.1) (BIG,x4) (Weak.slots kp) h ?_
 clear h
 intro⟨n20,x7⟩ h
 replace h:=iter_some h;obtain⟨m10,rfl,h⟩:=h
 rw[F80_b1]at h
 try dsimp only at h
 refine AW.st ?_
 refine seq ?_
 refine seq ?_
 obtain⟨r11,q12,h⟩:=obs h
 have f13:=(hk 0 84 rfl).ret (0,x1,x2,x3,x7) q12 rfl rfl
 have e14:=ecall0 f13 rfl rfl rfl rfl
 refine AW.cases (decide (r11.kind_=3)) (fun hsp12=>?_) (fun hsp12=>?_)
 ·replace h:=bif_t hsp12 h
  refine reg hS [(0,.ref 0 0),(3,ai x4),(15,ab true)] [V2 x1 x2 x3 x7] (dk1 (an pf_84 (an e14 hsp12))) ?_
  refine cond (b:=true) rfl (fun _=>?_) (fun hb=>absurd hb (by decide))
  refine skip ?_
  refine block ?_
  refine rg hS [0,3] di ?_
  exact⟨(m10,IntKind.wrap .i64 (x7+1)),h,(Weak.norm (m:=1) (Nat.le_of_ble_eq_true rfl) kp hq rfl rfl),Nat.lt_succ_self _⟩
 ·replace h:=bif_f hsp12 h
  obtain⟨r15,q16,h⟩:=obs h
  have f17:=(hk 1 127 rfl).ret (([59]:Str),x1,x2,x3,x7) q16 rfl rfl
  try simp only[PVE]at f17
  have e18:=ecall0 f17 rfl rfl rfl rfl
  refine reg hS [(0,.ref 0 0),(3,ai x4),(15,ab r15)] [V2 x1 x2 x3 x7] (dk1 (an pf_84 (an e14 (an hsp12 (ap0 127 hpf e18))))) ?_
  refine ifs h (fun hb19 h=>?_) fun hb19 h=>?_
  ·refine skip ?_
   refine block ?_
   refine rg hS [0,3] di ?_
   exact⟨(m10,IntKind.wrap .i64 (x7+1)),h,(Weak.norm (m:=1) (Nat.le_of_ble_eq_true rfl) kp hq rfl rfl),Nat.lt_succ_self _⟩
  ·refine exit ?_
   refine srg hS [2] di ?_
   cases h;exact ret fin
theorem g_F133(c:AllG env [SL_IndexByte]):GoodH env (S133 F133):=by
 obtain⟨O,X,hS,hX,hpf,hk⟩:=orp c
 refine gh fn_133 12 ?_
 rintro(t1:Token) (r:Bool) h m em
 refine ghs em ?_;clear em m
 replace h:F133 t1=some r:=h
 rw[F133]at h
 refine srg hS [1] di ?_
 refine seq ?_
 obtain⟨n3,q4,h⟩:=obs h
 replace q4:=guardO_t q4
 have f5:=fun hg=>(hk 0 40 rfl).ret (t1.quoted_,49) (q4 hg) rfl rfl
 refine reg hS [(2,ab (decide (t1.kind_=1)&&decide (n3<0)))] [V1 t1] ?_ ?_
 ·clear h hk hS hX c
  exact dh1 (ap1 40 hpf f5)
 cases h;exact ret fin
theorem g_F134(c:AllG env [SL_IndexByte,SL_SContains]):GoodH env (S134 F134):=by
 obtain⟨O,X,hS,hX,hpf,hk⟩:=orp c
 have pf_40:O.pf 40=true:=pft hpf 40 rfl
 refine gh fn_134 16 ?_
 rintro(s1:Str) (r:Bool) h m em
 refine ghs em ?_;clear em m
 replace h:F134 s1=some r:=h
 rw[F134]at h
 refine srg hS [0] di ?_
 refine seq ?_
 obtain⟨n3,q4,h⟩:=obs h
 replace q4:=guardO_t q4
 have f5:=fun hg=>(hk 0 40 rfl).ret (s1,32) (q4 hg) rfl rfl
 obtain⟨s6,q7,h⟩:=obs h
 have f8:=catO_g (guardO_t q7)
 try simp only[LNS,List.length_replicate,Nat.reduceAdd,Nat.reduceLeDiff,Nat.add_zero,Nat.reduceMul]at f8
 obtain⟨s9,q10,h⟩:=obs h
 have f11:=catO_g (guardO_t q10)
 try simp only[LNS,List.length_replicate,Nat.reduceAdd,Nat.reduceLeDiff,Nat.add_zero,Nat.reduceMul]at f11
 obtain⟨ok12,q13,h⟩:=obs h
 replace q13:=guardO_t q13
 have f14:=fun hg=>(hk 1 169 rfl).ret (([32,105,102,32,110,111,116,32,119,104,105,108,101,32,102,111,114,32,105,110,32,115,119,105,116,99,104,32,99,97,115,101,32,102,110,32,126,32]:Str),s9) (q13 hg) rfl rfl
 try simp only[PVE]at f14
 refine reg hS [(2,ab ((!decide (s1=[])&&decide (n3<0))&&ok12))] [] ?_ ?_
 ·clear h hk hS hX c
  exact dh1 (an pf_40 (an f5 (an f8.1 (an f8.2 (an f11.1 (an f11.2 (ap1 169 hpf f14)))))))
 cases h;exact ret fin
theorem g_F83(c:AllG env [(S133 F133),(S134 F134)]):GoodH env (S83 F83):=by
 obtain⟨O,X,hS,hX,hpf,hk⟩:=orp c
 have pf_133:O.pf 133=true:=pft hpf 133 rfl
 refine gh fn_83 12 ?_
 rintro(t1:Token) (r:Str) h m em
 refine ghs em ?_;clear em m
 replace h:F83 t1=some r:=h
 rw[F83]at h
 refine srg hS [1] di ?_
 refine seq ?_
 refine seq ?_
 obtain⟨r3,q4,h⟩:=obs h
 have f5:=(hk 0 133 rfl).ret t1 q4 rfl rfl
 obtain⟨r6,q7,h⟩:=obs h
 replace q7:=guardO_t q7
 have f8:=fun hg=>(hk 1 134 rfl).ret t1.text_ (q7 hg) rfl rfl
 refine reg hS [(1,.ref 0 0),(9,ab (r3&&r6))] [V1 t1] ?_ ?_
 ·clear h hk hS hX c
  exact dh1 (an pf_133 (an f5 (ap1 134 hpf f8)))
 refine ifk h (fun hb9 h=>?_) fun hb9 h=>?_
 ·refine srg hS [2] di ?_
  cases h;exact ret fin
 ·refine srg hS [2] di ?_
  cases h;exact ret fin
theorem g_F129(c:AllG env [(S128 F128)]):GoodH env (S129 F129):=by
 obtain⟨O,X,hS,hX,hpf,hk⟩:=orp c
 have pf_128:O.pf 128=true:=pft hpf 128 rfl
 refine gh fn_129 20 ?_
 rintro(t1:Token) (r:Bool) h m em
 refine ghs em ?_;clear em m
 replace h:F129 t1=some r:=h
 rw[F129]at h
 refine srg hS [1] di ?_
 refine seq ?_
 refine srg hS [1,5] di ?_
 refine ifk h (fun hb3 h=>?_) fun hb3 h=>?_
 ·refine srg hS [2] di ?_
  cases h;exact ret fin
 ·refine seq ?_
  obtain⟨r4,q5,h⟩:=obs h
  have f6:=(hk 0 128 rfl).ret (t1,([36]:Str)) q5 rfl rfl
  try simp only[PVE]at f6
  obtain⟨r7,q8,h⟩:=obs h
  replace q8:=guardO_t q8
  have f9:=fun hg=>(hk 0 128 rfl).ret (t1,([36,35]:Str)) (q8 hg) rfl rfl
  try simp only[PVE]at f9
  obtain⟨r10,q11,h⟩:=obs h
  replace q11:=guardO_t q11
  have f12:=fun hg=>(hk 0 128 rfl).ret (t1,([40]:Str)) (q11 hg) rfl rfl
  try simp only[PVE]at f12
  obtain⟨r13,q14,h⟩:=obs h
  replace q14:=guardO_t q14
  have f15:=fun hg=>(hk 0 128 rfl).ret (t1,([96]:Str)) (q14 hg) rfl rfl
  try simp only[PVE]at f15
  refine reg hS [(2,ab (((r4||r7)||r10)||r13))] [V1 t1] ?_ ?_
  ·clear h hk hS hX c
   exact dh1 (an pf_128 (an f6 (an f9 (an f12 f15))))
  cases h;exact ret fin
theorem g_F130(c:AllG env []):GoodH env (S130 F130):=by
 obtain⟨O,X,hS,hX,hpf,hk⟩:=orp c
 refine gh fn_130 23 ?_
 rintro(t1:Token) (r:Bool) h m em
 refine ghs em ?_;clear em m
 replace h:F130 t1=some r:=h
 rw[F130]at h
 refine srg hS [1] di ?_
 refine seq ?_
 obtain⟨c3,q4,h⟩:=obs h
 have f5:=sidx_g (guardO_t q4)
 try simp only[NRM,Int.reduceToNat]at f5
 refine reg hS [(2,ab (decide (t1.kind_=4)||(decide (t1.kind_=2)&&(decide (c3=60)||decide (c3=62)))))] [V1 t1] ?_ ?_
 ·clear h hk hS hX c
  exact dh1 (an f5.1 (an f5.2.1 f5.2.2))
 cases h;exact ret fin
theorem g_F81(c:AllG env [(S84 F84),(S83 F83),(S128 F128),(S129 F129),(S130 F130)]):GoodH env (S81 F81):=by
 obtain⟨O,X,hS,hX,hpf,hk⟩:=orp c
 have pf_83:O.pf 83=true:=pft hpf 83 rfl
 have pf_84:O.pf 84=false:=pft hpf 84 rfl
 have pf_128:O.pf 128=true:=pft hpf 128 rfl
 have pf_129:O.pf 129=true:=pft hpf 129 rfl
 have pf_130:O.pf 130=true:=pft hpf 130 rfl
 refine gh fn_81 38 ?_
 rintro⟨inCase1,x2,x3,x4,x5⟩ (r:Bool) h m em
 refine ghs em ?_;clear em m
 replace h:F81 inCase1 x2 x3 x4 x5=some r:=h
 rw[F81]at h
 refine srg hS [0,1] di ?_
 refine seq ?_
 obtain⟨r7,q8,h⟩:=obs h
 have f9:=(hk 0 84 rfl).ret (0,x2,x3,x4,x5) q8 rfl rfl
 have e10:=ecall0 f9 rfl rfl rfl rfl
 refine rg hS [0,1,5] (di1 (ap0 84 hpf e10)) ?_
 refine seq ?_
 refine seq ?_
 obtain⟨r11,q12,h⟩:=obs h
 replace q12:=guardO_t q12
 have f13:=fun hg=>(hk 1 83 rfl).ret r7 (q12 hg) rfl rfl
 refine AW.cases ((inCase1&&decide (r11=[99,97,115,101]))) (fun hsp14=>?_) (fun hsp14=>?_)
 ·replace h:=bif_t hsp14 h
  try simp only[Bool.and_eq_true,Bool.or_eq_false_iff]at hsp14
  obtain⟨r14,q15,h⟩:=obs h
  have f16:=(hk 0 84 rfl).ret (1,x2,x3,x4,x5) q15 rfl rfl
  have e17:=ecall0 f16 rfl rfl rfl rfl
  obtain⟨r18,q19,h⟩:=obs h
  have f20:=(hk 2 128 rfl).ret (r14,([61]:Str)) q19 rfl rfl
  try simp only[PVE]at f20
  refine reg hS [(5,.ref 1 0),(19,ab (!r18))] [V2 x2 x3 x4 x5,V1 r7] ?_ ?_
  ·clear h hk hS hX c
   exact dh1 (an pf_83 (an f13 (an hsp14 (an pf_84 (an e17 (ap1 128 hpf f20))))))
  refine ifk h (fun hb21 h=>?_) fun hb21 h=>?_
  ·refine srg hS [4] di ?_
   cases h;exact ret fin
  ·refine seq ?_
   obtain⟨r22,q23,h⟩:=obs h
   have f24:=(hk 3 129 rfl).ret r7 q23 rfl rfl
   obtain⟨r25,q26,h⟩:=obs h
   replace q26:=guardO_t q26
   have f27:=fun hg=>(hk 4 130 rfl).ret r7 (q26 hg) rfl rfl
   obtain⟨r28,q29,h⟩:=obs h
   replace q29:=guardO_t q29
   have f30:=fun hg=>(hk 2 128 rfl).ret (r7,([33]:Str)) (q29 hg) rfl rfl
   try simp only[PVE]at f30
   obtain⟨r31,q32,h⟩:=obs h
   replace q32:=guardO_t q32
   have f33:=fun hg=>(hk 2 128 rfl).ret (r7,([64]:Str)) (q32 hg) rfl rfl
   try simp only[PVE]at f33
   obtain⟨r34,q35,h⟩:=obs h
   replace q35:=guardO_t q35
   have f36:=fun hg=>(hk 2 128 rfl).ret (r7,([123]:Str)) (q35 hg) rfl rfl
   try simp only[PVE]at f36
   refine reg hS [(4,ab ((((r22||r25)||r28)||r31)||r34))] [V2 x2 x3 x4 x5,V1 r7] ?_ ?_
   ·clear h hk hS hX c
    exact dh1 (an pf_129 (an f24 (an pf_130 (an f27 (an pf_128 (an f30 (an f33 f36)))))))
   cases h;exact ret fin
 ·replace h:=bif_f hsp14 h
  try simp only[Bool.and_eq_true,Bool.or_eq_false_iff]at hsp14
  refine reg hS [(5,.ref 1 0),(19,ab false)] [V2 x2 x3 x4 x5,V1 r7] ?_ ?_
  ·clear h hk hS hX c
   exact dh1 (an pf_83 (an f13 hsp14))
  refine cond (b:=false) rfl (fun hb=>absurd hb (by decide)) (fun _=>?_)
  refine skip ?_
  refine seq ?_
  obtain⟨r15,q16,h⟩:=obs h
  have f17:=(hk 3 129 rfl).ret r7 q16 rfl rfl
  obtain⟨r18,q19,h⟩:=obs h
  replace q19:=guardO_t q19
  have f20:=fun hg=>(hk 4 130 rfl).ret r7 (q19 hg) rfl rfl
  obtain⟨r21,q22,h⟩:=obs h
  replace q22:=guardO_t q22
  have f23:=fun hg=>(hk 2 128 rfl).ret (r7,([33]:Str)) (q22 hg) rfl rfl
  try simp only[PVE]at f23
  obtain⟨r24,q25,h⟩:=obs h
  replace q25:=guardO_t q25
  have f26:=fun hg=>(hk 2 128 rfl).ret (r7,([64]:Str)) (q25 hg) rfl rfl
  try simp only[PVE]at f26
  obtain⟨r27,q28,h⟩:=obs h
  replace q28:=guardO_t q28
  have f29:=fun hg=>(hk 2 128 rfl).ret (r7,([123]:Str)) (q28 hg) rfl rfl
  try simp only[PVE]at f29
  refine reg hS [(4,ab ((((r15||r18)||r21)||r24)||r27))] [V2 x2 x3 x4 x5,V1 r7] ?_ ?_
  ·clear h hk hS hX c
   exact dh1 (an pf_129 (an f17 (an pf_130 (an f20 (an pf_128 (an f23 (an f26 f29)))))))
  cases h;exact ret fin
end Go.Abs.U48
