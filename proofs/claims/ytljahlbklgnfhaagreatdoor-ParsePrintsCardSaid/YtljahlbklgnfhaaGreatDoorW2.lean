import Derived.Test.YtljahlbklgnfhaaGreatDoorD1
set_option linter.unusedVariables false
set_option linter.unusedSimpArgs false
set_option linter.defProp false
set_option maxRecDepth 8000
set_option maxHeartbeats 4000000
namespace Go.Abs.U48
open Go.RowKit Go.Proofs AW
theorem V6v(c:AllG env [(J1l Q7i),(S42 F42),Q0w,(S125 F125),(J1k Q8a)]):Q0a env (S77 F77):=by
 refine hd c V8n 73 ?_
 rintro O X hS hX hpf hk ⟨x1,x2,x3,x4,x5,l6,l7⟩ (r:Str×Bool×Int×Int) (h:F77 x1 x2 x3 x4 x5 l6 l7=some r)
 refine gs ?_
 rw[F77]at h
 refine R [0] ?_
 refine seq (Ua1 h [0,4] (Z hk 0 39 (x1,x2,x3,x4,x5,l6,l7)) fun r12 h=>?_)
 refine seq (R [0,4,12,13,14] ?_)
 refine block (Lp h (fun i16=>⟨sl [(0,.ref 0 0),(4,as_ r12),(12,.full (List.map PV.str [[38,38],[124,124],[36,35]])),(13,ai ([[38,38],[124,124],[36,35]].length:Int)),(14,ai i16)],73,[V0 x1 x2 l6.length l7.length x3 x4 x5,rTo l6,rSt l7]⟩) ?_)
 clear h
 rintro i16 m19 h
 rw[X7w]at h
 try dsimp only at h
 refine AW.st (R [0,4,12,13,14,15] ?_)
 refine seq (iz h (fun h=>?_) fun h=>?_)
 ·obtain⟨w21,f23,h⟩:=oc h fun _=>Q0f
  have f23m:(List.map PV.str [[38,38],[124,124],[36,35]])[Int.toNat i16]?=some (PV.str w21):=by rw[List.getElem?_map,f23.2.1];rfl
  try simp only[List.map_cons,List.map_nil]at f23m
  refine skip (seq ?_)
  refine block (seq ?_)
  refine rg hS [0,4,6,12,13,14] (di1 (an f23.1 (an f23.2.1 f23m))) ?_
  refine seq (Ua1 h [0,4,6,12,13,14,20] (Zt hk 1 42 (r12,w21)) fun r24 h=>?_)
  refine ik h (fun h=>?_) fun h=>?_
  ·exact Rt h [2,3]
  refine G [0,4,12,13,14] ?_
  exact nx h
 refine exit (seq ?_)
 refine R [0,4,24] ?_
 refine ik h (fun h=>?_) fun h=>?_
 ·exact Rt h [2,3]
 obtain⟨c29,f31,h⟩:=oc h fun _=>Q3m
 try simp only[NRM,Int.reduceToNat]at f31
 obtain⟨n32,f34,h⟩:=oc h (Zt hk 2 40 (([59,38,40,41,123,125,61,94,96,36,33,64]:Str),c29))
 replace f34:=ca f34
 try simp only[PVE]at f34
 refine seq (seq ?_)
 refine rg hS [0,4,28] (di1 (an f31.1 (an f31.2.1 (an f31.2.2 f34)))) ?_
 refine ik h (fun h=>?_) fun h=>?_
 ·obtain⟨t36,f38,h⟩:=oc h fun _=>Q1j
  try simp only[NRM,Int.reduceToNat]at f38
  have f38e:=f38.2.2.2.2
  try simp only[NRM,Int.reduceToNat]at f38e
  have f38l:=f38.2.2.1
  try simp only[NRM,Int.reduceToNat]at f38l
  refine seq (rg hS [2,3] (di1 (an f38.1 (an f38.2.1 (an f38l (an f38.2.2.2.1 f38e))))) ?_)
  exact Rf h
 refine seq (R [0,4,31,32,33] ?_)
 refine block (Lp h (fun i39=>⟨sl [(0,.ref 0 0),(4,as_ r12),(31,.full (List.map PV.str [[62,62],[62],[60],[124]])),(32,ai ([[62,62],[62],[60],[124]].length:Int)),(33,ai i39)],73,[V0 x1 x2 l6.length l7.length x3 x4 x5,rTo l6,rSt l7]⟩) ?_)
 clear h
 rintro i39 m42 h
 rw[X7v]at h
 try dsimp only at h
 refine AW.st (R [0,4,31,32,33,34] ?_)
 refine seq (iz h (fun h=>?_) fun h=>?_)
 ·obtain⟨w44,f46,h⟩:=oc h fun _=>Q0f
  have f46m:(List.map PV.str [[62,62],[62],[60],[124]])[Int.toNat i39]?=some (PV.str w44):=by rw[List.getElem?_map,f46.2.1];rfl
  try simp only[List.map_cons,List.map_nil]at f46m
  refine skip (seq ?_)
  refine block (seq ?_)
  refine rg hS [0,4,8,31,32,33] (di1 (an f46.1 (an f46.2.1 f46m))) ?_
  refine seq (seq ?_)
  refine Ua1 h [0,4,8,31,32,33,40] (Zt hk 1 42 (r12,w44)) fun r47 h=>?_
  refine ik h (fun h=>?_) fun h=>?_
  ·refine exit (G [0,4,31,32,33] ?_)
   exact nx h
  obtain⟨t51,f53,h⟩:=oc h fun _=>Q1j
  try simp only[NRM,Int.reduceToNat]at f53
  have f53e:=f53.2.2.2.2
  try simp only[NRM,Int.reduceToNat]at f53e
  have f53l:=f53.2.2.1
  try simp only[NRM,Int.reduceToNat]at f53l
  obtain⟨r54,f56,h⟩:=oc h (Zt hk 1 42 (t51,([91]:Str)))
  replace f56:=ca f56
  try simp only[PVE]at f56
  refine seq (seq ?_)
  refine rg hS [0,4,8,46] (di1 (an f53.1 (an f53.2.1 (an f53l (an f53.2.2.2.1 (an f53e f56)))))) ?_
  refine ik h (fun h=>?_) fun h=>?_
  ·exact Rt h [2,3]
  try simp only[NRM,Int.reduceToNat]at f53
  have f53e:=f53.2.2.2.2
  try simp only[NRM,Int.reduceToNat]at f53e
  have f53l:=f53.2.2.1
  try simp only[NRM,Int.reduceToNat]at f53l
  obtain⟨r58,f60,h⟩:=oc h (Zt hk 3 125 (t51,!decide (w44=[124])))
  refine seq (rg hS [0,4,8,9] (di1 (an f53.1 (an f53.2.1 (an f53l (an f53.2.2.2.1 (an f53e (ca f60))))))) ?_)
  refine seq (R [0,4,8,9,56] ?_)
  refine ik h (fun h=>?_) fun h=>?_
  ·refine seq (Ua3 h [2,3] (Z hk 4 73 (IntKind.wrap .i64 (x2+(w44.length:Int)),47,x1,x2,x3,x4,x5,l6,l7)) fun r62 x63 x64 h=>?_)
   exact Rf h
  obtain⟨t68,f70,h⟩:=oc h fun _=>Q1j
  try simp only[NRM,Int.reduceToNat]at f70
  have f70e:=f70.2.2.2.2
  try simp only[NRM,Int.reduceToNat]at f70e
  have f70l:=f70.2.2.1
  try simp only[NRM,Int.reduceToNat]at f70l
  refine seq (rg hS [2,3] (di1 (an f70.1 (an f70.2.1 (an f70l (an f70.2.2.2.1 f70e))))) ?_)
  exact Rf h
 exact exit (Rt h [2,3])
theorem V6u(c:AllG env [Q0w,(J8w Q9x)]):Q0a env (S78 F78):=by
 refine hd c V8m 43 ?_
 rintro O X hS hX hpf hk ⟨t1,touches2,x3,x4,x5,x6,x7,l8,l9⟩ (r:Bool×Int×Int×(List Token)) (h:F78 t1 touches2 x3 x4 x5 x6 x7 l8 l9=some r)
 refine gs ?_
 rw[F78]at h
 refine R [0,2,4] ?_
 obtain⟨c14,f16,h⟩:=oc h fun _ q=>Q4n (Q0b q)
 try simp only[NRM,Int.reduceToNat]at f16
 obtain⟨n17,q18,h⟩:=obs h
 replace q18:=Q0b q18
 have f19:=fun hg=>(hk 0 40 rfl).ret (([36,96]:Str),c14) (q18 hg) rfl rfl
 try simp only[PVE]at f19
 refine seq (reg hS [(0,.ref 0 0),(2,ab touches2),(4,.ref 3 0),(7,ab (decide (t1.kind_=1)||((decide (t1.kind_=2)&&!decide (t1.text_=[]))&&decide (0≤n17))))] [V0 x3 x4 l8.length l9.length x5 x6 x7,rTo l8,rSt l9,V1 t1] ?_ ?_)
 ·clear h hk hS hX c
  exact dh1 (an f16.1 (an f16.2.1 (an f16.2.2 (ap1 40 hpf f19))))
 refine seq (seq ?_)
 refine AW.cases ((touches2&&(decide (t1.kind_=1)||((decide (t1.kind_=2)&&!decide (t1.text_=[]))&&decide (0≤n17))))) (fun hsp3=>?_) (fun hsp3=>?_)
 ·replace h:=Z2l hsp3 h
  try simp only[Bool.and_eq_true,Bool.or_eq_false_iff]at hsp3
  obtain⟨⟨r20,x21,x22,o23⟩,q24,h⟩:=obs h
  dsimp only at h
  have f25:=(hk 1 71 rfl).ret (Token.mk 2 t1.at_ [94] [],x3,x4,x5,x6,x7,l8,l9) q24 rfl rfl
  try simp only[PVE]at f25
  have e26:Q1q O [V0 x3 x4 l8.length l9.length x5 x6 x7,rTo l8,rSt l9,V1 t1] 71 [.ref 0 0,.pv (PV.agg [.int .i64 2,.int .i64 t1.at_,.str [94],.str []])]=some (Q1z [ab r20],[V0 x3 x4 o23.length l9.length x5 x21 x22,rTo o23,rSt l9,V1 t1]):=Q0p rfl rfl rfl f25 rfl rfl rfl
  refine reg hS [(0,.ref 0 0),(4,.ref 3 0),(39,ab (!r20))] [V0 x3 x4 o23.length l9.length x5 x21 x22,rTo o23,rSt l9,V1 t1] ?_ ?_
  ·clear h hk hS hX c
   exact dh1 (an hsp3 (ap0 71 hpf e26))
  refine ik h (fun h=>?_) fun h=>?_
  ·exact Rt h [6]
  obtain⟨⟨r28,x29,x30,o31⟩,q32,h⟩:=obs h
  dsimp only at h
  have f33:=(hk 1 71 rfl).ret (t1,x3,x4,x5,x21,x22,o23,l9) q32 rfl rfl
  have e34:Q1q O [V0 x3 x4 o23.length l9.length x5 x21 x22,rTo o23,rSt l9,V1 t1] 71 [.ref 0 0,.pv (V3 t1)]=some (Q1z [ab r28],[V0 x3 x4 o31.length l9.length x5 x29 x30,rTo o31,rSt l9,V1 t1]):=Q0p rfl rfl rfl f33 rfl rfl rfl
  refine seq (rg hS [6] (di1 (ap0 71 hpf e34)) ?_)
  exact Rf h
 replace h:=Z2m hsp3 h
 try simp only[Bool.and_eq_true,Bool.or_eq_false_iff]at hsp3
 refine reg hS [(0,.ref 0 0),(4,.ref 3 0),(39,ab false)] [V0 x3 x4 l8.length l9.length x5 x6 x7,rTo l8,rSt l9,V1 t1] ?_ ?_
 ·clear h hk hS hX c
  exact dh1 hsp3
 refine cond (b:=false) rfl (fun hb=>absurd hb (by decide)) (fun _=>?_)
 obtain⟨⟨r21,x22,x23,o24⟩,q25,h⟩:=obs h
 dsimp only at h
 have f26:=(hk 1 71 rfl).ret (t1,x3,x4,x5,x6,x7,l8,l9) q25 rfl rfl
 have e27:Q1q O [V0 x3 x4 l8.length l9.length x5 x6 x7,rTo l8,rSt l9,V1 t1] 71 [.ref 0 0,.pv (V3 t1)]=some (Q1z [ab r21],[V0 x3 x4 o24.length l9.length x5 x22 x23,rTo o24,rSt l9,V1 t1]):=Q0p rfl rfl rfl f26 rfl rfl rfl
 refine skip (seq ?_)
 refine rg hS [6] (di1 (ap0 71 hpf e27)) ?_
 exact Rf h
theorem K7f(c:AllG env []):Q0a env (S126 F126):=by
 refine hd c V2d 33 ?_
 rintro O X hS hX hpf hk (c1:Int) (r:Bool) (h:F126 c1=some r)
 refine gs ?_
 rw[F126]at h
 refine R [0] ?_
 refine seq (reg hS [(2,ab (((((decide (97≤c1)&&decide (c1≤122))||(decide (65≤c1)&&decide (c1≤90)))||(decide (48≤c1)&&decide (c1≤57)))||decide (c1=95))||decide (c1=42)))] [] ?_ ?_)
 ·clear h hk hS hX c
  exact dh
 exact Rf h
theorem V6t(c:AllG env [(S126 F126),(J1k Q8a),Q9w,(J8w Q9x)]):Q0a env (S79 F79):=by
 refine hd c V8l 65 ?_
 rintro O X hS hX hpf hk ⟨x1,x2,x3,x4,x5,l6,l7⟩ (r:Bool×Int×Int×Int×(List Token)) (h:F79 x1 x2 x3 x4 x5 l6 l7=some r)
 have pf_124:O.pf 124=true:=pft hpf 124 rfl
 refine gs ?_
 rw[F79]at h
 refine R [0] ?_
 refine R [0,3] ?_
 refine seq (block ?_)
 refine Lp h (fun x13=>⟨sl [(0,.ref 0 0),(3,ai x2)],65,[V0 x1 x13 l6.length l7.length x3 x4 x5,rTo l6,rSt l7]⟩) ?_
 clear h
 rintro x13 m16 h
 rw[X7u]at h
 try dsimp only at h
 obtain⟨c17,f19,h⟩:=oc h fun _ q=>Q4n (Q0b q)
 obtain⟨r20,q21,h⟩:=obs h
 replace q21:=Q0b q21
 have f22:=fun hg=>(hk 0 126 rfl).ret c17 (q21 hg) rfl rfl
 refine AW.st (seq ?_)
 refine seq (dreg mixed hS (ordp hpf (by kernel_rfl)) [(0,.ref 0 0),(3,ai x2),(30,ab (decide (x13<(x1.length:Int))&&r20))] [V0 x1 x13 l6.length l7.length x3 x4 x5,rTo l6,rSt l7] ?_ ?_)
 ·clear h hk hS hX c
  exact dh1 (an f19.1 (an f19.2.1 (an f19.2.2 (ap1 126 hpf f22))))
 refine iz h (fun h=>?_) fun h=>?_
 ·refine skip (block ?_)
  refine G [0,3] ?_
  exact nx h
 refine exit (seq ?_)
 refine R [0,3,43] ?_
 refine ik h (fun h=>?_) fun h=>?_
 ·refine seq (Ua3 h [2] (Z hk 1 73 (x2,47,x1,x13,x3,x4,x5,l6,l7)) fun r25 x26 x27 h=>?_)
  exact Rf h
 refine seq ?_
 obtain⟨t31,f33,h⟩:=oc h fun _=>Q1j
 try simp only[NRM,Int.reduceToNat]at f33
 have f33e:=f33.2.2.2.2
 try simp only[NRM,Int.reduceToNat]at f33e
 have f33l:=f33.2.2.1
 try simp only[NRM,Int.reduceToNat]at f33l
 apply dgk mixed hS [0,3,4] (ordp hpf (by kernel_rfl))
 ·exact di1 (an f33.1 (an f33.2.1 (an f33l (an f33.2.2.2.1 f33e))))
 obtain⟨t34,f36,h⟩:=oc h (Zt hk 2 124 (([48]:Str),(t31.length:Int)))
 replace f36:=ca f36
 try simp only[PVE]at f36
 obtain⟨⟨r37,x38,x39,o40⟩,q41,h⟩:=obs h
 dsimp only at h
 have f42:=(hk 3 71 rfl).ret (Token.mk 1 x2 t31 t34,x1,x13,x3,x4,x5,l6,l7) q41 rfl rfl
 have e43:Q1q O [V0 x1 x13 l6.length l7.length x3 x4 x5,rTo l6,rSt l7] 71 [.ref 0 0,.pv (PV.agg [.int .i64 1,.int .i64 x2,.str t31,.str t34])]=some (Q1z [ab r37],[V0 x1 x13 o40.length l7.length x3 x38 x39,rTo o40,rSt l7]):=Q0p rfl rfl rfl f42 rfl rfl rfl
 refine seq (rg hS [2] (di1 (an pf_124 (an f36 (ap0 71 hpf e43)))) ?_)
 exact Rf h
theorem V7k(c:AllG env [(S76 F76),(S77 F77),(S78 F78),(S79 F79),(X5m J1q)]):Q0a env (S44 F44):=by
 refine hd c V9d 64 ?_
 rintro O X hS hX hpf hk ⟨x1,x2,x3,x4,x5,l6,l7⟩ (r:Bool×Int×Int×Int×(List Token)) (h:F44 x1 x2 x3 x4 x5 l6 l7=some r)
 refine gs ?_
 rw[F44]at h
 refine R [0] ?_
 refine R [0,3] ?_
 refine seq (Ua1 h [0,3,4] (Z hk 0 76 (x1,x2,x3,x4,x5,l6,l7)) fun r13 h=>?_)
 obtain⟨⟨r17,r18,x19,x20⟩,q21,h⟩:=obs h
 dsimp only at h
 have f22:=(hk 1 77 rfl).ret (x1,x2,x3,x4,x5,l6,l7) q21 rfl rfl
 have e23:Q1q O [V0 x1 x2 l6.length l7.length x3 x4 x5,rTo l6,rSt l7] 77 [.ref 0 0]=some (Q1z [as_ r17,ab r18],[V0 x1 x2 l6.length l7.length x3 x19 x20,rTo l6,rSt l7]):=Q0p rfl rfl rfl f22 rfl rfl rfl
 refine seq (rg hS [0,3,4,5,6] (di1 (ap0 77 hpf e23)) ?_)
 refine seq (R [0,3,4,5,21] ?_)
 refine ik h (fun h=>?_) fun h=>?_
 ·exact Rt h [2]
 refine seq (R [0,3,4,5,23] ?_)
 refine ik h (fun h=>?_) fun h=>?_
 ·refine R [0,3,4,5] ?_
  obtain⟨⟨r26,x27,x28,o29⟩,q30,h⟩:=obs h
  dsimp only at h
  have f31:=(hk 2 78 rfl).ret (Token.mk 2 x2 r17 [],r13,x1,IntKind.wrap .i64 (x2+(r17.length:Int)),x3,x19,x20,l6,l7) q30 rfl rfl
  try simp only[PVE]at f31
  have e32:Q1q O [V0 x1 (IntKind.wrap .i64 (x2+(r17.length:Int))) l6.length l7.length x3 x19 x20,rTo l6,rSt l7] 78 [.ref 0 0,.pv (PV.agg [.int .i64 2,.int .i64 x2,.str r17,.str []]),ab r13]=some (Q1z [ab r26],[V0 x1 (IntKind.wrap .i64 (x2+(r17.length:Int))) o29.length l7.length x3 x27 x28,rTo o29,rSt l7]):=Q0p rfl rfl rfl f31 rfl rfl rfl
  refine seq (seq ?_)
  refine rg hS [0,5,39] (di1 (ap0 78 hpf e32)) ?_
  refine ik h (fun h=>?_) fun h=>?_
  ·exact Rt h [2]
  refine seq (seq ?_)
  refine reg hS [(0,.ref 0 0),(45,ab (decide (r17=[36])||decide (r17=[36,35])))] [V0 x1 (IntKind.wrap .i64 (x2+(r17.length:Int))) o29.length l7.length x3 x27 x28,rTo o29,rSt l7] ?_ ?_
  ·clear h hk hS hX c
   exact dh
  refine ik h (fun h=>?_) fun h=>?_
  ·obtain⟨⟨r35,x36,x37,x38,o39⟩,q40,h⟩:=obs h
   dsimp only at h
   have f41:=(hk 3 79 rfl).ret (x1,(IntKind.wrap .i64 (x2+(r17.length:Int))),x3,x27,x28,o29,l7) q40 rfl rfl
   have e42:Q1q O [V0 x1 (IntKind.wrap .i64 (x2+(r17.length:Int))) o29.length l7.length x3 x27 x28,rTo o29,rSt l7] 79 [.ref 0 0]=some (Q1z [ab r35],[V0 x1 x36 o39.length l7.length x3 x37 x38,rTo o39,rSt l7]):=Q0p rfl rfl rfl f41 rfl rfl rfl
   refine seq (rg hS [2] (di1 (ap0 79 hpf e42)) ?_)
   exact Rf h
  exact Rt h [2]
 obtain⟨⟨r43,r44,r45,x46,x47,x48⟩,q49,h⟩:=obs h
 dsimp only at h
 have f50:=(hk 4 75 rfl).ret (x1,x2,x3,x19,x20,l6,l7) q49 rfl rfl
 have e51:Q1q O [V0 x1 x2 l6.length l7.length x3 x19 x20,rTo l6,rSt l7] 75 [.ref 0 0]=some (Q1z [as_ r43,as_ r44,ab r45],[V0 x1 x46 l6.length l7.length x3 x47 x48,rTo l6,rSt l7]):=Q0p rfl rfl rfl f50 rfl rfl rfl
 refine seq (rg hS [0,3,4,6,7,8] (di1 (ap0 75 hpf e51)) ?_)
 refine seq (AW.cases (r45) (fun hsp5=>?_) (fun hsp5=>?_))
 ·replace h:=Z2l hsp5 h
  obtain⟨⟨r52,x53,x54,o55⟩,q56,h⟩:=obs h
  dsimp only at h
  have f57:=(hk 2 78 rfl).ret (Token.mk 1 x2 r43 r44,r13,x1,x46,x3,x47,x48,l6,l7) q56 rfl rfl
  have e58:Q1q O [V0 x1 x46 l6.length l7.length x3 x47 x48,rTo l6,rSt l7] 78 [.ref 0 0,.pv (PV.agg [.int .i64 1,.int .i64 x2,.str r43,.str r44]),ab r13]=some (Q1z [ab r52],[V0 x1 x46 o55.length l7.length x3 x53 x54,rTo o55,rSt l7]):=Q0p rfl rfl rfl f57 rfl rfl rfl
  exact reg hS [(2,ab r52)] [V0 x1 x46 o55.length l7.length x3 x53 x54,rTo o55,rSt l7] (dk1 (an hsp5 (ap0 78 hpf e58))) (Rf h)
 replace h:=Z2m hsp5 h
 exact reg hS [(2,ab false)] [V0 x1 x46 l6.length l7.length x3 x47 x48,rTo l6,rSt l7] (dk1 hsp5) (Rf h)
theorem V7v(c:AllG env [(X5o J1w),(J1l Q7i),Q0w,(K0v J8z),(S42 F42),(K0u J8y),(S44 F44)]):Q0a env (S19 F19):=by
 refine hd c V9r 94 ?_
 rintro O X hS hX hpf hk (s1:Str) (r:(List Token)×Int×Int) (h:F19 s1=some r)
 refine gs ?_
 rw[F19]at h
 refine R [0] ?_
 refine seq (R [0,10] ?_)
 refine ik h (fun h=>?_) fun h=>?_
 ·exact Rt h [2,3,4]
 refine seq (AW.after ?_)
 refine reg hS [(0,as_ s1),(5,.ref 0 0)] [.var [as_ s1,ai 0,.nils,.nils,ai 0,ai 0,ai 0]] dk ?_
 refine⟨⟨sl [(0,as_ s1),(5,.ref 0 0)],94,[V0 s1 0 (List.length ([]:List Token)) (List.length ([]:List Str)) 0 0 0,.row 87 4 (List.map Token.pv ([]:List Token)) true,.row 9 1 (List.map PV.str ([]:List Str)) true]⟩,(Weak.trans (Weak.ownC (σ:=⟨sl [(0,as_ s1),(5,.ref 0 0)],94,[.var [as_ s1,ai 0,.nils,.nils,ai 0,ai 0,ai 0]]⟩) 0 2 87 4 (by decide) (cs:=[as_ s1,ai 0,.nils,.nils,ai 0,ai 0,ai 0]) rfl rfl) (Weak.trans (Weak.slots (L:=[(0,as_ s1),(5,.ref 0 0)]) ⟨rfl,rfl,trivial⟩) (Weak.trans (Weak.ownC (σ:=⟨sl [(0,as_ s1),(5,.ref 0 0)],94,[.var [as_ s1,ai 0,.vec 1 (List.length ([]:List Token)),.nils,ai 0,ai 0,ai 0],.row 87 4 (List.map Token.pv ([]:List Token)) true]⟩) 0 3 9 1 (by decide) (cs:=[as_ s1,ai 0,.vec 1 (List.length ([]:List Token)),.nils,ai 0,ai 0,ai 0]) rfl rfl) (Weak.slots (L:=[(0,as_ s1),(5,.ref 0 0)]) ⟨rfl,rfl,trivial⟩)))),?_⟩
 refine seq (block ?_)
 refine Lp h (fun(x6,x7,x8,x9,l10,l11)=>⟨sl [(0,as_ s1),(5,.ref 0 0)],94,[V0 s1 x6 l10.length l11.length x7 x8 x9,rTo l10,rSt l11]⟩) ?_
 clear h
 rintro⟨x6,x7,x8,x9,l10,l11⟩ m14 h
 rw[X8b]at h
 try dsimp only at h
 refine AW.st (seq ?_)
 refine R [0,5,18] ?_
 refine iz h (fun h=>?_) fun h=>?_
 ·refine skip (block ?_)
  refine R [0,5] ?_
  refine seq (Ua1 h [0,5] (Z hk 0 38 (s1,x6,x6,x8,x9,l10,l11)) fun x16 h=>?_)
  refine seq (Ua1 h [0,5,6] (Z hk 1 39 (s1,x16,x6,x8,x9,l10,l11)) fun r20 h=>?_)
  refine block (R [0,5,6,32] ?_)
  refine iz h (fun h=>?_) fun h=>?_
  ·refine seq (R [0,5,40] ?_)
   refine ik h (fun h=>?_) fun h=>?_
   ·exact Rt h [2,3,4]
   exact Rt h [2,3,4]
  obtain⟨c26,f28,h⟩:=oc h fun _=>Q3m
  try simp only[NRM,Int.reduceToNat]at f28
  refine seq (rg hS [0,5,6,47] (di1 (an f28.1 (an f28.2.1 f28.2.2))) ?_)
  refine iz h (fun h=>?_) fun h=>?_
  ·refine R [0,5,6] ?_
   refine seq (Ua1 h [0,5,6,7] (Zt hk 2 40 (r20,10)) fun n30 h=>?_)
   refine R [0,5,6,7,63] ?_
   refine ik h (fun h=>?_) fun h=>?_
   ·refine G [0,5] ?_
    exact nx h
   exact nx h
  refine srg hS [0,5,6,75] (di1 (an f28.1 (an f28.2.1 f28.2.2))) ?_
  refine iz h (fun h=>?_) fun h=>?_
  ·obtain⟨⟨tag35,r36,x37,x38,x39,o40⟩,q41,h⟩:=obs h
   dsimp only at h
   refine AW.cases (tag35) (fun hsp8=>?_) (fun hsp8=>?_)
   ·subst hsp8
    replace h:=Z2l rfl h
    have f42:=(hk 3 41 rfl).ret (s1,x16,x6,x8,x9,l10,l11) q41 rfl rfl
    simp only[cond_true,cond_false]at f42
    have e43:Q1q O [V0 s1 x16 l10.length l11.length x6 x8 x9,rTo l10,rSt l11] 41 [.ref 0 0]=some (Q1z [ab r36],[.var [as_ s1,ai x37,.vec 1 (List.length o40),.nils,ai x6,ai x38,ai x39],rTo o40,rSt l11]):=Q0p rfl rfl rfl f42 rfl rfl rfl
    refine AW.after ?_
    refine reg hS [(0,as_ s1),(5,.ref 0 0)] [.var [as_ s1,ai x37,.vec 1 (List.length o40),.nils,ai x6,ai x38,ai x39],rTo o40,rSt l11] (dk1 (ap0 41 hpf e43)) ?_
    refine⟨⟨sl [(0,as_ s1),(5,.ref 0 0)],94,[.var [as_ s1,ai x37,.vec 1 (List.length o40),.vec 3 (List.length ([]:List Str)),ai x6,ai x38,ai x39],rTo o40,rSt l11,.row 9 1 (List.map PV.str ([]:List Str)) true]⟩,(Weak.trans (Weak.ownC (σ:=⟨sl [(0,as_ s1),(5,.ref 0 0)],94,[.var [as_ s1,ai x37,.vec 1 (List.length o40),.nils,ai x6,ai x38,ai x39],rTo o40,rSt l11]⟩) 0 3 9 1 (by decide) (cs:=[as_ s1,ai x37,.vec 1 (List.length o40),.nils,ai x6,ai x38,ai x39]) rfl rfl) (Weak.slots (L:=[(0,as_ s1),(5,.ref 0 0)]) ⟨rfl,rfl,trivial⟩)),?_⟩
    exact nx h (Weak.sel [0,1,3] (L:=[(0,as_ s1),(5,.ref 0 0)]) ⟨rfl,rfl,trivial⟩ (by decide) rfl rfl)
   subst hsp8
   replace h:=Z2m rfl h
   have f42:=(hk 3 41 rfl).ret (s1,x16,x6,x8,x9,l10,l11) q41 rfl rfl
   simp only[cond_true,cond_false]at f42
   have e43:Q1q O [V0 s1 x16 l10.length l11.length x6 x8 x9,rTo l10,rSt l11] 41 [.ref 0 0]=some (Q1z [ab r36],[V0 s1 x37 o40.length l11.length x6 x38 x39,rTo o40,rSt l11]):=Q0p rfl rfl rfl f42 rfl rfl rfl
   refine rg hS [0,5] (di1 (ap0 41 hpf e43)) ?_
   exact nx h
  refine seq (Ua1 h [0,5,81] (Zt hk 4 42 (r20,([60,60]:Str))) fun r44 h=>?_)
  refine iz h (fun h=>?_) fun h=>?_
  ·obtain⟨⟨r48,x49,x50,x51,o52,o53⟩,q54,h⟩:=obs h
   dsimp only at h
   have f55:=(hk 5 43 rfl).ret (s1,x16,x6,x8,x9,l10,l11) q54 rfl rfl
   have e56:Q1q O [V0 s1 x16 l10.length l11.length x6 x8 x9,rTo l10,rSt l11] 43 [.ref 0 0]=some (Q1z [ab r48],[V0 s1 x49 o52.length o53.length x6 x50 x51,rTo o52,rSt o53]):=Q0p rfl rfl rfl f55 rfl rfl rfl
   refine rg hS [0,5] (di1 (ap0 43 hpf e56)) ?_
   exact nx h
  obtain⟨⟨r57,x58,x59,x60,o61⟩,q62,h⟩:=obs h
  dsimp only at h
  have f63:=(hk 6 44 rfl).ret (s1,x16,x6,x8,x9,l10,l11) q62 rfl rfl
  have e64:Q1q O [V0 s1 x16 l10.length l11.length x6 x8 x9,rTo l10,rSt l11] 44 [.ref 0 0]=some (Q1z [ab r57],[V0 s1 x58 o61.length l11.length x6 x59 x60,rTo o61,rSt l11]):=Q0p rfl rfl rfl f63 rfl rfl rfl
  refine rg hS [0,5] (di1 (ap0 44 hpf e64)) ?_
  exact nx h
 refine exit (seq ?_)
 apply dgk mixed hS [2,3,4] (ordp hpf (by kernel_rfl))
 ·exact di
 exact Rf h
theorem V7j(c:AllG env [(S72 F72)]):Q0a env (S46 F46):=by
 refine hd c V9c 59 ?_
 rintro O X hS hX hpf hk ⟨s1,tokens2⟩ (r:(List Str)) (h:F46 s1 tokens2=some r)
 have pf_72:O.pf 72=true:=pft hpf 72 rfl
 refine gs ?_
 rw[F46]at h
 refine R [0,1] ?_
 obtain⟨u4,f6,h⟩:=oc h fun _=>V5v
 have f6m:=Z5m (H:=[]) (k1:=.i64) (k2:=.i64) T_42 T_9 (of_eq_true f6.1) (of_eq_true f6.2) (by decide)
 refine seq (reg hS [(0,as_ s1),(1,vTo tokens2),(5,.vec 0 (List.length (List.replicate (Int.toNat (tokens2.length:Int)) ([]:Str))))] [.row 9 1 (List.map PV.str (List.replicate (Int.toNat (tokens2.length:Int)) ([]:Str))) false] ?_ ?_)
 ·simp -implicitDefEqProofs only[RUNS,Q0s,Nat.reduceAdd,Nat.reduceLeDiff,Nat.reduceSub,reduceIte,Nat.reduceEqDiff,Nat.reduceLT,reduceCtorEq,Nat.reduceMul,Nat.reduceBEq,Int.reduceEq,Int.reduceToNat,Int.toNat_zero,Nat.sub_zero,if_true,if_false,eq_self,ne_eq,TYS,f6m,List.length_replicate,List.map_replicate]<;>(try simp only[List.length_take,List.length_drop,List.length_map])
 refine seq (reg hS [(0,as_ s1),(1,vTo tokens2),(5,.vec 0 (List.length (List.replicate (Int.toNat (tokens2.length:Int)) ([]:Str)))),(6,.nils)] [.row 9 1 (List.map PV.str (List.replicate (Int.toNat (tokens2.length:Int)) ([]:Str))) false] dk ?_)
 refine weak (Weak.own 6 3 1 (by decide) rfl) ?_
 refine weak (Weak.slots (L:=[(0,as_ s1),(1,vTo tokens2),(5,.vec 0 (List.length (List.replicate (Int.toNat (tokens2.length:Int)) ([]:Str)))),(6,.vec 1 (List.length ([]:List Int)))]) ⟨rfl,rfl,rfl,rfl,trivial⟩) ?_
 refine seq (R [0,1,5,6,15,16,17] ?_)
 refine block (Lp h (fun(i7,l8,l9)=>⟨sl [(0,as_ s1),(1,vTo tokens2),(5,.vec 0 (List.length l8)),(6,.vec 1 (List.length l9)),(15,vTo tokens2),(16,ai (tokens2.length:Int)),(17,ai i7)],59,[.row 9 1 (List.map PV.str l8) false,.row 3 1 (List.map (PV.int .i64) l9) true]⟩) ?_)
 clear h
 rintro⟨i7,l8,l9⟩ m12 h
 rw[X8a]at h
 try dsimp only at h
 refine AW.st (R [0,1,5,6,15,16,17,18] ?_)
 refine seq (iz h (fun h=>?_) fun h=>?_)
 ·obtain⟨u14,f16,h⟩:=oc h fun _=>Q0f
  refine skip (seq ?_)
  refine block (seq ?_)
  refine rg hS [0,1,5,6,7,8,15,16,17] (di1 (an f16.1 f16.2.1)) ?_
  refine R [0,1,5,6,7,8,15,16,17,23] ?_
  refine block (R [0,1,5,6,7,8,15,16,17,23,24] ?_)
  refine iz h (fun h=>?_) fun h=>?_
  ·obtain⟨out18,q19,h⟩:=obs h
   have f20:=Q2o q19
   try simp only[LNS,List.length_replicate,Nat.reduceAdd,Nat.reduceLeDiff,Nat.add_zero,Nat.reduceMul]at f20
   have f20m:=Q2y (PV.int .i64) q19
   try simp only[PVE,List.nil_append]at f20m
   have f20n:=Q2x q19
   try simp only[LNS]at f20n
   refine reg hS [(0,as_ s1),(1,vTo tokens2),(5,.vec 0 (List.length l8)),(6,.vec 1 (List.length out18)),(15,vTo tokens2),(16,ai (tokens2.length:Int)),(17,ai i7)] [.row 9 1 (List.map PV.str l8) false,.row 3 1 (List.map (PV.int .i64) out18) true,V1 u14] (dk1 (an f20.1 (an f20m f20n))) ?_
   clear f20
   clear f20m
   clear f20n
   refine G [0,1,5,6,15,16,17] ?_
   exact nx h
  refine R [0,1,5,6,8,15,16,17,30] ?_
  refine ik h (fun h=>?_) fun h=>?_
  ·refine R [0,1,5,6,9,15,16,17] ?_
   refine seq (R [0,1,5,9,15,16,17,35,36,37] ?_)
   refine block (Lp h (fun(at22,i23,l24)=>⟨sl [(0,as_ s1),(1,vTo tokens2),(5,.vec 0 (List.length l24)),(9,ai at22),(15,vTo tokens2),(16,ai (tokens2.length:Int)),(17,ai i7),(35,.vec 1 (List.length l9)),(36,ai (l9.length:Int)),(37,ai i23)],59,[.row 9 1 (List.map PV.str l24) false,.row 3 1 (List.map (PV.int .i64) l9) true,V1 u14]⟩) ?_)
   clear h
   rintro⟨at22,i23,l24⟩ m27 h
   rw[X7z]at h
   try dsimp only at h
   refine AW.st (R [0,1,5,9,15,16,17,35,36,37,38] ?_)
   refine seq (iz h (fun h=>?_) fun h=>?_)
   ·obtain⟨n29,f31,h⟩:=oc h fun _=>Q0f
    refine skip (seq ?_)
    refine block (seq ?_)
    refine rg hS [0,1,5,9,11,15,16,17,35,36,37] (di1 (an f31.1 (an f31.2.1 f31.2.2))) ?_
    obtain⟨u32,f34,h⟩:=oc h fun _=>Q0f
    obtain⟨⟨r35,r36,r37⟩,f39,h⟩:=oc h (Zt hk 0 72 (s1,at22,u32.text_))
    obtain⟨w40,f42,h⟩:=oc h fun _=>Q0f
    refine reg hS [(0,as_ s1),(1,vTo tokens2),(5,.vec 0 (List.length (List.set l24 (Int.toNat n29) r35))),(9,ai r36),(15,vTo tokens2),(16,ai (tokens2.length:Int)),(17,ai i7),(35,.vec 1 (List.length l9)),(36,ai (l9.length:Int)),(37,ai i23)] [.row 9 1 (List.map PV.str (List.set l24 (Int.toNat n29) r35)) false,.row 3 1 (List.map (PV.int .i64) l9) true,V1 u14] (dk1 (an f34.1 (an f34.2.1 (an pf_72 (an (ca f39) (an f42.1 (an f42.2.1 f42.2.2))))))) ?_
    refine G [0,1,5,9,15,16,17,35,36,37] ?_
    exact nx h
   refine exit (reg hS [(0,as_ s1),(1,vTo tokens2),(5,.vec 0 (List.length l24)),(6,.nils),(15,vTo tokens2),(16,ai (tokens2.length:Int)),(17,ai i7)] [.row 9 1 (List.map PV.str l24) false,.row 3 1 (List.map (PV.int .i64) l9) true,V1 u14] dk ?_)
   refine weak (Weak.own 6 3 1 (by decide) rfl) ?_
   refine weak (Weak.slots (L:=[(0,as_ s1),(1,vTo tokens2),(5,.vec 0 (List.length l24)),(6,.vec 3 (List.length ([]:List Int))),(15,vTo tokens2),(16,ai (tokens2.length:Int)),(17,ai i7)]) ⟨rfl,rfl,rfl,rfl,rfl,rfl,rfl,trivial⟩) ?_
   refine G [0,1,5,6,15,16,17] ?_
   exact nx h (Weak.sel [0,3] (L:=[(0,as_ s1),(1,vTo tokens2),(5,.vec 0 (List.length l24)),(6,.vec 3 (List.length ([]:List Int))),(15,vTo tokens2),(16,ai (tokens2.length:Int)),(17,ai (IntKind.wrap .i64 (i7+1)))]) ⟨rfl,rfl,rfl,rfl,rfl,rfl,rfl,trivial⟩ (by decide) rfl rfl)
  refine G [0,1,5,6,15,16,17] ?_
  exact nx h
 refine exit (R [4] ?_)
 refine weak (Weak.freeze 0 rfl) ?_
 refine weak (σ':=⟨sl [(4,.vec 0 (List.length l8))],59,[rSt l8,.row 3 1 (List.map (PV.int .i64) l9) true]⟩) (Weak.slots ⟨rfl,trivial⟩) ?_
 exact Rf h
theorem V6p(c:AllG env []):Q0a env (S84 F84):=by
 refine hd c V8g 30 ?_
 rintro O X hS hX hpf hk ⟨ahead1,x2,x3,x4,x5⟩ (r:Token) (h:F84 ahead1 x2 x3 x4 x5=some r)
 refine gs ?_
 rw[F84]at h
 refine R [0,1,4] ?_
 refine seq (seq ?_)
 apply dgk mixed hS [0,1,4,16] (ordp hpf (by kernel_rfl))
 ·exact di
 refine ik h (fun h=>?_) fun h=>?_
 ·exact Rt h [4]
 refine seq ?_
 obtain⟨u8,f10,h⟩:=oc h fun _=>Q0f
 apply dgB mixed hS [(4,some 1),(28,none)] [4] rfl (ordB hpf (B:=[(4,some 1),(28,none)]) (by kernel_rfl))
 ·exact di1 (an f10.1 f10.2.1)
 exact Rf h
theorem K7d(c:AllG env []):Q0a env (S128 F128):=by
 refine hd c V2b 14 ?_
 rintro O X hS hX hpf hk ⟨t1,symbol2⟩ (r:Bool) (h:F128 t1 symbol2=some r)
 refine gs ?_
 rw[F128]at h
 refine R [1,2] ?_
 refine seq (reg hS [(4,ab (decide (t1.kind_=2)&&decide (t1.text_=symbol2)))] [V1 t1] ?_ ?_)
 ·clear h hk hS hX c
  exact dh
 exact Rf h
theorem K7e(c:AllG env [(S84 F84),(S128 F128)]):Q0a env (S127 F127):=by
 refine hd c V2c 9 ?_
 rintro O X hS hX hpf hk ⟨symbol1,x2,x3,x4,x5⟩ (r:Bool) (h:F127 symbol1 x2 x3 x4 x5=some r)
 have pf_84:O.pf 84=false:=pft hpf 84 rfl
 refine gs ?_
 rw[F127]at h
 refine R [0,1] ?_
 obtain⟨r7,f9,h⟩:=oc h (Z hk 0 84 (0,x2,x3,x4,x5))
 obtain⟨r11,f13,h⟩:=oc h (Zt hk 1 128 (r7,symbol1))
 refine seq (rg hS [4] (di1 (an pf_84 (an (cb f9) (ca f13)))) ?_)
 exact Rf h
theorem V6s(c:AllG env [(S84 F84),(S127 F127)]):Q0a env (S80 F80):=by
 refine hd c V8k 29 ?_
 rintro O X hS hX hpf hk ⟨x1,x2,x3,x4⟩ (r:Bool×Int) (h:F80 x1 x2 x3 x4=some r)
 have pf_84:O.pf 84=false:=pft hpf 84 rfl
 refine gs ?_
 rw[F80]at h
 refine R [0] ?_
 refine R [0,3] ?_
 refine seq (block ?_)
 refine Lp h (fun x7=>⟨sl [(0,.ref 0 0),(3,ai x4)],29,[V2 x1 x2 x3 x7]⟩) ?_
 clear h
 rintro x7 m10 h
 rw[X7t]at h
 try dsimp only at h
 obtain⟨r11,f13,h⟩:=oc h (Z hk 0 84 (0,x1,x2,x3,x7))
 refine AW.st (seq ?_)
 refine seq (AW.cases (decide (r11.kind_=3)) (fun hsp12=>?_) (fun hsp12=>?_))
 ·replace h:=Z2l hsp12 h
  refine reg hS [(0,.ref 0 0),(3,ai x4),(15,ab true)] [V2 x1 x2 x3 x7] (dk1 (an pf_84 (an (cb f13) hsp12))) ?_
  refine cond (b:=true) rfl (fun _=>?_) (fun hb=>absurd hb (by decide))
  refine skip (block ?_)
  refine G [0,3] ?_
  exact nx h
 replace h:=Z2m hsp12 h
 obtain⟨r15,f17,h⟩:=oc h (Z hk 1 127 (([59]:Str),x1,x2,x3,x7))
 replace f17:=cb f17
 try simp only[PVE]at f17
 refine reg hS [(0,.ref 0 0),(3,ai x4),(15,ab r15)] [V2 x1 x2 x3 x7] (dk1 (an pf_84 (an (cb f13) (an hsp12 f17)))) ?_
 refine iz h (fun h=>?_) fun h=>?_
 ·refine skip (block ?_)
  refine G [0,3] ?_
  exact nx h
 exact exit (Rt h [2])
theorem K6z(c:AllG env [Q0w]):Q0a env (S133 F133):=by
 refine hd c V1w 12 ?_
 rintro O X hS hX hpf hk (t1:Token) (r:Bool) (h:F133 t1=some r)
 refine gs ?_
 rw[F133]at h
 refine R [1] ?_
 obtain⟨n3,q4,h⟩:=obs h
 replace q4:=Q0b q4
 have f5:=fun hg=>(hk 0 40 rfl).ret (t1.quoted_,49) (q4 hg) rfl rfl
 refine seq (reg hS [(2,ab (decide (t1.kind_=1)&&decide (n3<0)))] [V1 t1] ?_ ?_)
 ·clear h hk hS hX c
  exact dh1 (ap1 40 hpf f5)
 exact Rf h
theorem K6y(c:AllG env [Q0w,Z2c]):Q0a env (S134 F134):=by
 refine hd c V1v 16 ?_
 rintro O X hS hX hpf hk (s1:Str) (r:Bool) (h:F134 s1=some r)
 have pf_40:O.pf 40=true:=pft hpf 40 rfl
 refine gs ?_
 rw[F134]at h
 refine R [0] ?_
 obtain⟨n3,q4,h⟩:=obs h
 replace q4:=Q0b q4
 have f5:=fun hg=>(hk 0 40 rfl).ret (s1,32) (q4 hg) rfl rfl
 obtain⟨s6,f8,h⟩:=oc h fun _ q=>X7i (Q0b q)
 try simp only[LNS,List.length_replicate,Nat.reduceAdd,Nat.reduceLeDiff,Nat.add_zero,Nat.reduceMul]at f8
 obtain⟨s9,f11,h⟩:=oc h fun _ q=>X7i (Q0b q)
 try simp only[LNS,List.length_replicate,Nat.reduceAdd,Nat.reduceLeDiff,Nat.add_zero,Nat.reduceMul]at f11
 obtain⟨ok12,q13,h⟩:=obs h
 replace q13:=Q0b q13
 have f14:=fun hg=>(hk 1 169 rfl).ret (([32,105,102,32,110,111,116,32,119,104,105,108,101,32,102,111,114,32,105,110,32,115,119,105,116,99,104,32,99,97,115,101,32,102,110,32,126,32]:Str),s9) (q13 hg) rfl rfl
 try simp only[PVE]at f14
 refine seq (reg hS [(2,ab ((!decide (s1=[])&&decide (n3<0))&&ok12))] [] ?_ ?_)
 ·clear h hk hS hX c
  exact dh1 (an pf_40 (an f5 (an f8.1 (an f8.2 (an f11.1 (an f11.2 (ap1 169 hpf f14)))))))
 exact Rf h
theorem V6q(c:AllG env [(S133 F133),(S134 F134)]):Q0a env (S83 F83):=by
 refine hd c V8h 12 ?_
 rintro O X hS hX hpf hk (t1:Token) (r:Str) (h:F83 t1=some r)
 have pf_133:O.pf 133=true:=pft hpf 133 rfl
 refine gs ?_
 rw[F83]at h
 refine R [1] ?_
 obtain⟨r3,f5,h⟩:=oc h (Zt hk 0 133 t1)
 obtain⟨r6,q7,h⟩:=obs h
 replace q7:=Q0b q7
 have f8:=fun hg=>(hk 1 134 rfl).ret t1.text_ (q7 hg) rfl rfl
 refine seq (seq ?_)
 refine reg hS [(1,.ref 0 0),(9,ab (r3&&r6))] [V1 t1] ?_ ?_
 ·clear h hk hS hX c
  exact dh1 (an pf_133 (an (ca f5) (ap1 134 hpf f8)))
 refine ik h (fun h=>?_) fun h=>?_
 ·exact Rt h [2]
 exact Rt h [2]
theorem K7c(c:AllG env [(S128 F128)]):Q0a env (S129 F129):=by
 refine hd c V2a 20 ?_
 rintro O X hS hX hpf hk (t1:Token) (r:Bool) (h:F129 t1=some r)
 have pf_128:O.pf 128=true:=pft hpf 128 rfl
 refine gs ?_
 rw[F129]at h
 refine R [1] ?_
 refine seq (R [1,5] ?_)
 refine ik h (fun h=>?_) fun h=>?_
 ·exact Rt h [2]
 obtain⟨r4,f6,h⟩:=oc h (Zt hk 0 128 (t1,([36]:Str)))
 replace f6:=ca f6
 try simp only[PVE]at f6
 obtain⟨r7,q8,h⟩:=obs h
 replace q8:=Q0b q8
 have f9:=fun hg=>(hk 0 128 rfl).ret (t1,([36,35]:Str)) (q8 hg) rfl rfl
 try simp only[PVE]at f9
 obtain⟨r10,q11,h⟩:=obs h
 replace q11:=Q0b q11
 have f12:=fun hg=>(hk 0 128 rfl).ret (t1,([40]:Str)) (q11 hg) rfl rfl
 try simp only[PVE]at f12
 obtain⟨r13,q14,h⟩:=obs h
 replace q14:=Q0b q14
 have f15:=fun hg=>(hk 0 128 rfl).ret (t1,([96]:Str)) (q14 hg) rfl rfl
 try simp only[PVE]at f15
 refine seq (reg hS [(2,ab (((r4||r7)||r10)||r13))] [V1 t1] ?_ ?_)
 ·clear h hk hS hX c
  exact dh1 (an pf_128 (an f6 (an f9 (an f12 f15))))
 exact Rf h
theorem K7b(c:AllG env []):Q0a env (S130 F130):=by
 refine hd c V1z 23 ?_
 rintro O X hS hX hpf hk (t1:Token) (r:Bool) (h:F130 t1=some r)
 refine gs ?_
 rw[F130]at h
 refine R [1] ?_
 obtain⟨c3,f5,h⟩:=oc h fun _ q=>Q4n (Q0b q)
 try simp only[NRM,Int.reduceToNat]at f5
 refine seq (reg hS [(2,ab (decide (t1.kind_=4)||(decide (t1.kind_=2)&&(decide (c3=60)||decide (c3=62)))))] [V1 t1] ?_ ?_)
 ·clear h hk hS hX c
  exact dh1 (an f5.1 (an f5.2.1 f5.2.2))
 exact Rf h
theorem V6r(c:AllG env [(S84 F84),(S83 F83),(S128 F128),(S129 F129),(S130 F130)]):Q0a env (S81 F81):=by
 refine hd c V8j 38 ?_
 rintro O X hS hX hpf hk ⟨inCase1,x2,x3,x4,x5⟩ (r:Bool) (h:F81 inCase1 x2 x3 x4 x5=some r)
 have pf_83:O.pf 83=true:=pft hpf 83 rfl
 have pf_84:O.pf 84=false:=pft hpf 84 rfl
 have pf_128:O.pf 128=true:=pft hpf 128 rfl
 have pf_129:O.pf 129=true:=pft hpf 129 rfl
 have pf_130:O.pf 130=true:=pft hpf 130 rfl
 refine gs ?_
 rw[F81]at h
 refine R [0,1] ?_
 refine seq (Ua1 h [0,1,5] (Z hk 0 84 (0,x2,x3,x4,x5)) fun r7 h=>?_)
 obtain⟨r11,q12,h⟩:=obs h
 replace q12:=Q0b q12
 have f13:=fun hg=>(hk 1 83 rfl).ret r7 (q12 hg) rfl rfl
 refine seq (seq ?_)
 refine AW.cases ((inCase1&&decide (r11=[99,97,115,101]))) (fun hsp14=>?_) (fun hsp14=>?_)
 ·replace h:=Z2l hsp14 h
  try simp only[Bool.and_eq_true,Bool.or_eq_false_iff]at hsp14
  obtain⟨r14,f16,h⟩:=oc h (Z hk 0 84 (1,x2,x3,x4,x5))
  obtain⟨r18,q19,h⟩:=obs h
  have f20:=(hk 2 128 rfl).ret (r14,([61]:Str)) q19 rfl rfl
  try simp only[PVE]at f20
  refine reg hS [(5,.ref 1 0),(19,ab (!r18))] [V2 x2 x3 x4 x5,V1 r7] ?_ ?_
  ·clear h hk hS hX c
   exact dh1 (an pf_83 (an f13 (an hsp14 (an pf_84 (an (cb f16) (ap1 128 hpf f20))))))
  refine ik h (fun h=>?_) fun h=>?_
  ·exact Rt h [4]
  obtain⟨r22,f24,h⟩:=oc h (Zt hk 3 129 r7)
  obtain⟨r25,q26,h⟩:=obs h
  replace q26:=Q0b q26
  have f27:=fun hg=>(hk 4 130 rfl).ret r7 (q26 hg) rfl rfl
  obtain⟨r28,q29,h⟩:=obs h
  replace q29:=Q0b q29
  have f30:=fun hg=>(hk 2 128 rfl).ret (r7,([33]:Str)) (q29 hg) rfl rfl
  try simp only[PVE]at f30
  obtain⟨r31,q32,h⟩:=obs h
  replace q32:=Q0b q32
  have f33:=fun hg=>(hk 2 128 rfl).ret (r7,([64]:Str)) (q32 hg) rfl rfl
  try simp only[PVE]at f33
  obtain⟨r34,q35,h⟩:=obs h
  replace q35:=Q0b q35
  have f36:=fun hg=>(hk 2 128 rfl).ret (r7,([123]:Str)) (q35 hg) rfl rfl
  try simp only[PVE]at f36
  refine seq (reg hS [(4,ab ((((r22||r25)||r28)||r31)||r34))] [V2 x2 x3 x4 x5,V1 r7] ?_ ?_)
  ·clear h hk hS hX c
   exact dh1 (an pf_129 (an (ca f24) (an pf_130 (an f27 (an pf_128 (an f30 (an f33 f36)))))))
  exact Rf h
 replace h:=Z2m hsp14 h
 try simp only[Bool.and_eq_true,Bool.or_eq_false_iff]at hsp14
 refine reg hS [(5,.ref 1 0),(19,ab false)] [V2 x2 x3 x4 x5,V1 r7] ?_ ?_
 ·clear h hk hS hX c
  exact dh1 (an pf_83 (an f13 hsp14))
 refine cond (b:=false) rfl (fun hb=>absurd hb (by decide)) (fun _=>?_)
 obtain⟨r15,f17,h⟩:=oc h (Zt hk 3 129 r7)
 obtain⟨r18,q19,h⟩:=obs h
 replace q19:=Q0b q19
 have f20:=fun hg=>(hk 4 130 rfl).ret r7 (q19 hg) rfl rfl
 obtain⟨r21,q22,h⟩:=obs h
 replace q22:=Q0b q22
 have f23:=fun hg=>(hk 2 128 rfl).ret (r7,([33]:Str)) (q22 hg) rfl rfl
 try simp only[PVE]at f23
 obtain⟨r24,q25,h⟩:=obs h
 replace q25:=Q0b q25
 have f26:=fun hg=>(hk 2 128 rfl).ret (r7,([64]:Str)) (q25 hg) rfl rfl
 try simp only[PVE]at f26
 obtain⟨r27,q28,h⟩:=obs h
 replace q28:=Q0b q28
 have f29:=fun hg=>(hk 2 128 rfl).ret (r7,([123]:Str)) (q28 hg) rfl rfl
 try simp only[PVE]at f29
 refine skip (seq ?_)
 refine reg hS [(4,ab ((((r15||r18)||r21)||r24)||r27))] [V2 x2 x3 x4 x5,V1 r7] ?_ ?_
 ·clear h hk hS hX c
  exact dh1 (an pf_129 (an (ca f17) (an pf_130 (an f20 (an pf_128 (an f23 (an f26 f29)))))))
 exact Rf h
end Go.Abs.U48
