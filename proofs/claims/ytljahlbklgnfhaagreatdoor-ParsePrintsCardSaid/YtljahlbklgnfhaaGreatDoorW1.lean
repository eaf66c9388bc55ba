import Derived.Test.YtljahlbklgnfhaaGreatDoorD1
set_option linter.unusedVariables false
set_option linter.unusedSimpArgs false
set_option linter.defProp false
set_option maxRecDepth 8000
set_option maxHeartbeats 4000000
namespace Go.Abs.U48
open Go.RowKit Go.Proofs AW
theorem V7r{w28:Y12}{w62:Y11}(c:AllG env [(S62 w62),(S28 w28)]):Q0a env (S28 (F28 w28 w62)):=by
 refine hd c K8v 77 ?_
 rintro O X hS hX hpf hk ⟨l1,left2⟩ (r:Int) (h:F28 w28 w62 l1 left2=some r)
 refine gs ?_
 rw[F28]at h
 refine R [0,1] ?_
 refine seq (R [0,1,8] ?_)
 refine ik h (fun h=>?_) fun h=>?_
 ·exact Rt h [4]
 refine seq (R [0,1,10,11] ?_)
 refine block (Lp h (fun(left5,i6)=>⟨sl [(0,vC l1),(1,ai left5),(10,ai (l1.length:Int)),(11,ai i6)],77,[]⟩) ?_)
 clear h
 rintro⟨left5,i6⟩ m9 h
 rw[Z5b]at h
 try dsimp only at h
 refine AW.st (R [0,1,10,11,12] ?_)
 refine seq (iz h (fun h=>?_) fun h=>?_)
 ·refine skip (seq ?_)
  refine block (R [0,1,5,10,11] ?_)
  refine R [0,1,5,10,11] ?_
  obtain⟨u11,f13,h⟩:=oc h fun _ q=>Q6y (Q0b q)
  refine seq (seq ?_)
  refine reg hS [(0,vC l1),(1,ai (IntKind.wrap .i64 (left5-1))),(5,ai i6),(10,ai (l1.length:Int)),(11,ai i6),(36,ab ((decide (IntKind.wrap .i64 (left5-1)<0)||decide (2000<(u11.name_.length:Int)))||decide (IntKind.wrap .i64 (left5-1)<(u11.redirs_.length:Int))))] [] ?_ ?_
  ·clear h hk hS hX c
   exact dh1 (an f13.1 f13.2.1)
  refine ik h (fun h=>?_) fun h=>?_
  ·exact Rt h [4]
  obtain⟨u15,f17,h⟩:=oc h fun _=>Q0f
  obtain⟨r18,f20,h⟩:=oc h (Zt hk 0 62 (u15.words_,IntKind.wrap .i64 (left5-1)))
  refine seq (rg hS [0,1,5,10,11] (di1 (an f17.1 (an f17.2.1 (ca f20)))) ?_)
  obtain⟨r21,f23,h⟩:=oc h (Zt hk 1 28 (u15.kids_,r18))
  refine seq (rg hS [0,1,5,10,11] (di1 (an f17.1 (an f17.2.1 (ca f23)))) ?_)
  refine seq (srg hS [0,1,5,10,11,56,57] (di1 (an f17.1 f17.2.1)) ?_)
  refine block (Lp h (fun(left24,i25)=>⟨sl [(0,vC l1),(1,ai left24),(5,ai i6),(10,ai (l1.length:Int)),(11,ai i6),(56,ai (u15.redirs_.length:Int)),(57,ai i25)],77,[]⟩) ?_)
  clear h
  rintro⟨left24,i25⟩ m28 h
  rw[Z6y]at h
  try dsimp only at h
  refine AW.st (R [0,1,5,10,11,56,57,58] ?_)
  refine seq (iz h (fun h=>?_) fun h=>?_)
  ·refine skip (seq ?_)
   refine block (R [0,1,5,6,10,11,56,57] ?_)
   obtain⟨u30,f32,h⟩:=oc h fun _=>Q0f
   obtain⟨r33,f35,h⟩:=oc h (Zt hk 0 62 (([u30.word_]:List Word),left24))
   replace f35:=ca f35
   try simp only[PVE]at f35
   refine reg hS [(0,vC l1),(1,ai r33),(5,ai i6),(10,ai (l1.length:Int)),(11,ai i6),(56,ai (u15.redirs_.length:Int)),(57,ai i25)] [] (dk1 (an f17.1 (an f17.2.1 (an f32.1 (an f32.2.1 f35))))) ?_
   refine G [0,1,5,10,11,56,57] ?_
   exact nx h
  refine exit (R [0,1,10,11,74] ?_)
  refine ik h (fun h=>?_) fun h=>?_
  ·exact Rt h [4]
  refine G [0,1,10,11] ?_
  exact nx h
 exact exit (Rt h [4])
theorem V7d{w28:Y12}{w62:Y11}(c:AllG env [(S62 w62),(S28 w28)]):Q0a env (S62 (F62 w28 w62)):=by
 refine hd c K8n 51 ?_
 rintro O X hS hX hpf hk ⟨l1,left2⟩ (r:Int) (h:F62 w28 w62 l1 left2=some r)
 refine gs ?_
 rw[F62]at h
 refine R [0,1] ?_
 refine seq (R [0,1,7,8] ?_)
 refine block (Lp h (fun(left4,i5)=>⟨sl [(0,vWo l1),(1,ai left4),(7,ai (l1.length:Int)),(8,ai i5)],51,[]⟩) ?_)
 clear h
 rintro⟨left4,i5⟩ m8 h
 rw[Z6x]at h
 try dsimp only at h
 refine AW.st (R [0,1,7,8,9] ?_)
 refine seq (iz h (fun h=>?_) fun h=>?_)
 ·refine skip (seq ?_)
  refine block (R [0,1,5,7,8] ?_)
  refine R [0,1,5,7,8] ?_
  obtain⟨u10,f12,h⟩:=oc h fun _ q=>Q6y (Q0b q)
  refine seq (seq ?_)
  refine reg hS [(0,vWo l1),(1,ai (IntKind.wrap .i64 (left4-1))),(5,ai i5),(7,ai (l1.length:Int)),(8,ai i5),(32,ab ((decide (IntKind.wrap .i64 (left4-1)<0)||decide (2000<(u10.text_.length:Int)))||decide (2000<(u10.quoted_.length:Int))))] [] ?_ ?_
  ·clear h hk hS hX c
   exact dh1 (an f12.1 f12.2.1)
  refine ik h (fun h=>?_) fun h=>?_
  ·exact Rt h [4]
  obtain⟨u14,f16,h⟩:=oc h fun _=>Q0f
  obtain⟨r17,f19,h⟩:=oc h (Zt hk 0 62 (u14.words_,IntKind.wrap .i64 (left4-1)))
  refine seq (rg hS [0,1,5,7,8] (di1 (an f16.1 (an f16.2.1 (ca f19)))) ?_)
  obtain⟨r20,f22,h⟩:=oc h (Zt hk 1 28 (u14.cmd_,r17))
  refine seq (rg hS [0,1,7,8] (di1 (an f16.1 (an f16.2.1 (ca f22)))) ?_)
  refine R [0,1,7,8,48] ?_
  refine ik h (fun h=>?_) fun h=>?_
  ·exact Rt h [4]
  refine G [0,1,7,8] ?_
  exact nx h
 exact exit (Rt h [4])
theorem V8c(c:AllG env [(S28 (K28 BIG))]):Q0a env (S12 F12):=by
 refine hd c V9w 6 ?_
 rintro O X hS hX hpf hk (l1:(List Cmd)) (r:Bool) (h:F12 l1=some r)
 refine gs ?_
 rw[F12]at h
 refine R [0] ?_
 obtain⟨r3,q4,h⟩:=obs h
 have f5:=hk 0 28 rfl
 replace f5:=f5.ret (l1,2000) q4 rfl rfl
 refine seq (rg hS [2] (di1 (ap1 28 hpf f5)) ?_)
 exact Rf h
theorem V6x(c:AllG env []):Q0a env (S74 F74):=by
 refine hd c V8q 18 ?_
 rintro O X hS hX hpf hk ⟨s1,prefix2⟩ (r:Bool) (h:F74 s1 prefix2=some r)
 refine gs ?_
 rw[F74]at h
 refine R [0,1] ?_
 obtain⟨t4,f6,h⟩:=oc h fun _ q=>Z7m (Q0b q)
 try simp only[NRM,Int.reduceToNat]at f6
 have f6e:=f6.2.2.2.2
 try simp only[NRM,Int.reduceToNat]at f6e
 have f6l:=f6.2.2.1
 try simp only[NRM,Int.reduceToNat]at f6l
 refine seq (reg hS [(4,ab (decide ((prefix2.length:Int)≤(s1.length:Int))&&decide (t4=prefix2)))] [] ?_ ?_)
 ·clear h hk hS hX c
  exact dh1 (an f6.1 (an f6.2.1 (an f6l (an f6.2.2.2.1 f6e))))
 exact Rf h
theorem V7l(c:AllG env [(S74 F74)]):Q0a env (S42 F42):=by
 refine hd c V9f 8 ?_
 rintro O X hS hX hpf hk ⟨s1,prefix2⟩ (r:Bool) (h:F42 s1 prefix2=some r)
 refine gs ?_
 rw[F42]at h
 refine R [0,1] ?_
 refine seq (Ua1 h [4] (Zt hk 0 74 (s1,prefix2)) fun r4 h=>?_)
 exact Rf h
theorem K7j(c:AllG env [J6f]):Q0a env (S117 F117):=by
 refine hd c V2l 40 ?_
 rintro O X hS hX hpf hk ⟨s1,at2⟩ (r:(List Str)×(List Int)) (h:F117 s1 at2=some r)
 refine gs ?_
 rw[F117]at h
 refine R [0,1] ?_
 refine seq (reg hS [(0,as_ s1),(1,ai at2),(6,.nils)] [] dk ?_)
 refine weak (Weak.own 6 9 1 (by decide) rfl) ?_
 refine weak (Weak.slots (L:=[(0,as_ s1),(1,ai at2),(6,.vec 0 (List.length ([]:List Str)))]) ⟨rfl,rfl,rfl,trivial⟩) ?_
 refine seq (reg hS [(0,as_ s1),(1,ai at2),(6,.vec 0 (List.length ([]:List Str))),(7,.nils)] [.row 9 1 (List.map PV.str ([]:List Str)) true] dk ?_)
 refine weak (Weak.own 7 3 1 (by decide) rfl) ?_
 refine weak (Weak.slots (L:=[(0,as_ s1),(1,ai at2),(6,.vec 0 (List.length ([]:List Str))),(7,.vec 1 (List.length ([]:List Int)))]) ⟨rfl,rfl,rfl,rfl,trivial⟩) ?_
 refine seq (block ?_)
 refine Lp h (fun(at5,l6,l7)=>⟨sl [(0,as_ s1),(1,ai at5),(6,.vec 0 (List.length l6)),(7,.vec 1 (List.length l7))],40,[rSt l6,.row 3 1 (List.map (PV.int .i64) l7) true]⟩) ?_
 clear h
 rintro⟨at5,l6,l7⟩ m10 h
 rw[X3i]at h
 try dsimp only at h
 refine AW.st (seq ?_)
 refine R [0,1,6,7,14] ?_
 refine iz h (fun h=>?_) fun h=>?_
 ·obtain⟨t12,f14,h⟩:=oc h fun _=>Q1j
  try simp only[NRM,Int.reduceToNat]at f14
  have f14e:=f14.2.2.2.2
  try simp only[NRM,Int.reduceToNat]at f14e
  have f14l:=f14.2.2.1
  try simp only[NRM,Int.reduceToNat]at f14l
  obtain⟨⟨a15,b16,ok17⟩,f19,h⟩:=oc h (Zt hk 0 161 (t12,([10]:Str)))
  replace f19:=ca f19
  try simp only[PVE]at f19
  refine skip (block ?_)
  refine seq (rg hS [0,1,6,7,8,10] (di1 (an f14.1 (an f14.2.1 (an f14l (an f14.2.2.2.1 (an f14e f19)))))) ?_)
  refine R [0,1,6,7,8,10] ?_
  refine seqM ⟨sl [(0,as_ s1),(1,ai (bif ok17 then IntKind.wrap .i64 ((IntKind.wrap .i64 (at5+(a15.length:Int)))+1)else IntKind.wrap .i64 (at5+(a15.length:Int)))),(6,.vec 0 (List.length l6)),(7,.vec 1 (List.length l7)),(8,as_ a15)],40,[rSt l6,.row 3 1 (List.map (PV.int .i64) l7) true]⟩ ?_ ?_
  ·refine R [0,1,6,7,8,27] ?_
   refine cond (b:=ok17) rfl (fun hb20=>?_) (fun hb20=>?_)
   ·refine G [0,1,6,7,8] ?_
    exact Weak.of_eq (Weak.slots (L:=[(0,as_ s1),(1,ai (IntKind.wrap .i64 ((IntKind.wrap .i64 (at5+(a15.length:Int)))+1))),(6,.vec 0 (List.length l6)),(7,.vec 1 (List.length l7)),(8,as_ a15)]) kp) (wq hb20)
   exact skip (Weak.of_eq (Weak.slots (L:=[(0,as_ s1),(1,ai (IntKind.wrap .i64 (at5+(a15.length:Int)))),(6,.vec 0 (List.length l6)),(7,.vec 1 (List.length l7)),(8,as_ a15)]) kp) (wq hb20))
  obtain⟨out21,q22,h⟩:=obs h
  have f23:=Q2o q22
  try simp only[LNS,List.length_replicate,Nat.reduceAdd,Nat.reduceLeDiff,Nat.add_zero,Nat.reduceMul]at f23
  have f23m:=Q2y PV.str q22
  try simp only[PVE,List.nil_append]at f23m
  have f23n:=Q2x q22
  try simp only[LNS]at f23n
  obtain⟨out24,q25,h⟩:=obs h
  have f26:=Q2o q25
  try simp only[LNS,List.length_replicate,Nat.reduceAdd,Nat.reduceLeDiff,Nat.add_zero,Nat.reduceMul]at f26
  have f26m:=Q2y (PV.int .i64) q25
  try simp only[PVE,List.nil_append]at f26m
  have f26n:=Q2x q25
  try simp only[LNS]at f26n
  refine reg hS [(0,as_ s1),(1,ai (bif ok17 then IntKind.wrap .i64 ((IntKind.wrap .i64 (at5+(a15.length:Int)))+1)else IntKind.wrap .i64 (at5+(a15.length:Int)))),(6,.vec 0 (List.length out21)),(7,.vec 1 (List.length out24))] [rSt out21,.row 3 1 (List.map (PV.int .i64) out24) true] (dk1 (an f23.1 (an f23m (an f23n (an f26.1 (an f26m f26n)))))) ?_
  clear f23
  clear f23m
  clear f23n
  clear f26
  clear f26m
  clear f26n
  exact nx h
 exact exit (Rt h [4,5])
theorem K7i(c:AllG env []):Q0a env (S118 F118):=by
 refine hd c V2k 19 ?_
 rintro O X hS hX hpf hk ⟨s1,v2⟩ (r:Int) (h:F118 s1 v2=some r)
 refine gs ?_
 rw[F118]at h
 refine R [0,1] ?_
 refine seq (R [0,1,7,8] ?_)
 refine block (Lp h (fun i4=>⟨sl [(0,vS s1),(1,as_ v2),(7,ai (s1.length:Int)),(8,ai i4)],19,[]⟩) ?_)
 clear h
 rintro i4 m7 h
 rw[X3h]at h
 try dsimp only at h
 refine AW.st (R [0,1,7,8,9] ?_)
 refine seq (iz h (fun h=>?_) fun h=>?_)
 ·refine skip (seq ?_)
  refine block (R [0,1,5,7,8] ?_)
  obtain⟨w9,f11,h⟩:=oc h fun _=>Q0f
  refine seq (rg hS [0,1,5,7,8,16] (di1 (an f11.1 f11.2.1)) ?_)
  refine ik h (fun h=>?_) fun h=>?_
  ·exact Rt h [4]
  refine G [0,1,7,8] ?_
  exact nx h
 exact exit (Rt h [4])
theorem V6y(c:AllG env [(S117 F117),(S118 F118),X2g]):Q0a env (S72 F72):=by
 refine hd c V8s 44 ?_
 rintro O X hS hX hpf hk ⟨s1,at2,end3⟩ (r:Str×Int×Int) (h:F72 s1 at2 end3=some r)
 have pf_119:O.pf 119=true:=pft hpf 119 rfl
 refine gs ?_
 rw[F72]at h
 refine R [0,1,2] ?_
 refine seq (seq ?_)
 refine reg hS [(0,as_ s1),(1,ai at2),(2,as_ end3),(20,ab (decide (at2<0)||decide ((s1.length:Int)<at2)))] [] ?_ ?_
 ·clear h hk hS hX c
  exact dh
 refine ik h (fun h=>?_) fun h=>?_
 ·exact Rt h [6,7,8]
 refine seq (Ua2 h [2,9,10] (Zt hk 0 117 (s1,at2)) fun r8 r9 h=>?_)
 refine seq (Ua1 h [9,10,11] (Zt hk 1 118 (r8,end3)) fun r12 h=>?_)
 refine seq (R [9,10,11,31] ?_)
 refine ik h (fun h=>?_) fun h=>?_
 ·exact Rt h [6,7,8]
 refine R [9,10,11,12] ?_
 refine seq (R [9,10,11,12,33] ?_)
 refine ik h (fun h=>?_) fun h=>?_
 ·obtain⟨l17,q18,h⟩:=obs h
  have f19:=Z4c q18
  try simp only[NRM,Int.reduceToNat]at f19
  have f19l:=f19.2.2.1
  have f19m:=Z2u PV.str q18
  try simp only[NRM,Int.reduceToNat]at f19l f19m
  obtain⟨s20,f22,h⟩:=oc h (Zt hk 2 119 (l17,([10]:Str)))
  replace f22:=ca f22
  try simp only[PVE]at f22
  obtain⟨s23,f25,h⟩:=oc h fun _=>Q1a
  try simp only[LNS,List.length_replicate,Nat.reduceAdd,Nat.reduceLeDiff,Nat.add_zero,Nat.reduceMul]at f25
  refine rg hS [10,11,12] (di1 (an f19.1 (an f19.2.1 (an f19l (an f19.2.2.2 (an f19m (an pf_119 (an f22 (an f25.1 f25.2))))))))) ?_
  clear f19 f19l f19m
  refine seq ?_
  obtain⟨n26,f28,h⟩:=oc h fun _=>Q0f
  apply dgk mixed hS [6,7,8] (ordp hpf (by kernel_rfl))
  ·exact di1 (an f28.1 f28.2.1)
  exact Rf h
 refine seq ?_
 obtain⟨n29,f31,h⟩:=oc h fun _=>Q0f
 apply dgk mixed hS [6,7,8] (ordp hpf (by kernel_rfl))
 ·exact di1 (an f31.1 f31.2.1)
 exact Rf h
theorem X9w(c:AllG env []):Q0a env (J1k Q8a):=by
 refine hd c V8r 15 ?_
 rintro O X hS hX hpf hk ⟨off1,e2,x3,x4,x5,x6,x7,l8,l9⟩ (r:Bool×Int×Int) (h:Q8a off1 e2 x3 x4 x5 x6 x7 l8 l9=some r)
 refine gs ?_
 rw[Q8a]at h
 refine R [0,1,2] ?_
 refine R [] ?_
 exact Rt h [6]
theorem X9x(c:AllG env [(J1k Q8a)]):Q0a env (J8w Q9x):=by
 refine hd c V8t 25 ?_
 rintro O X hS hX hpf hk ⟨t1,x2,x3,x4,x5,x6,l7,l8⟩ (r:Bool×Int×Int×(List Token)) (h:Q9x t1 x2 x3 x4 x5 x6 l7 l8=some r)
 refine gs ?_
 rw[Q9x]at h
 refine R [0,3] ?_
 refine seq (R [0,3,10] ?_)
 refine ik h (fun h=>?_) fun h=>?_
 ·refine seq (Ua3 h [4] (Z hk 0 73 (t1.at_,4,x2,x3,x4,x5,x6,l7,l8)) fun r14 x15 x16 h=>?_)
  exact Rf h
 obtain⟨out20,q21,h⟩:=obs h
 have f22:=Q2o q21
 try simp only[LNS,List.length_replicate,Nat.reduceAdd,Nat.reduceLeDiff,Nat.add_zero,Nat.reduceMul]at f22
 have f22m:=Q2y Token.pv q21
 try simp only[PVE,List.nil_append]at f22m
 have f22n:=Q2x q21
 try simp only[LNS]at f22n
 refine seq (AW.dregB mixed hS [(3,some 3)] rfl (ordB hpf (B:=[(3,some 3)]) (by kernel_rfl)) [] [V0 x2 x3 out20.length l8.length x4 x5 x6,rTo out20,rSt l8,V1 t1] ?_ ?_)
 ·exact dk1 (an f22.1 (an f22m f22n))
 clear f22
 clear f22m
 clear f22n
 exact Rt h [4]
theorem K0c(c:AllG env []):Q0a env (J1l Q7i):=by
 refine hd c V9i 12 ?_
 rintro O X hS hX hpf hk ⟨x1,x2,x3,x4,x5,l6,l7⟩ (r:Str) (h:Q7i x1 x2 x3 x4 x5 l6 l7=some r)
 refine gs ?_
 rw[Q7i]at h
 refine R [0] ?_
 refine seq ?_
 obtain⟨t9,f11,h⟩:=oc h fun _=>Q1j
 try simp only[NRM,Int.reduceToNat]at f11
 have f11e:=f11.2.2.2.2
 try simp only[NRM,Int.reduceToNat]at f11e
 have f11l:=f11.2.2.1
 try simp only[NRM,Int.reduceToNat]at f11l
 apply dgk mixed hS [2] (ordp hpf (by kernel_rfl))
 ·exact di1 (an f11.1 (an f11.2.1 (an f11l (an f11.2.2.2.1 f11e))))
 exact Rf h
theorem K0d(c:AllG env [(J1l Q7i),(S42 F42)]):Q0a env (X5o J1w):=by
 refine hd c V9j 29 ?_
 rintro O X hS hX hpf hk ⟨x1,x2,x3,x4,x5,l6,l7⟩ (r:Int) (h:J1w x1 x2 x3 x4 x5 l6 l7=some r)
 have pf_42:O.pf 42=true:=pft hpf 42 rfl
 refine gs ?_
 rw[J1w]at h
 refine block (Lp h (fun x9=>⟨sl [(0,.ref 0 0)],29,[V0 x1 x9 l6.length l7.length x3 x4 x5,rTo l6,rSt l7]⟩) ?_)
 clear h
 rintro x9 m12 h
 rw[J6r]at h
 try dsimp only at h
 refine AW.st (block ?_)
 refine seq (Ua1 h [0,2] (Z hk 0 39 (x1,x9,x3,x4,x5,l6,l7)) fun r13 h=>?_)
 obtain⟨r17,f19,h⟩:=oc h (Zt hk 1 42 (r13,([32]:Str)))
 replace f19:=ca f19
 try simp only[PVE]at f19
 obtain⟨r20,q21,h⟩:=obs h
 replace q21:=Q0b q21
 have f22:=fun hg=>(hk 1 42 rfl).ret (r13,([9]:Str)) (q21 hg) rfl rfl
 try simp only[PVE]at f22
 refine block (seq ?_)
 refine reg hS [(0,.ref 0 0),(2,as_ r13),(5,ab (r17||r20))] [V0 x1 x9 l6.length l7.length x3 x4 x5,rTo l6,rSt l7] ?_ ?_
 ·clear h hk hS hX c
  exact dh1 (an pf_42 (an f19 f22))
 refine iz h (fun h=>?_) fun h=>?_
 ·refine G [0] ?_
  exact nx h
 refine seq (Ua1 h [0,19] (Zt hk 1 42 (r13,([92,10]:Str))) fun r24 h=>?_)
 refine iz h (fun h=>?_) fun h=>?_
 ·refine G [0] ?_
  exact nx h
 exact Rf h
theorem K0b(c:AllG env [(J8w Q9x),(S72 F72),(J1k Q8a)]):Q0a env (K0v J8z):=by
 refine hd c V9g 63 ?_
 rintro O X hS hX hpf hk ⟨x1,x2,x3,x4,x5,l6,l7⟩ (r:Bool×Bool×Int×Int×Int×(List Token)) (h:J8z x1 x2 x3 x4 x5 l6 l7=some r)
 refine gs ?_
 rw[J8z]at h
 refine R [0] ?_
 obtain⟨⟨r14,x15,x16,o17⟩,q18,h⟩:=obs h
 dsimp only at h
 have f19:=(hk 0 71 rfl).ret (Token.mk 3 x2 [10] [],x1,x2,x3,x4,x5,l6,l7) q18 rfl rfl
 try simp only[PVE]at f19
 have e20:Q1q O [V0 x1 x2 l6.length l7.length x3 x4 x5,rTo l6,rSt l7] 71 [.ref 0 0,.pv (PV.agg [.int .i64 3,.int .i64 x2,.str [10],.str []])]=some (Q1z [ab r14],[V0 x1 x2 o17.length l7.length x3 x15 x16,rTo o17,rSt l7]):=Q0p rfl rfl rfl f19 rfl rfl rfl
 refine seq (seq ?_)
 refine rg hS [0,15] (di1 (ap0 71 hpf e20)) ?_
 refine ik h (fun h=>?_) fun h=>?_
 ·exact Rt h [2]
 refine R [0] ?_
 refine seq (R [0,26,27,28] ?_)
 refine block (Lp h (fun(i22,x23)=>⟨sl [(0,.ref 0 0),(26,.vec 2 (List.length l7)),(27,ai (l7.length:Int)),(28,ai i22)],63,[V0 x1 x23 o17.length l7.length x3 x15 x16,rTo o17,rSt l7]⟩) ?_)
 clear h
 rintro⟨i22,x23⟩ m26 h
 rw[J6q]at h
 try dsimp only at h
 refine AW.st (R [0,26,27,28,29] ?_)
 refine seq (iz h (fun h=>?_) fun h=>?_)
 ·obtain⟨w28,f30,h⟩:=oc h fun _=>Q0f
  refine skip (seq ?_)
  refine block (seq ?_)
  refine rg hS [0,4,26,27,28] (di1 (an f30.1 (an f30.2.1 f30.2.2))) ?_
  refine seq ?_
  obtain⟨⟨r31,r32,r33⟩,f35,h⟩:=oc h (Zt hk 1 72 (x1,x23,w28))
  apply dgk mixed hS [0,6,7,26,27,28] (ordp hpf (by kernel_rfl))
  ·exact di1 (ca f35)
  refine seq (R [0,6,7,26,27,28,47] ?_)
  refine ik h (fun h=>?_) fun h=>?_
  ·refine seq (Ua3 h [2] (Z hk 2 73 (x23,r33,x1,x23,x3,x15,x16,o17,l7)) fun r37 x38 x39 h=>?_)
   exact Rf h
  refine G [0,26,27,28] ?_
  refine G [0,26,27,28] ?_
  exact nx h
 refine exit (R [] ?_)
 exact Rt h [2]
theorem X4t(c:AllG env [(J1l Q7i),Q0w,(S42 F42)]):Q0a env (X2k Z7f):=by
 refine hd c V2i 19 ?_
 rintro O X hS hX hpf hk ⟨x1,x2,x3,x4,x5,l6,l7⟩ (r:Bool) (h:Z7f x1 x2 x3 x4 x5 l6 l7=some r)
 have pf_40:O.pf 40=true:=pft hpf 40 rfl
 refine gs ?_
 rw[Z7f]at h
 refine R [0] ?_
 refine seq (Ua1 h [3] (Z hk 0 39 (x1,x2,x3,x4,x5,l6,l7)) fun r9 h=>?_)
 obtain⟨c13,f15,h⟩:=oc h fun _ q=>Q4n (Q0b q)
 try simp only[NRM,Int.reduceToNat]at f15
 obtain⟨n16,q17,h⟩:=obs h
 replace q17:=Q0b q17
 have f18:=fun hg=>(hk 1 40 rfl).ret (([32,9,10,59,38,124,40,41,123,125,60,62,61,94,96,36,39]:Str),c13) (q17 hg) rfl rfl
 try simp only[PVE]at f18
 obtain⟨r19,q20,h⟩:=obs h
 replace q20:=Q0b q20
 have f21:=fun hg=>(hk 2 42 rfl).ret (r9,([92,10]:Str)) (q20 hg) rfl rfl
 try simp only[PVE]at f21
 refine seq (reg hS [(2,ab ((!decide (r9=[])&&decide (n16<0))&&!r19))] [V0 x1 x2 l6.length l7.length x3 x4 x5,rTo l6,rSt l7] ?_ ?_)
 ·clear h hk hS hX c
  exact dh1 (an f15.1 (an f15.2.1 (an f15.2.2 (an pf_40 (an f18 (ap1 42 hpf f21))))))
 exact Rf h
theorem X4s(c:AllG env [(J1l Q7i),Q0w,(J1k Q8a),Q5q,(S42 F42),Z4x,Q7h]):Q0a env (X2j Z7e):=by
 refine hd c V2g 64 ?_
 rintro O X hS hX hpf hk ⟨x1,x2,x3,x4,x5,l6,l7⟩ (r:Str×Bool×Int×Int×Int) (h:Z7e x1 x2 x3 x4 x5 l6 l7=some r)
 have pf_39:O.pf 39=false:=pft hpf 39 rfl
 refine gs ?_
 rw[Z7e]at h
 refine R [0] ?_
 refine R [0,4] ?_
 refine R [0,4] ?_
 refine R [0,4,5] ?_
 refine block (Lp h (fun(x13,b14)=>⟨sl [(0,.ref 0 0),(4,ai x2),(5,.ref 3 0)],64,[V0 x1 x13 l6.length l7.length x3 x4 x5,rTo l6,rSt l7,.bld b14]⟩) ?_)
 clear h
 rintro⟨x13,b14⟩ m17 h
 rw[J1z]at h
 try dsimp only at h
 obtain⟨r18,f20,h⟩:=oc h (Z hk 0 39 (x1,x13,x3,x4,x5,l6,l7))
 obtain⟨n22,f24,h⟩:=oc h (Zt hk 1 40 (r18,39))
 refine AW.st (block ?_)
 refine seq (rg hS [0,4,5,6] (di1 (an pf_39 (an (cd f20) (ca f24)))) ?_)
 refine seq (R [0,4,5,6,22] ?_)
 refine ik h (fun h=>?_) fun h=>?_
 ·refine seq (Ua3 h [2,3] (Z hk 2 73 (x2,48,x1,x13,x3,x4,x5,l6,l7)) fun r26 x27 x28 h=>?_)
  exact Rf h
 refine seq ?_
 obtain⟨t32,f34,h⟩:=oc h fun _=>Q1j
 try simp only[NRM,Int.reduceToNat]at f34
 have f34e:=f34.2.2.2.2
 try simp only[NRM,Int.reduceToNat]at f34e
 have f34l:=f34.2.2.1
 try simp only[NRM,Int.reduceToNat]at f34l
 obtain⟨⟨n35,c36⟩,q37,h⟩:=obs h
 dsimp only at h
 have f38:=(hk 3 123 rfl).ret (b14,t32) q37 rfl rfl
 have e39:Q1q O [V0 x1 x13 l6.length l7.length x3 x4 x5,rTo l6,rSt l7,.bld b14] 123 [.ref 3 0,as_ t32]=some (Q1z [ai n35,.pv (.nil)],[V0 x1 x13 l6.length l7.length x3 x4 x5,rTo l6,rSt l7,.bld c36]):=Q0p rfl rfl rfl f38 rfl rfl rfl
 apply dgk mixed hS [0,4,5,6] (ordp hpf (by kernel_rfl))
 ·exact di1 (an f34.1 (an f34.2.1 (an f34l (an f34.2.2.2.1 (an f34e (ap0 123 hpf e39))))))
 refine R [0,4,5] ?_
 obtain⟨r40,f42,h⟩:=oc h (Z hk 0 39 (x1,IntKind.wrap .i64 (x13+(IntKind.wrap .i64 (n22+1))),x3,x4,x5,l6,l7))
 obtain⟨r44,f46,h⟩:=oc h (Zt hk 4 42 (r40,([39]:Str)))
 replace f46:=ca f46
 try simp only[PVE]at f46
 refine seq (seq ?_)
 refine rg hS [0,4,5,54] (di1 (an pf_39 (an (cd f42) f46))) ?_
 refine ik h (fun h=>?_) fun h=>?_
 ·obtain⟨s48,q49,h⟩:=obs h
  have f50:=(hk 5 36 rfl).ret c36 q49 rfl rfl
  have e51:Q1q O [V0 x1 (IntKind.wrap .i64 (x13+(IntKind.wrap .i64 (n22+1)))) l6.length l7.length x3 x4 x5,rTo l6,rSt l7,.bld c36] 36 [.ref 3 0]=some (Q1z [as_ s48],[V0 x1 (IntKind.wrap .i64 (x13+(IntKind.wrap .i64 (n22+1)))) l6.length l7.length x3 x4 x5,rTo l6,rSt l7,.gone]):=Q0p rfl rfl rfl f50 rfl rfl rfl
  refine seq (rg hS [2,3] (di1 (ap0 36 hpf e51)) ?_)
  exact Rf h
 obtain⟨d52,q53,h⟩:=obs h
 have f54:=(hk 6 121 rfl).ret (c36,39) q53 rfl rfl
 have e55:Q1q O [V0 x1 (IntKind.wrap .i64 (x13+(IntKind.wrap .i64 (n22+1)))) l6.length l7.length x3 x4 x5,rTo l6,rSt l7,.bld c36] 121 [.ref 3 0,.pv (.int .u8 39)]=some (Q1z [.pv (.nil)],[V0 x1 (IntKind.wrap .i64 (x13+(IntKind.wrap .i64 (n22+1)))) l6.length l7.length x3 x4 x5,rTo l6,rSt l7,.bld d52]):=Q0p rfl rfl rfl f54 rfl rfl rfl
 refine seq (rg hS [0,4,5] (di1 (ap0 121 hpf e55)) ?_)
 refine G [0,4,5] ?_
 exact nx h
theorem X9v(c:AllG env [(X2k Z7f),Q7h,(J1l Q7i),(S42 F42),(X2j Z7e),Q5q,Q9w,Z4x]):Q0a env (X5m J1q):=by
 refine hd c V8p 49 ?_
 rintro O X hS hX hpf hk ⟨x1,x2,x3,x4,x5,l6,l7⟩ (r:Str×Str×Bool×Int×Int×Int) (h:J1q x1 x2 x3 x4 x5 l6 l7=some r)
 have pf_36:O.pf 36=false:=pft hpf 36 rfl
 have pf_39:O.pf 39=false:=pft hpf 39 rfl
 have pf_124:O.pf 124=true:=pft hpf 124 rfl
 refine gs ?_
 rw[J1q]at h
 refine R [0] ?_
 refine R [0,5,6] ?_
 refine block (Lp h (fun(x14,x15,x16,b17,b18)=>⟨sl [(0,.ref 0 0),(5,.ref 3 0),(6,.ref 4 0)],49,[V0 x1 x14 l6.length l7.length x3 x15 x16,rTo l6,rSt l7,.bld b17,.bld b18]⟩) ?_)
 clear h
 rintro⟨x14,x15,x16,b17,b18⟩ m21 h
 rw[J6m]at h
 try dsimp only at h
 refine AW.st (block ?_)
 refine block (seq ?_)
 refine Ua1 h [0,5,6,11] (Z hk 0 120 (x1,x14,x3,x15,x16,l6,l7)) fun r22 h=>?_
 refine iz h (fun h=>?_) fun h=>?_
 ·refine seq ?_
  obtain⟨c27,f29,h⟩:=oc h fun _=>Q3m
  obtain⟨d30,q31,h⟩:=obs h
  have f32:=(hk 1 121 rfl).ret (b17,c27) q31 rfl rfl
  have e33:Q1q O [V0 x1 x14 l6.length l7.length x3 x15 x16,rTo l6,rSt l7,.bld b17,.bld b18] 121 [.ref 3 0,.pv (.int .u8 c27)]=some (Q1z [.pv (.nil)],[V0 x1 x14 l6.length l7.length x3 x15 x16,rTo l6,rSt l7,.bld d30,.bld b18]):=Q0p rfl rfl rfl f32 rfl rfl rfl
  apply dgk mixed hS [0,5,6] (ordp hpf (by kernel_rfl))
  ·exact di1 (an f29.1 (an f29.2.1 (an f29.2.2 (ap0 121 hpf e33))))
  obtain⟨d34,q35,h⟩:=obs h
  have f36:=(hk 1 121 rfl).ret (b18,48) q35 rfl rfl
  have e37:Q1q O [V0 x1 x14 l6.length l7.length x3 x15 x16,rTo l6,rSt l7,.bld d30,.bld b18] 121 [.ref 4 0,.pv (.int .u8 48)]=some (Q1z [.pv (.nil)],[V0 x1 x14 l6.length l7.length x3 x15 x16,rTo l6,rSt l7,.bld d30,.bld d34]):=Q0p rfl rfl rfl f36 rfl rfl rfl
  refine seq (rg hS [0,5,6] (di1 (ap0 121 hpf e37)) ?_)
  refine G [0,5,6] ?_
  exact nx h
 obtain⟨r38,f40,h⟩:=oc h (Z hk 2 39 (x1,x14,x3,x15,x16,l6,l7))
 obtain⟨r42,f44,h⟩:=oc h (Zt hk 3 42 (r38,([39]:Str)))
 replace f44:=ca f44
 try simp only[PVE]at f44
 refine seq (rg hS [0,5,6,32] (di1 (an pf_39 (an (cd f40) f44))) ?_)
 refine iz h (fun h=>?_) fun h=>?_
 ·obtain⟨⟨r46,r47,x48,x49,x50⟩,q51,h⟩:=obs h
  dsimp only at h
  have f52:=(hk 4 122 rfl).ret (x1,x14,x3,x15,x16,l6,l7) q51 rfl rfl
  have e53:Q1q O [V0 x1 x14 l6.length l7.length x3 x15 x16,rTo l6,rSt l7,.bld b17,.bld b18] 122 [.ref 0 0]=some (Q1z [as_ r46,ab r47],[V0 x1 x48 l6.length l7.length x3 x49 x50,rTo l6,rSt l7,.bld b17,.bld b18]):=Q0p rfl rfl rfl f52 rfl rfl rfl
  refine seq (rg hS [0,5,6,7,8] (di1 (ap0 122 hpf e53)) ?_)
  refine seq (R [0,5,6,7,42] ?_)
  refine ik h (fun h=>?_) fun h=>?_
  ·exact Rt h [2,3,4]
  obtain⟨⟨n55,c56⟩,q57,h⟩:=obs h
  dsimp only at h
  have f58:=(hk 5 123 rfl).ret (b17,r46) q57 rfl rfl
  have e59:Q1q O [V0 x1 x48 l6.length l7.length x3 x49 x50,rTo l6,rSt l7,.bld b17,.bld b18] 123 [.ref 3 0,as_ r46]=some (Q1z [ai n55,.pv (.nil)],[V0 x1 x48 l6.length l7.length x3 x49 x50,rTo l6,rSt l7,.bld c56,.bld b18]):=Q0p rfl rfl rfl f58 rfl rfl rfl
  refine seq (rg hS [0,5,6,7] (di1 (ap0 123 hpf e59)) ?_)
  obtain⟨t60,f62,h⟩:=oc h (Zt hk 6 124 (([49]:Str),(r46.length:Int)))
  replace f62:=ca f62
  try simp only[PVE]at f62
  obtain⟨⟨n63,c64⟩,q65,h⟩:=obs h
  dsimp only at h
  have f66:=(hk 5 123 rfl).ret (b18,t60) q65 rfl rfl
  have e67:Q1q O [V0 x1 x48 l6.length l7.length x3 x49 x50,rTo l6,rSt l7,.bld c56,.bld b18] 123 [.ref 4 0,as_ t60]=some (Q1z [ai n63,.pv (.nil)],[V0 x1 x48 l6.length l7.length x3 x49 x50,rTo l6,rSt l7,.bld c56,.bld c64]):=Q0p rfl rfl rfl f66 rfl rfl rfl
  refine rg hS [0,5,6] (di1 (an pf_124 (an f62 (ap0 123 hpf e67)))) ?_
  exact nx h
 obtain⟨s68,q69,h⟩:=obs h
 have f70:=(hk 7 36 rfl).ret b17 q69 rfl rfl
 have e71:Q1q O [V0 x1 x14 l6.length l7.length x3 x15 x16,rTo l6,rSt l7,.bld b17,.bld b18] 36 [.ref 3 0]=some (Q1z [as_ s68],[V0 x1 x14 l6.length l7.length x3 x15 x16,rTo l6,rSt l7,.gone,.bld b18]):=Q0p rfl rfl rfl f70 rfl rfl rfl
 obtain⟨s72,q73,h⟩:=obs h
 have f74:=(hk 7 36 rfl).ret b18 q73 rfl rfl
 have e75:Q1q O [V0 x1 x14 l6.length l7.length x3 x15 x16,rTo l6,rSt l7,.gone,.bld b18] 36 [.ref 4 0]=some (Q1z [as_ s72],[V0 x1 x14 l6.length l7.length x3 x15 x16,rTo l6,rSt l7,.gone,.gone]):=Q0p rfl rfl rfl f74 rfl rfl rfl
 refine seq (rg hS [2,3,4] (di1 (an pf_36 (an e71 e75))) ?_)
 exact Rf h
theorem K0a(c:AllG env [(X5o J1w),(X5m J1q),(J1k Q8a),(J8w Q9x)]):Q0a env (K0u J8y):=by
 refine hd c V9e 58 ?_
 rintro O X hS hX hpf hk ⟨x1,x2,x3,x4,x5,l6,l7⟩ (r:Bool×Int×Int×Int×(List Token)×(List Str)) (h:J8y x1 x2 x3 x4 x5 l6 l7=some r)
 refine gs ?_
 rw[J8y]at h
 refine R [0] ?_
 refine R [0,3] ?_
 refine R [0,3] ?_
 refine seq (Ua1 h [0,3] (Z hk 0 38 (x1,IntKind.wrap .i64 (x2+2),x3,x4,x5,l6,l7)) fun x14 h=>?_)
 refine R [0,3,4] ?_
 obtain⟨⟨r18,r19,r20,x21,x22,x23⟩,q24,h⟩:=obs h
 dsimp only at h
 have f25:=(hk 1 75 rfl).ret (x1,x14,x3,x4,x5,l6,l7) q24 rfl rfl
 have e26:Q1q O [V0 x1 x14 l6.length l7.length x3 x4 x5,rTo l6,rSt l7] 75 [.ref 0 0]=some (Q1z [as_ r18,as_ r19,ab r20],[V0 x1 x21 l6.length l7.length x3 x22 x23,rTo l6,rSt l7]):=Q0p rfl rfl rfl f25 rfl rfl rfl
 refine seq (rg hS [0,3,4,5,6,7] (di1 (ap0 75 hpf e26)) ?_)
 refine seq (R [0,3,4,5,6,32] ?_)
 refine ik h (fun h=>?_) fun h=>?_
 ·exact Rt h [2]
 refine seq (R [0,3,4,5,6,38] ?_)
 refine ik h (fun h=>?_) fun h=>?_
 ·refine seq (Ua3 h [2] (Z hk 2 73 (x14,47,x1,x21,x3,x22,x23,l6,l7)) fun r29 x30 x31 h=>?_)
  exact Rf h
 obtain⟨out35,q36,h⟩:=obs h
 have f37:=Q2o q36
 try simp only[LNS,List.length_replicate,Nat.reduceAdd,Nat.reduceLeDiff,Nat.add_zero,Nat.reduceMul]at f37
 have f37m:=Q2y PV.str q36
 try simp only[PVE,List.nil_append]at f37m
 have f37n:=Q2x q36
 try simp only[LNS]at f37n
 refine seq (reg hS [(0,.ref 0 0),(3,ai x2),(5,as_ r18),(6,as_ r19)] [V0 x1 x21 l6.length out35.length x3 x22 x23,rTo l6,rSt out35] (dk1 (an f37.1 (an f37m f37n))) ?_)
 clear f37
 clear f37m
 clear f37n
 obtain⟨⟨r38,x39,x40,o41⟩,q42,h⟩:=obs h
 dsimp only at h
 have f43:=(hk 3 71 rfl).ret (Token.mk 4 x2 r18 r19,x1,x21,x3,x22,x23,l6,out35) q42 rfl rfl
 have e44:Q1q O [V0 x1 x21 l6.length out35.length x3 x22 x23,rTo l6,rSt out35] 71 [.ref 0 0,.pv (PV.agg [.int .i64 4,.int .i64 x2,.str r18,.str r19])]=some (Q1z [ab r38],[V0 x1 x21 o41.length out35.length x3 x39 x40,rTo o41,rSt out35]):=Q0p rfl rfl rfl f43 rfl rfl rfl
 refine seq (rg hS [2] (di1 (ap0 71 hpf e44)) ?_)
 exact Rf h
theorem V6w(c:AllG env []):Q0a env (S76 F76):=by
 refine hd c V8o 34 ?_
 rintro O X hS hX hpf hk ⟨x1,x2,x3,x4,x5,l6,l7⟩ (r:Bool) (h:F76 x1 x2 x3 x4 x5 l6 l7=some r)
 refine gs ?_
 rw[F76]at h
 refine R [0] ?_
 refine R [0,3] ?_
 obtain⟨u9,f11,h⟩:=oc h fun _ q=>Q6y (Q0b q)
 refine seq (dreg mixed hS (ordp hpf (by kernel_rfl)) [(2,ab ((decide (0<(l6.length:Int))&&decide (u9.kind_=1))&&decide (x3=x2)))] [V0 x1 x2 l6.length l7.length x3 x4 x5,rTo l6,rSt l7] ?_ ?_)
 ·clear h hk hS hX c
  exact dh1 (an f11.1 (an f11.2.1 f11.2.2))
 exact Rf h
theorem K6g(c:AllG env [J3n,Z8o]):Q0a env (S166 F166):=by
 refine hd c V1a 26 ?_
 rintro O X hS hX hpf hk (s1:Str) (r:Bool) (h:F166 s1=some r)
 have pf_189:O.pf 189=true:=pft hpf 189 rfl
 refine gs ?_
 rw[F166]at h
 refine R [0] ?_
 refine seq (Ua2 h [0,3,4] (Zt hk 0 199 s1) fun n3 bad4 h=>?_)
 obtain⟨s7,q8,h⟩:=obs h
 replace q8:=Q0b q8
 have f9:=fun hg=>(hk 1 189 rfl).ret n3 (q8 hg) rfl rfl
 refine seq (reg hS [(2,ab (((!bad4&&decide (0≤n3))&&decide (n3<64))&&decide (s7=s1)))] [] ?_ ?_)
 ·clear h hk hS hX c
  ((simp -implicitDefEqProofs only[RUNS,Q0s,Nat.reduceAdd,Nat.reduceLeDiff,Nat.reduceSub,reduceIte,Nat.reduceEqDiff,Nat.reduceLT,reduceCtorEq,Nat.reduceMul,Nat.reduceBEq,Int.reduceEq,Int.reduceToNat,Int.toNat_zero,Nat.sub_zero,if_true,if_false,eq_self,ne_eq,TYS,pf_189,f9,J0c X2e,J0b X2e]);repeat'(split<;>rename_i hb<;>(try simp only[HBS,ge_iff_le,gt_iff_lt]at hb)<;>(try simp only[hb,Int.toNat_natCast,Int.toNat_zero,Int.reduceToNat,Nat.sub_zero,List.drop_zero,List.length_map]at q)<;>simp -implicitDefEqProofs only[RUNS,Q0s,Nat.reduceAdd,Nat.reduceLeDiff,Nat.reduceSub,reduceIte,Nat.reduceEqDiff,Nat.reduceLT,reduceCtorEq,Nat.reduceMul,Nat.reduceBEq,Int.reduceEq,Int.reduceToNat,Int.toNat_zero,Nat.sub_zero,if_true,if_false,eq_self,ne_eq,TYS,pf_189,f9,J0c X2e,J0b X2e, *,decide_true,decide_false,Decidable.not_not,not_false_eq_true,not_true_eq_false]));all_goals(first|(simp only[Q1y];done)|(simp[*];done)|((try simp only[CLOS,beq_iff_eq,bne_iff_ne,ne_eq]at *)<;>omega)|(simp_all;done)|(simp_all<;>omega))
 exact Rf h
theorem K7g(c:AllG env [Q0w,J6f,(S166 F166)]):Q0a env (S125 F125):=by
 refine hd c V2e 42 ?_
 rintro O X hS hX hpf hk ⟨s1,pair2⟩ (r:Int) (h:F125 s1 pair2=some r)
 have pf_166:O.pf 166=true:=pft hpf 166 rfl
 refine gs ?_
 rw[F125]at h
 refine R [0,1] ?_
 refine seq (Ua1 h [0,1,5] (Zt hk 0 40 (s1,93)) fun n4 h=>?_)
 refine seq (R [0,1,5,12] ?_)
 refine ik h (fun h=>?_) fun h=>?_
 ·exact Rt h [4]
 obtain⟨t8,f10,h⟩:=oc h fun _=>Q1j
 try simp only[NRM,Int.reduceToNat]at f10
 have f10e:=f10.2.2.2.2
 try simp only[NRM,Int.reduceToNat]at f10e
 have f10l:=f10.2.2.1
 try simp only[NRM,Int.reduceToNat]at f10l
 obtain⟨⟨a11,b12,ok13⟩,f15,h⟩:=oc h (Zt hk 1 161 (t8,([61]:Str)))
 replace f15:=ca f15
 try simp only[PVE]at f15
 refine seq (rg hS [1,5,6,7,8] (di1 (an f10.1 (an f10.2.1 (an f10l (an f10.2.2.2.1 (an f10e f15)))))) ?_)
 obtain⟨r16,f18,h⟩:=oc h (Zt hk 2 166 a11)
 obtain⟨r19,q20,h⟩:=obs h
 replace q20:=Q0b q20
 have f21:=fun hg=>(hk 2 166 rfl).ret b12 (q20 hg) rfl rfl
 refine seq (seq ?_)
 refine reg hS [(5,ai n4),(39,ab (!r16||(ok13&&(!pair2||(!decide (b12=[])&&!r19)))))] [] ?_ ?_
 ·clear h hk hS hX c
  exact dh1 (an pf_166 (an (ca f18) f21))
 refine ik h (fun h=>?_) fun h=>?_
 ·exact Rt h [4]
 exact Rt h [4]
end Go.Abs.U48
