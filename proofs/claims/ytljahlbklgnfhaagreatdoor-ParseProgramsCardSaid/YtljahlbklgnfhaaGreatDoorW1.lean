import Derived.Test.YtljahlbklgnfhaaGreatDoorD1
set_option linter.unusedVariables false
set_option linter.unusedSimpArgs false
set_option linter.defProp false
set_option maxRecDepth 8000
set_option maxHeartbeats 4000000
namespace Go.Abs.U48
open Go.RowKit Go.Proofs AW
theorem V5q(c:AllG env []):Q0a env S74:=by
 refine hd c V8c 18 fun O X hS hX hpf hk ⟨s1,prefix2⟩=>fun r (h:F74 s1 prefix2=some r)=>gs ?_
 rw[F74]at h
 refine R [0,1] ?_
 obtain⟨t4,f6,h⟩:=oc h fun _ q=>Z7r (Q0d q)
 try simp only[NRM,Int.reduceToNat]at f6
 have f6e:=f6.2.2.2.2
 try simp only[NRM,Int.reduceToNat]at f6e
 have f6l:=f6.2.2.1
 try simp only[NRM,Int.reduceToNat]at f6l
 refine seq (reg hS [(4,ab (decide ((prefix2.length:Int)≤(s1.length:Int))&&decide (t4=prefix2)))] [] ?_ ?_)
 ·clear h hk hS hX c
  exact dh1 (an f6.1 (an f6.2.1 (an f6l (an f6.2.2.2.1 f6e))))
 exact Rf h
theorem V6j(c:AllG env [S74]):Q0a env S42:=by
 refine hd c V8y 8 fun O X hS hX hpf hk ⟨s1,prefix2⟩=>fun r (h:F42 s1 prefix2=some r)=>gs ?_
 rw[F42]at h
 refine R [0,1] ?_
 refine seq (Ua1 h [4] (Zt2 hk 0 rfl) fun r4 h=>?_)
 exact Rf h
theorem K6f(c:AllG env [J4r]):Q0a env S117:=by
 refine hd c V0y 40 fun O X hS hX hpf hk ⟨s1,at2⟩=>fun r (h:F117 s1 at2=some r)=>gs ?_
 rw[F117]at h
 refine R [0,1] ?_
 refine seq (rg hS [0,1,6] di ?_)
 refine weak (Weak.own 6 9 1 (by decide) rfl) ?_
 refine weak (Weak.slots (L:=[(0,as_ s1),(1,ai at2),(6,.vec 0 (List.length ([]:List Str)))]) ⟨rfl,rfl,rfl,trivial⟩) ?_
 refine seq (rg hS [0,1,6,7] di ?_)
 refine weak (Weak.own 7 3 1 (by decide) rfl) ?_
 refine weak (Weak.slots (L:=[(0,as_ s1),(1,ai at2),(6,.vec 0 (List.length ([]:List Str))),(7,.vec 1 (List.length ([]:List Int)))]) ⟨rfl,rfl,rfl,rfl,trivial⟩) ?_
 refine seq (block ?_)
 refine Lp h (fun(at5,l6,l7)=>⟨sl [(0,as_ s1),(1,ai at5),(6,.vec 0 (List.length l6)),(7,.vec 1 (List.length l7))],40,[rSt l6,.row 3 1 (List.map (PV.int .i64) l7) true]⟩) ?_
 clear h
 rintro⟨at5,l6,l7⟩ m10 h
 rw[Q5s]at h
 try dsimp only at h
 refine AW.st (seq ?_)
 refine R [0,1,6,7,14] ?_
 refine iz h (fun h=>?_) fun h=>?_
 ·obtain⟨t12,f14,h⟩:=oc h fun _=>Q0p
  try simp only[NRM,Int.reduceToNat]at f14
  have f14e:=f14.2.2.2.2
  try simp only[NRM,Int.reduceToNat]at f14e
  have f14l:=f14.2.2.1
  try simp only[NRM,Int.reduceToNat]at f14l
  obtain⟨⟨a15,b16,ok17⟩,f19,h⟩:=oc h (Zt2 hk 0 rfl)
  replace f19:=ca f19
  try simp only[PVE]at f19
  refine skip (block ?_)
  refine seq (rg hS [0,1,6,7,8,10] (di1 (an f14.1 (an f14.2.1 (an f14l (an f14.2.2.2.1 (an f14e f19)))))) ?_)
  refine R [0,1,6,7,8,10] ?_
  refine seqM ⟨sl [(0,as_ s1),(1,ai (bif ok17 then IntKind.wrap .i64 ((IntKind.wrap .i64 (at5+(a15.length:Int)))+1)else IntKind.wrap .i64 (at5+(a15.length:Int)))),(6,.vec 0 (List.length l6)),(7,.vec 1 (List.length l7)),(8,as_ a15)],40,[rSt l6,.row 3 1 (List.map (PV.int .i64) l7) true]⟩ ?_ ?_
  ·refine R [0,1,6,7,8,27] ?_
   refine cond (b:=ok17) rfl (fun hb20=>?_) (fun hb20=>?_)
   ·refine G [0,1,6,7,8] ?_
    exact Weak.of_eq (Weak.slots (L:=[(0,as_ s1),(1,ai (IntKind.wrap .i64 ((IntKind.wrap .i64 (at5+(a15.length:Int)))+1))),(6,.vec 0 (List.length l6)),(7,.vec 1 (List.length l7)),(8,as_ a15)]) kp) (wq hb20)
   exact skip (Weak.of_eq (Weak.slots (L:=[(0,as_ s1),(1,ai (IntKind.wrap .i64 (at5+(a15.length:Int)))),(6,.vec 0 (List.length l6)),(7,.vec 1 (List.length l7)),(8,as_ a15)]) kp) (wq hb20))
  replace h:=ap PV.str h;obtain⟨out21,f23,h⟩:=h
  replace h:=ap (PV.int .i64) h;obtain⟨out24,f26,h⟩:=h
  refine rg hS [0,1,6,7] (di1 (an f23.1 (an f23.2.1 (an f23.2.2 f26)))) ?_
  exact nx h
 exact exit (Rt h [4,5])
theorem K6e(c:AllG env []):Q0a env S118:=by
 refine hd c V0x 19 fun O X hS hX hpf hk ⟨s1,v2⟩=>fun r (h:F118 s1 v2=some r)=>gs ?_
 rw[F118]at h
 refine R [0,1] ?_
 refine seq (R [0,1,7,8] ?_)
 refine block (Lp h (fun i4=>⟨sl [(0,.pv (.slice (List.map PV.str s1))),(1,as_ v2),(7,ai (s1.length:Int)),(8,ai i4)],19,[]⟩) ?_)
 clear h
 rintro i4 m7 h
 rw[X2y]at h
 try dsimp only at h
 refine AW.st (R [0,1,7,8,9] ?_)
 refine seq (iz h (fun h=>?_) fun h=>?_)
 ·refine skip (seq ?_)
  refine block (R [0,1,5,7,8] ?_)
  obtain⟨w9,f11,h⟩:=oc h fun _=>Q0j
  refine seq (rg hS [0,1,5,7,8,16] (di1 (an f11.1 f11.2.1)) ?_)
  refine ik h (fun h=>?_) fun h=>?_
  ·exact Rt h [4]
  refine G [0,1,7,8] ?_
  exact nx h
 exact exit (Rt h [4])
theorem V5r(c:AllG env [S117,S118,X1m]):Q0a env S72:=by
 refine hd c V8e 44 fun O X hS hX hpf hk ⟨s1,at2,end3⟩=>fun r (h:F72 s1 at2 end3=some r)=>gs ?_
 rw[F72]at h
 refine R [0,1,2] ?_
 refine seq (seq ?_)
 refine reg hS [(0,as_ s1),(1,ai at2),(2,as_ end3),(20,ab (decide (at2<0)||decide ((s1.length:Int)<at2)))] [] ?_ ?_
 ·clear h hk hS hX c
  exact dh
 refine ik h (fun h=>?_) fun h=>?_
 ·exact Rt h [6,7,8]
 refine seq (Ua2 h [2,9,10] (Zt2 hk 0 rfl) fun r8 r9 h=>?_)
 refine seq (Ua1 h [9,10,11] (Zt2 hk 1 rfl) fun r12 h=>?_)
 refine seq (R [9,10,11,31] ?_)
 refine ik h (fun h=>?_) fun h=>?_
 ·exact Rt h [6,7,8]
 refine R [9,10,11,12] ?_
 refine seq (R [9,10,11,12,33] ?_)
 refine ik h (fun h=>?_) fun h=>?_
 ·obtain⟨l17,q18,h⟩:=obs h
  have f19:=J9p q18
  try simp only[NRM,Int.reduceToNat]at f19
  have f19l:=f19.2.2.1
  have f19m:=X3z PV.str q18
  try simp only[NRM,Int.reduceToNat]at f19l f19m
  obtain⟨s20,f22,h⟩:=oc h (Zt2 hk 2 rfl)
  replace f22:=ca f22
  try simp only[PVE]at f22
  obtain⟨s23,f25,h⟩:=oc h fun _=>Q5z
  try simp only[LNS,List.length_replicate,Nat.reduceAdd,Nat.reduceLeDiff,Nat.add_zero,Nat.reduceMul]at f25
  refine rg hS [10,11,12] (di1 (an f19.1 (an f19.2.1 (an f19l (an f19.2.2.2 (an f19m (an f22 (an f25.1 f25.2)))))))) ?_
  clear f19 f19l f19m
  refine seq ?_
  obtain⟨n26,f28,h⟩:=oc h fun _=>Q0j
  apply dgk mixed hS [6,7,8] (ordp hpf (by kernel_rfl))
  ·exact di1 (an f28.1 f28.2.1)
  exact Rf h
 refine seq ?_
 obtain⟨n29,f31,h⟩:=oc h fun _=>Q0j
 apply dgk mixed hS [6,7,8] (ordp hpf (by kernel_rfl))
 ·exact di1 (an f31.1 f31.2.1)
 exact Rf h
theorem X9k(c:AllG env []):Q0a env J1a:=by
 refine hd c V8d 15 fun O X hS hX hpf hk ⟨off1,e2,x3,x4,x5,x6,x7,l8,l9⟩=>fun r (h:Z8y off1 e2 x3 x4 x5 x6 x7 l8 l9=some r)=>gs ?_
 rw[Z8y]at h
 refine R [0,1,2] ?_
 refine R [] ?_
 exact Rt h [6]
theorem X9l(c:AllG env [J1a]):Q0a env J7o:=by
 refine hd c V8f 25 fun O X hS hX hpf hk ⟨t1,x2,x3,x4,x5,x6,l7,l8⟩=>fun r (h:Z8z t1 x2 x3 x4 x5 x6 l7 l8=some r)=>gs ?_
 rw[Z8z]at h
 refine R [0,3] ?_
 refine seq (R [0,3,10] ?_)
 refine ik h (fun h=>?_) fun h=>?_
 ·refine seq (Ua3 h [4] (Z9 hk 0 rfl) fun r14 x15 x16 h=>?_)
  exact Rf h
 replace h:=ap Token.pv h;obtain⟨out20,f22,h⟩:=h
 refine seq (AW.dregB mixed hS [(3,some 3)] rfl (ordB hpf (B:=[(3,some 3)]) (by kernel_rfl)) [] [V0 x2 x3 out20.length l8.length x4 x5 x6,rTo out20,rSt l8,V1 t1] ?_ ?_)
 ·exact dk1 f22
 exact Rt h [4]
theorem X9o(c:AllG env []):Q0a env J1b:=by
 refine hd c V9b 12 fun O X hS hX hpf hk ⟨x1,x2,x3,x4,x5,l6,l7⟩=>fun r (h:Z5z x1 x2 x3 x4 x5 l6 l7=some r)=>gs ?_
 rw[Z5z]at h
 refine R [0] ?_
 refine seq ?_
 obtain⟨t9,f11,h⟩:=oc h fun _=>Q0p
 try simp only[NRM,Int.reduceToNat]at f11
 have f11e:=f11.2.2.2.2
 try simp only[NRM,Int.reduceToNat]at f11e
 have f11l:=f11.2.2.1
 try simp only[NRM,Int.reduceToNat]at f11l
 apply dgk mixed hS [2] (ordp hpf (by kernel_rfl))
 ·exact di1 (an f11.1 (an f11.2.1 (an f11l (an f11.2.2.2.1 f11e))))
 exact Rf h
theorem X9p(c:AllG env [J1b,S42]):Q0a env X5d:=by
 refine hd c V9c 29 fun O X hS hX hpf hk ⟨x1,x2,x3,x4,x5,l6,l7⟩=>fun r (h:X2e x1 x2 x3 x4 x5 l6 l7=some r)=>?_
 have pf_42:O.pf 42=true:=pft hpf 42 rfl
 refine gs ?_
 rw[X2e]at h
 refine block (Lp h (fun x9=>⟨sl [(0,.ref 0 0)],29,[V0 x1 x9 l6.length l7.length x3 x4 x5,rTo l6,rSt l7]⟩) ?_)
 clear h
 rintro x9 m12 h
 rw[J5h]at h
 try dsimp only at h
 refine AW.st (block ?_)
 refine seq (Ua1 h [0,2] (Z7 hk 0 rfl) fun r13 h=>?_)
 obtain⟨r17,f19,h⟩:=oc h (Zt2 hk 1 rfl)
 replace f19:=ca f19
 try simp only[PVE]at f19
 obtain⟨r20,q21,h⟩:=obs h
 replace q21:=Q0d q21
 have f22:=fun hg=>(hk 1 42 rfl).ret (r13,([9]:Str)) (q21 hg) rfl rfl
 try simp only[PVE]at f22
 refine block (seq ?_)
 refine reg hS [(0,.ref 0 0),(2,as_ r13),(5,ab (r17||r20))] [V0 x1 x9 l6.length l7.length x3 x4 x5,rTo l6,rSt l7] ?_ ?_
 ·clear h hk hS hX c
  exact dh1 (an pf_42 (an f19 f22))
 refine iz h (fun h=>?_) fun h=>?_
 ·refine G [0] ?_
  exact nx h
 refine seq (Ua1 h [0,19] (Zt2 hk 1 rfl) fun r24 h=>?_)
 refine iz h (fun h=>?_) fun h=>?_
 ·refine G [0] ?_
  exact nx h
 exact Rf h
theorem X9n(c:AllG env [J7o,S72,J1a]):Q0a env K0j:=by
 refine hd c V8z 63 fun O X hS hX hpf hk ⟨x1,x2,x3,x4,x5,l6,l7⟩=>fun r (h:X5m x1 x2 x3 x4 x5 l6 l7=some r)=>gs ?_
 rw[X5m]at h
 refine R [0] ?_
 refine seq (seq ?_)
 refine Ua4 h [0,15] (Z8 hk 0 rfl) fun r14 x15 x16 o17 h=>?_
 refine ik h (fun h=>?_) fun h=>?_
 ·exact Rt h [2]
 refine R [0] ?_
 refine seq (R [0,26,27,28] ?_)
 refine block (Lp h (fun(i22,x23)=>⟨sl [(0,.ref 0 0),(26,.vec 2 (List.length l7)),(27,ai (l7.length:Int)),(28,ai i22)],63,[V0 x1 x23 o17.length l7.length x3 x15 x16,rTo o17,rSt l7]⟩) ?_)
 clear h
 rintro⟨i22,x23⟩ m26 h
 rw[J5g]at h
 try dsimp only at h
 refine AW.st (R [0,26,27,28,29] ?_)
 refine seq (iz h (fun h=>?_) fun h=>?_)
 ·obtain⟨w28,f30,h⟩:=oc h fun _=>Q0j
  refine skip (seq ?_)
  refine block (seq ?_)
  refine rg hS [0,4,26,27,28] (di1 (an f30.1 (an f30.2.1 f30.2.2))) ?_
  refine seq ?_
  obtain⟨⟨r31,r32,r33⟩,f35,h⟩:=oc h (Zt3 hk 1 rfl)
  apply dgk mixed hS [0,6,7,26,27,28] (ordp hpf (by kernel_rfl))
  ·exact di1 (ca f35)
  refine seq (R [0,6,7,26,27,28,47] ?_)
  refine ik h (fun h=>?_) fun h=>?_
  ·refine seq (Ua3 h [2] (Z9 hk 2 rfl) fun r37 x38 x39 h=>?_)
   exact Rf h
  refine G [0,26,27,28] ?_
  refine G [0,26,27,28] ?_
  exact nx h
 refine exit (R [] ?_)
 exact Rt h [2]
theorem X4k(c:AllG env [J1b,Q0x,S42]):Q0a env X1p:=by
 refine hd c V0v 19 fun O X hS hX hpf hk ⟨x1,x2,x3,x4,x5,l6,l7⟩=>fun r (h:J5r x1 x2 x3 x4 x5 l6 l7=some r)=>?_
 have pf_40:O.pf 40=true:=pft hpf 40 rfl
 refine gs ?_
 rw[J5r]at h
 refine R [0] ?_
 refine seq (Ua1 h [3] (Z7 hk 0 rfl) fun r9 h=>?_)
 obtain⟨c13,f15,h⟩:=oc h fun _ q=>Q1s (Q0d q)
 try simp only[NRM,Int.reduceToNat]at f15
 obtain⟨n16,q17,h⟩:=obs h
 replace q17:=Q0d q17
 have f18:=fun hg=>(hk 1 40 rfl).ret (([32,9,10,59,38,124,40,41,123,125,60,62,61,94,96,36,39]:Str),c13) (q17 hg) rfl rfl
 try simp only[PVE]at f18
 obtain⟨r19,q20,h⟩:=obs h
 replace q20:=Q0d q20
 have f21:=fun hg=>(hk 2 42 rfl).ret (r9,([92,10]:Str)) (q20 hg) rfl rfl
 try simp only[PVE]at f21
 refine seq (reg hS [(2,ab ((!decide (r9=[])&&decide (n16<0))&&!r19))] [V0 x1 x2 l6.length l7.length x3 x4 x5,rTo l6,rSt l7] ?_ ?_)
 ·clear h hk hS hX c
  exact dh1 (an f15.1 (an f15.2.1 (an f15.2.2 (an pf_40 (an f18 (ap1 42 hpf f21))))))
 exact Rf h
theorem X4j(c:AllG env [J1b,Q0x,J1a,Q5p,S42,Z4w,Q7u]):Q0a env X1o:=by
 refine hd c V0t 64 fun O X hS hX hpf hk ⟨x1,x2,x3,x4,x5,l6,l7⟩=>fun r (h:J5q x1 x2 x3 x4 x5 l6 l7=some r)=>gs ?_
 rw[J5q]at h
 refine R [0] ?_
 refine R [0,4] ?_
 refine R [0,4] ?_
 refine R [0,4,5] ?_
 refine block (Lp h (fun(x13,b14)=>⟨sl [(0,.ref 0 0),(4,ai x2),(5,.ref 3 0)],64,[V0 x1 x13 l6.length l7.length x3 x4 x5,rTo l6,rSt l7,.bld b14]⟩) ?_)
 clear h
 rintro⟨x13,b14⟩ m17 h
 rw[J1k]at h
 try dsimp only at h
 obtain⟨r18,f20,h⟩:=oc h (Z7 hk 0 rfl)
 obtain⟨n22,f24,h⟩:=oc h (Zt2 hk 1 rfl)
 refine AW.st (block ?_)
 refine seq (rg hS [0,4,5,6] (di1 (an (cd f20) (ca f24))) ?_)
 refine seq (R [0,4,5,6,22] ?_)
 refine ik h (fun h=>?_) fun h=>?_
 ·refine seq (Ua3 h [2,3] (Z9 hk 2 rfl) fun r26 x27 x28 h=>?_)
  exact Rf h
 refine seq ?_
 obtain⟨t32,f34,h⟩:=oc h fun _=>Q0p
 try simp only[NRM,Int.reduceToNat]at f34
 have f34e:=f34.2.2.2.2
 try simp only[NRM,Int.reduceToNat]at f34e
 have f34l:=f34.2.2.1
 try simp only[NRM,Int.reduceToNat]at f34l
 obtain⟨⟨n35,c36⟩,f38,h⟩:=oc h (Z2 hk 3 rfl)
 replace f38:=ce f38
 try simp only[PVE]at f38
 apply dgk mixed hS [0,4,5,6] (ordp hpf (by kernel_rfl))
 ·exact di1 (an f34.1 (an f34.2.1 (an f34l (an f34.2.2.2.1 (an f34e f38)))))
 refine R [0,4,5] ?_
 obtain⟨r40,f42,h⟩:=oc h (Z7 hk 0 rfl)
 obtain⟨r44,f46,h⟩:=oc h (Zt2 hk 4 rfl)
 replace f46:=ca f46
 try simp only[PVE]at f46
 refine seq (seq ?_)
 refine rg hS [0,4,5,54] (di1 (an (cd f42) f46)) ?_
 refine ik h (fun h=>?_) fun h=>?_
 ·refine seq (Ua1 h [2,3] (Z hk 5 36 c36) fun s48 h=>?_)
  exact Rf h
 refine seq (Ua1 h [0,4,5] (Z2 hk 6 rfl) fun d52 h=>?_)
 refine G [0,4,5] ?_
 exact nx h
theorem X9j(c:AllG env [X1p,Q7u,J1b,S42,X1o,Q5p,Z0q,Z4w]):Q0a env X5b:=by
 refine hd c V8b 49 fun O X hS hX hpf hk ⟨x1,x2,x3,x4,x5,l6,l7⟩=>fun r (h:X2b x1 x2 x3 x4 x5 l6 l7=some r)=>gs ?_
 rw[X2b]at h
 refine R [0] ?_
 refine R [0,5,6] ?_
 refine block (Lp h (fun(x14,x15,x16,b17,b18)=>⟨sl [(0,.ref 0 0),(5,.ref 3 0),(6,.ref 4 0)],49,[V0 x1 x14 l6.length l7.length x3 x15 x16,rTo l6,rSt l7,.bld b17,.bld b18]⟩) ?_)
 clear h
 rintro⟨x14,x15,x16,b17,b18⟩ m21 h
 rw[J5c]at h
 try dsimp only at h
 refine AW.st (block ?_)
 refine block (seq ?_)
 refine Ua1 h [0,5,6,11] (Z7 hk 0 rfl) fun r22 h=>?_
 refine iz h (fun h=>?_) fun h=>?_
 ·refine seq ?_
  obtain⟨c27,f29,h⟩:=oc h fun _=>Q1t
  obtain⟨d30,f32,h⟩:=oc h (Z2 hk 1 rfl)
  replace f32:=ce f32
  try simp only[PVE]at f32
  apply dgk mixed hS [0,5,6] (ordp hpf (by kernel_rfl))
  ·exact di1 (an f29.1 (an f29.2.1 (an f29.2.2 f32)))
  refine seq (Ua1 h [0,5,6] (Z2 hk 1 rfl) fun d34 h=>?_)
  refine G [0,5,6] ?_
  exact nx h
 obtain⟨r38,f40,h⟩:=oc h (Z7 hk 2 rfl)
 obtain⟨r42,f44,h⟩:=oc h (Zt2 hk 3 rfl)
 replace f44:=ca f44
 try simp only[PVE]at f44
 refine seq (rg hS [0,5,6,32] (di1 (an (cd f40) f44)) ?_)
 refine iz h (fun h=>?_) fun h=>?_
 ·refine seq (Ua5 h [0,5,6,7,8] (Z7 hk 4 rfl) fun r46 r47 x48 x49 x50 h=>?_)
  refine seq (R [0,5,6,7,42] ?_)
  refine ik h (fun h=>?_) fun h=>?_
  ·exact Rt h [2,3,4]
  refine seq (Ua2 h [0,5,6,7] (Z2 hk 5 rfl) fun n55 c56 h=>?_)
  obtain⟨t60,f62,h⟩:=oc h (Zt2 hk 6 rfl)
  replace f62:=ca f62
  try simp only[PVE]at f62
  obtain⟨⟨n63,c64⟩,f66,h⟩:=oc h (Z2 hk 5 rfl)
  replace f66:=ce f66
  try simp only[PVE]at f66
  refine rg hS [0,5,6] (di1 (an f62 f66)) ?_
  exact nx h
 obtain⟨s68,f70,h⟩:=oc h (Z hk 7 36 b17)
 replace f70:=ce f70
 try simp only[PVE]at f70
 obtain⟨s72,f74,h⟩:=oc h (Z hk 7 36 b18)
 replace f74:=ce f74
 try simp only[PVE]at f74
 refine seq (rg hS [2,3,4] (di1 (an f70 f74)) ?_)
 exact Rf h
theorem X9m(c:AllG env [X5d,X5b,J1a,J7o]):Q0a env K0i:=by
 refine hd c V8x 58 fun O X hS hX hpf hk ⟨x1,x2,x3,x4,x5,l6,l7⟩=>fun r (h:X5l x1 x2 x3 x4 x5 l6 l7=some r)=>gs ?_
 rw[X5l]at h
 refine R [0] ?_
 refine R [0,3] ?_
 refine R [0,3] ?_
 refine seq (Ua1 h [0,3] (Z7 hk 0 rfl) fun x14 h=>?_)
 refine R [0,3,4] ?_
 refine seq (Ua6 h [0,3,4,5,6,7] (Z7 hk 1 rfl) fun r18 r19 r20 x21 x22 x23 h=>?_)
 refine seq (R [0,3,4,5,6,32] ?_)
 refine ik h (fun h=>?_) fun h=>?_
 ·exact Rt h [2]
 refine seq (R [0,3,4,5,6,38] ?_)
 refine ik h (fun h=>?_) fun h=>?_
 ·refine seq (Ua3 h [2] (Z9 hk 2 rfl) fun r29 x30 x31 h=>?_)
  exact Rf h
 replace h:=ap PV.str h;obtain⟨out35,f37,h⟩:=h
 refine seq (rg hS [0,3,5,6] (di1 f37) ?_)
 refine seq (Ua4 h [2] (Z8 hk 3 rfl) fun r38 x39 x40 o41 h=>?_)
 exact Rf h
theorem V5p(c:AllG env []):Q0a env S76:=by
 refine hd c V8a 34 fun O X hS hX hpf hk ⟨x1,x2,x3,x4,x5,l6,l7⟩=>fun r (h:F76 x1 x2 x3 x4 x5 l6 l7=some r)=>gs ?_
 rw[F76]at h
 refine R [0] ?_
 refine R [0,3] ?_
 obtain⟨u9,f11,h⟩:=oc h fun _ q=>J4e (Q0d q)
 refine seq (dreg mixed hS (ordp hpf (by kernel_rfl)) [(2,ab ((decide (0<(l6.length:Int))&&decide (u9.kind_=1))&&decide (x3=x2)))] [V0 x1 x2 l6.length l7.length x3 x4 x5,rTo l6,rSt l7] ?_ ?_)
 ·clear h hk hS hX c
  exact dh1 (an f11.1 (an f11.2.1 f11.2.2))
 exact Rf h
theorem K5f(c:AllG env [J2y,X1n]):Q0a env S166:=by
 refine hd c K9r 26 ?_
 rintro O X hS hX hpf hk (s1:Str) (r:Bool) (h:F166 s1=some r)
 have pf_189:O.pf 189=true:=pft hpf 189 rfl
 refine gs ?_
 rw[F166]at h
 refine R [0] ?_
 refine seq (Ua2 h [0,3,4] (Zt hk 0 199 s1) fun n3 bad4 h=>?_)
 obtain⟨s7,q8,h⟩:=obs h
 replace q8:=Q0d q8
 have f9:=fun hg=>(hk 1 189 rfl).ret n3 (q8 hg) rfl rfl
 refine seq (reg hS [(2,ab (((!bad4&&decide (0≤n3))&&decide (n3<64))&&decide (s7=s1)))] [] ?_ ?_)
 ·clear h hk hS hX c
  ((simp -implicitDefEqProofs only[RUNS,Q1b,Nat.reduceAdd,Nat.reduceLeDiff,Nat.reduceSub,reduceIte,Nat.reduceEqDiff,Nat.reduceLT,reduceCtorEq,Nat.reduceMul,Nat.reduceBEq,Int.reduceEq,Int.reduceToNat,Int.toNat_zero,Nat.sub_zero,if_true,if_false,eq_self,ne_eq,TYS,pf_189,f9,Z9t X1l,Z9s X1l]);repeat'(split<;>rename_i hb<;>(try simp only[HBS,ge_iff_le,gt_iff_lt]at hb)<;>(try simp only[hb,Int.toNat_natCast,Int.toNat_zero,Int.reduceToNat,Nat.sub_zero,List.drop_zero,List.length_map]at q)<;>simp -implicitDefEqProofs only[RUNS,Q1b,Nat.reduceAdd,Nat.reduceLeDiff,Nat.reduceSub,reduceIte,Nat.reduceEqDiff,Nat.reduceLT,reduceCtorEq,Nat.reduceMul,Nat.reduceBEq,Int.reduceEq,Int.reduceToNat,Int.toNat_zero,Nat.sub_zero,if_true,if_false,eq_self,ne_eq,TYS,pf_189,f9,Z9t X1l,Z9s X1l, *,decide_true,decide_false,Decidable.not_not,not_false_eq_true,not_true_eq_false]));all_goals(first|(simp only[J3l];done)|(simp[*];done)|((try simp only[CLOS,beq_iff_eq,bne_iff_ne,ne_eq]at *)<;>omega)|(simp_all;done)|(simp_all<;>omega))
 exact Rf h
theorem K6c(c:AllG env [Q0x,J4r,S166]):Q0a env S125:=by
 refine hd c V0r 42 fun O X hS hX hpf hk ⟨s1,pair2⟩=>fun r (h:F125 s1 pair2=some r)=>?_
 have pf_166:O.pf 166=true:=pft hpf 166 rfl
 refine gs ?_
 rw[F125]at h
 refine R [0,1] ?_
 refine seq (Ua1 h [0,1,5] (Zt2 hk 0 rfl) fun n4 h=>?_)
 refine seq (R [0,1,5,12] ?_)
 refine ik h (fun h=>?_) fun h=>?_
 ·exact Rt h [4]
 obtain⟨t8,f10,h⟩:=oc h fun _=>Q0p
 try simp only[NRM,Int.reduceToNat]at f10
 have f10e:=f10.2.2.2.2
 try simp only[NRM,Int.reduceToNat]at f10e
 have f10l:=f10.2.2.1
 try simp only[NRM,Int.reduceToNat]at f10l
 obtain⟨⟨a11,b12,ok13⟩,f15,h⟩:=oc h (Zt2 hk 1 rfl)
 replace f15:=ca f15
 try simp only[PVE]at f15
 refine seq (rg hS [1,5,6,7,8] (di1 (an f10.1 (an f10.2.1 (an f10l (an f10.2.2.2.1 (an f10e f15)))))) ?_)
 obtain⟨r16,f18,h⟩:=oc h (Zt hk 2 166 a11)
 obtain⟨r19,q20,h⟩:=obs h
 replace q20:=Q0d q20
 have f21:=fun hg=>(hk 2 166 rfl).ret b12 (q20 hg) rfl rfl
 refine seq (seq ?_)
 refine reg hS [(5,ai n4),(39,ab (!r16||(ok13&&(!pair2||(!decide (b12=[])&&!r19)))))] [] ?_ ?_
 ·clear h hk hS hX c
  exact dh1 (an pf_166 (an (ca f18) f21))
 refine ik h (fun h=>?_) fun h=>?_
 ·exact Rt h [4]
 exact Rt h [4]
theorem V5o(c:AllG env [J1b,S42,Q0x,S125,J1a]):Q0a env S77:=by
 refine hd c V7z 73 fun O X hS hX hpf hk ⟨x1,x2,x3,x4,x5,l6,l7⟩=>fun r (h:F77 x1 x2 x3 x4 x5 l6 l7=some r)=>gs ?_
 rw[F77]at h
 refine R [0] ?_
 refine seq (Ua1 h [0,4] (Z7 hk 0 rfl) fun r12 h=>?_)
 refine seq (R [0,4,12,13,14] ?_)
 refine block (Lp h (fun i16=>⟨sl [(0,.ref 0 0),(4,as_ r12),(12,.full (List.map PV.str [[38,38],[124,124],[36,35]])),(13,ai ([[38,38],[124,124],[36,35]].length:Int)),(14,ai i16)],73,[V0 x1 x2 l6.length l7.length x3 x4 x5,rTo l6,rSt l7]⟩) ?_)
 clear h
 rintro i16 m19 h
 rw[X7h]at h
 try dsimp only at h
 refine AW.st (R [0,4,12,13,14,15] ?_)
 refine seq (iz h (fun h=>?_) fun h=>?_)
 ·obtain⟨w21,f23,h⟩:=oc h fun _=>Q0j
  have f23m:(List.map PV.str [[38,38],[124,124],[36,35]])[Int.toNat i16]?=some (PV.str w21):=by rw[List.getElem?_map,f23.2.1];rfl
  try simp only[List.map_cons,List.map_nil]at f23m
  refine skip (seq ?_)
  refine block (seq ?_)
  refine rg hS [0,4,6,12,13,14] (di1 (an f23.1 (an f23.2.1 f23m))) ?_
  refine seq (Ua1 h [0,4,6,12,13,14,20] (Zt2 hk 1 rfl) fun r24 h=>?_)
  refine ik h (fun h=>?_) fun h=>?_
  ·exact Rt h [2,3]
  refine G [0,4,12,13,14] ?_
  exact nx h
 refine exit (seq ?_)
 refine R [0,4,24] ?_
 refine ik h (fun h=>?_) fun h=>?_
 ·exact Rt h [2,3]
 obtain⟨c29,f31,h⟩:=oc h fun _=>Q1t
 try simp only[NRM,Int.reduceToNat]at f31
 obtain⟨n32,f34,h⟩:=oc h (Zt2 hk 2 rfl)
 replace f34:=ca f34
 try simp only[PVE]at f34
 refine seq (seq ?_)
 refine rg hS [0,4,28] (di1 (an f31.1 (an f31.2.1 (an f31.2.2 f34)))) ?_
 refine ik h (fun h=>?_) fun h=>?_
 ·obtain⟨t36,f38,h⟩:=oc h fun _=>Q0p
  try simp only[NRM,Int.reduceToNat]at f38
  have f38e:=f38.2.2.2.2
  try simp only[NRM,Int.reduceToNat]at f38e
  have f38l:=f38.2.2.1
  try simp only[NRM,Int.reduceToNat]at f38l
  refine seq (rg hS [2,3] (di1 (an f38.1 (an f38.2.1 (an f38l (an f38.2.2.2.1 f38e))))) ?_)
  exact Rf h
 refine seq (R [0,4,31,32,33] ?_)
 refine block (Lp h (fun i39=>⟨sl [(0,.ref 0 0),(4,as_ r12),(31,.full (List.map PV.str [[62,62],[62],[60],[124]])),(32,ai ([[62,62],[62],[60],[124]].length:Int)),(33,ai i39)],73,[V0 x1 x2 l6.length l7.length x3 x4 x5,rTo l6,rSt l7]⟩) ?_)
 clear h
 rintro i39 m42 h
 rw[X7g]at h
 try dsimp only at h
 refine AW.st (R [0,4,31,32,33,34] ?_)
 refine seq (iz h (fun h=>?_) fun h=>?_)
 ·obtain⟨w44,f46,h⟩:=oc h fun _=>Q0j
  have f46m:(List.map PV.str [[62,62],[62],[60],[124]])[Int.toNat i39]?=some (PV.str w44):=by rw[List.getElem?_map,f46.2.1];rfl
  try simp only[List.map_cons,List.map_nil]at f46m
  refine skip (seq ?_)
  refine block (seq ?_)
  refine rg hS [0,4,8,31,32,33] (di1 (an f46.1 (an f46.2.1 f46m))) ?_
  refine seq (seq ?_)
  refine Ua1 h [0,4,8,31,32,33,40] (Zt2 hk 1 rfl) fun r47 h=>?_
  refine ik h (fun h=>?_) fun h=>?_
  ·refine exit (G [0,4,31,32,33] ?_)
   exact nx h
  obtain⟨t51,f53,h⟩:=oc h fun _=>Q0p
  try simp only[NRM,Int.reduceToNat]at f53
  have f53e:=f53.2.2.2.2
  try simp only[NRM,Int.reduceToNat]at f53e
  have f53l:=f53.2.2.1
  try simp only[NRM,Int.reduceToNat]at f53l
  obtain⟨r54,f56,h⟩:=oc h (Zt2 hk 1 rfl)
  replace f56:=ca f56
  try simp only[PVE]at f56
  refine seq (seq ?_)
  refine rg hS [0,4,8,46] (di1 (an f53.1 (an f53.2.1 (an f53l (an f53.2.2.2.1 (an f53e f56)))))) ?_
  refine ik h (fun h=>?_) fun h=>?_
  ·exact Rt h [2,3]
  try simp only[NRM,Int.reduceToNat]at f53
  have f53e:=f53.2.2.2.2
  try simp only[NRM,Int.reduceToNat]at f53e
  have f53l:=f53.2.2.1
  try simp only[NRM,Int.reduceToNat]at f53l
  obtain⟨r58,f60,h⟩:=oc h (Zt2 hk 3 rfl)
  refine seq (rg hS [0,4,8,9] (di1 (an f53.1 (an f53.2.1 (an f53l (an f53.2.2.2.1 (an f53e (ca f60))))))) ?_)
  refine seq (R [0,4,8,9,56] ?_)
  refine ik h (fun h=>?_) fun h=>?_
  ·refine seq (Ua3 h [2,3] (Z9 hk 4 rfl) fun r62 x63 x64 h=>?_)
   exact Rf h
  obtain⟨t68,f70,h⟩:=oc h fun _=>Q0p
  try simp only[NRM,Int.reduceToNat]at f70
  have f70e:=f70.2.2.2.2
  try simp only[NRM,Int.reduceToNat]at f70e
  have f70l:=f70.2.2.1
  try simp only[NRM,Int.reduceToNat]at f70l
  refine seq (rg hS [2,3] (di1 (an f70.1 (an f70.2.1 (an f70l (an f70.2.2.2.1 f70e))))) ?_)
  exact Rf h
 exact exit (Rt h [2,3])
end Go.Abs.U48
