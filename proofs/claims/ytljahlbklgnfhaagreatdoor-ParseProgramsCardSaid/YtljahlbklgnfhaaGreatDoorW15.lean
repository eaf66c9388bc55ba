import Derived.Test.YtljahlbklgnfhaaGreatDoorD1
set_option linter.unusedVariables false
set_option linter.unusedSimpArgs false
set_option linter.defProp false
set_option maxRecDepth 8000
set_option maxHeartbeats 4000000
namespace Go.Abs.U48
open Go.RowKit Go.Proofs AW
theorem V5e(c:AllG env []):Q0a env S88:=by
 refine hd c V7q 39 fun O X hS hX hpf hk ⟨s1,at2⟩=>fun r (h:F88 s1 at2=some r)=>gs ?_
 rw[F88]at h
 refine R [0,1] ?_
 obtain⟨c4,f6,h⟩:=oc h fun _ q=>Q1s (Q0d q)
 refine seq (seq ?_)
 refine reg hS [(0,as_ s1),(1,ai at2),(20,ab (decide (at2<(s1.length:Int))&&(decide (c4=32)||decide (c4=9))))] [] ?_ ?_
 ·clear h hk hS hX c
  exact dh1 (an f6.1 (an f6.2.1 f6.2.2))
 refine ik h (fun h=>?_) fun h=>?_
 ·exact Rt h [4]
 obtain⟨c8,f10,h⟩:=oc h fun _ q=>Q1s (Q0d q)
 obtain⟨c11,f13,h⟩:=oc h fun _ q=>Q1s (Q0d q)
 refine seq (seq ?_)
 refine reg hS [(38,ab ((decide (IntKind.wrap .i64 (at2+1)<(s1.length:Int))&&decide (c8=92))&&decide (c11=10)))] [] ?_ ?_
 ·clear h hk hS hX c
  exact dh1 (an f10.1 (an f10.2.1 (an f10.2.2 (an f13.1 (an f13.2.1 f13.2.2)))))
 refine ik h (fun h=>?_) fun h=>?_
 ·exact Rt h [4]
 exact Rt h [4]
theorem V6a(c:AllG env []):Q0a env S54:=by
 refine hd c V8p 54 fun O X hS hX hpf hk ⟨s1,at2,end3⟩=>fun r (h:F54 s1 at2 end3=some r)=>gs ?_
 rw[F54]at h
 refine R [0,1,2] ?_
 refine seq (seq ?_)
 refine reg hS [(0,as_ s1),(1,ai at2),(2,as_ end3),(18,ab (decide (at2<0)||decide ((s1.length:Int)<at2)))] [] ?_ ?_
 ·clear h hk hS hX c
  exact dh
 refine ik h (fun h=>?_) fun h=>?_
 ·exact Rt h [6,7,8]
 refine R [0,1,2,9] ?_
 refine seq (block ?_)
 refine Lp h (fun from8=>⟨sl [(0,as_ s1),(1,ai at2),(2,as_ end3),(9,ai from8)],54,[]⟩) ?_
 clear h
 rintro from8 m11 h
 rw[Q5k]at h
 try dsimp only at h
 refine AW.st (seq ?_)
 refine R [0,1,2,9,23] ?_
 refine iz h (fun h=>?_) fun h=>?_
 ·refine skip (block ?_)
  refine R [0,1,2,9,10] ?_
  refine seq (block ?_)
  refine Lp h (fun to13=>⟨sl [(0,as_ s1),(1,ai at2),(2,as_ end3),(9,ai from8),(10,ai to13)],54,[]⟩) ?_
  clear h
  rintro to13 m16 h
  rw[Q7w]at h
  try dsimp only at h
  obtain⟨c17,f19,h⟩:=oc h fun _ q=>Q1s (Q0d q)
  refine AW.st (seq ?_)
  refine seq (reg hS [(0,as_ s1),(1,ai at2),(2,as_ end3),(9,ai from8),(10,ai to13),(34,ab (decide (to13<(s1.length:Int))&&!decide (c17=10)))] [] ?_ ?_)
  ·clear h hk hS hX c
   exact dh1 (an f19.1 (an f19.2.1 f19.2.2))
  refine iz h (fun h=>?_) fun h=>?_
  ·refine skip (block ?_)
   refine G [0,1,2,9,10] ?_
   exact nx h
  obtain⟨t21,f23,h⟩:=oc h fun _=>Q0p
  try simp only[NRM,Int.reduceToNat]at f23
  have f23e:=f23.2.2.2.2
  try simp only[NRM,Int.reduceToNat]at f23e
  have f23l:=f23.2.2.1
  try simp only[NRM,Int.reduceToNat]at f23l
  refine exit (seq ?_)
  refine seq (rg hS [0,1,2,9,10,42] (di1 (an f23.1 (an f23.2.1 (an f23l (an f23.2.2.2.1 f23e))))) ?_)
  refine ik h (fun h=>?_) fun h=>?_
  ·obtain⟨t25,f27,h⟩:=oc h fun _=>Q0p
   try simp only[NRM,Int.reduceToNat]at f27
   have f27e:=f27.2.2.2.2
   try simp only[NRM,Int.reduceToNat]at f27e
   have f27l:=f27.2.2.1
   try simp only[NRM,Int.reduceToNat]at f27l
   exact seq (rg hS [6,7,8] (di1 (an f27.1 (an f27.2.1 (an f27l (an f27.2.2.2.1 f27e))))) (Rf h))
  refine G [0,1,2,9] ?_
  exact nx h
 exact exit (Rt h [6,7,8])
theorem V5c(c:AllG env [S54,S53]):Q0a env S90:=by
 refine hd c V7o 45 fun O X hS hX hpf hk ⟨s1,xat2,xend3,xname4,xe5,xoff6,l7,l8⟩=>fun r (h:F90 s1 xat2 xend3 xname4 xe5 xoff6 l7 l8=some r)=>gs ?_
 rw[F90]at h
 refine R [0,3,4] ?_
 refine seq (R [0,3,4,5] ?_)
 refine block (Lp h (fun(i14,x15,x16,x17,x18,x19)=>⟨sl [(0,as_ s1),(3,.ref 2 0),(4,.ref 3 0),(5,ai i14)],45,[rTo l7,rSt l8,V22 x15 l7.length x16 x17 l8.length x18 x19,V23 0 0 false 0 0]⟩) ?_)
 clear h
 rintro⟨i14,x15,x16,x17,x18,x19⟩ m22 h
 rw[X7d]at h
 try dsimp only at h
 refine AW.st (seq ?_)
 refine seq (reg hS [(0,as_ s1),(3,.ref 2 0),(4,.ref 3 0),(5,ai i14),(18,ab (decide (i14<(l8.length:Int))&&decide (x18=0)))] [rTo l7,rSt l8,V22 x15 l7.length x16 x17 l8.length x18 x19,V23 0 0 false 0 0] ?_ ?_)
 ·clear h hk hS hX c
  exact dh
 refine iz h (fun h=>?_) fun h=>?_
 ·refine skip (seq ?_)
  refine block (seq ?_)
  obtain⟨w24,f26,h⟩:=oc h fun _=>Q0j
  obtain⟨⟨r27,r28,r29⟩,f31,h⟩:=oc h (Zt3 hk 0 rfl)
  apply dgk mixed hS [0,3,4,5,7,8] (ordp hpf (by kernel_rfl))
  ·exact di1 (an f26.1 (an f26.2.1 (an f26.2.2 (ca f31))))
  refine R [0,3,4,5,7,8,35] ?_
  refine iz h (fun h=>?_) fun h=>?_
  ·obtain⟨⟨at33,end34,name35,e36,off37⟩,q38,h⟩:=obs h
   dsimp only at h
   have f39:=(hk 1 53 rfl).ret (x15,x16,x17,x18,x19,r29,x15,l7,l8) q38 rfl rfl
   have e40:Q0v O [rTo l7,rSt l8,V22 x15 l7.length x16 x17 l8.length x18 x19,V23 0 0 false 0 0] 53 [.agg [ai x15,.vec 0 (List.length l7),ai x16,ab x17,.vec 1 (List.length l8),ai x18,ai x19],ai r29,ai x15]=some (Q1a [.agg [ai at33,.vec 0 (List.length l7),ai end34,ab name35,.vec 1 (List.length l8),ai e36,ai off37]],[rTo l7,rSt l8,V22 x15 l7.length x16 x17 l8.length x18 x19,V23 0 0 false 0 0]):=Q0i rfl rfl rfl f39 rfl rfl rfl
   refine rg hS [0,3,4,5] (di1 (ap0 53 hpf e40)) ?_
   refine G [0,3,4,5] ?_
   exact nx h
  refine G [0,3,4,5] ?_
  refine G [0,3,4,5] ?_
  exact nx h
 refine exit (R [3,4] ?_)
 exact Rt h [4]
theorem K5s(c:AllG env []):Q0a env S136:=by
 refine hd c V0g 17 fun O X hS hX hpf hk ⟨c1,all2⟩=>fun r (h:F136 c1 all2=some r)=>gs ?_
 rw[F136]at h
 refine R [0,1] ?_
 refine seq (R [0,1,5] ?_)
 refine block (Lp h (fun i4=>⟨sl [(0,.pv (.int .u8 c1)),(1,as_ all2),(5,ai i4)],17,[]⟩) ?_)
 clear h
 rintro i4 m7 h
 rw[X2x]at h
 try dsimp only at h
 refine AW.st (seq ?_)
 refine R [0,1,5,9] ?_
 refine iz h (fun h=>?_) fun h=>?_
 ·obtain⟨c9,f11,h⟩:=oc h fun _=>Q1t
  refine skip (seq ?_)
  refine block (seq ?_)
  refine rg hS [0,1,5,16] (di1 (an f11.1 (an f11.2.1 f11.2.2))) ?_
  refine ik h (fun h=>?_) fun h=>?_
  ·exact Rt h [4]
  refine G [0,1,5] ?_
  exact nx h
 exact exit (Rt h [4])
theorem K5q(c:AllG env [S88,S136]):Q0a env S138:=by
 refine hd c V0e 22 fun O X hS hX hpf hk ⟨s1,at2⟩=>fun r (h:F138 s1 at2=some r)=>?_
 have pf_88:O.pf 88=true:=pft hpf 88 rfl
 refine gs ?_
 rw[F138]at h
 refine R [0,1] ?_
 obtain⟨r4,q5,h⟩:=obs h
 replace q5:=Q0d q5
 have f6:=fun hg=>(hk 0 88 rfl).ret (s1,at2) (q5 hg) rfl rfl
 obtain⟨c7,f9,h⟩:=oc h fun _ q=>Q1s (Q0d q)
 obtain⟨r10,q11,h⟩:=obs h
 replace q11:=Q0d q11
 have f12:=fun hg=>(hk 1 136 rfl).ret (c7,([10,59,38,124,40,41,123,125,60,62,61,94,96,36,39]:Str)) (q11 hg) rfl rfl
 try simp only[PVE]at f12
 refine seq (reg hS [(4,ab ((decide (at2<(s1.length:Int))&&decide (r4=0))&&!r10))] [] ?_ ?_)
 ·clear h hk hS hX c
  exact dh1 (an pf_88 (an f6 (an f9.1 (an f9.2.1 (an f9.2.2 (ap1 136 hpf f12))))))
 exact Rf h
theorem K5p(c:AllG env []):Q0a env S139:=by
 refine hd c V0d 51 fun O X hS hX hpf hk ⟨s1,at2⟩=>fun r (h:F139 s1 at2=some r)=>gs ?_
 rw[F139]at h
 refine R [0,1,4] ?_
 refine R [0,1,4,5] ?_
 refine seq (R [0,1,4,5,6] ?_)
 refine block (Lp h (fun(i4,x5,x6)=>⟨sl [(0,as_ s1),(1,ai at2),(4,.ref 0 0),(5,.ref 1 0),(6,ai i4)],51,[V24 [] [] 0 false,V24 x5 x6 0 false]⟩) ?_)
 clear h
 rintro⟨i4,x5,x6⟩ m9 h
 rw[J3k]at h
 try dsimp only at h
 refine AW.st (seq ?_)
 refine R [0,1,4,5,6,13] ?_
 refine iz h (fun h=>?_) fun h=>?_
 ·refine skip (seq ?_)
  refine block (seqJ (α:=Int) (fun i11=>⟨sl [(0,as_ s1),(1,ai at2),(4,.ref 0 0),(5,.ref 1 0),(6,ai i11)],51,[V24 [] [] 0 false,V24 x5 x6 0 false]⟩) (fun x=>Z9d s1 x5 x6 (iter (J3k s1 at2) m9) x=some r) ?_ ?_)
  ·intro i11 h
   rw[Z9d]at h
   try dsimp only at h
   refine AW.st (seq ?_)
   obtain⟨t12,f14,h⟩:=oc h fun _=>Q0p
   try simp only[NRM,Int.reduceToNat]at f14
   have f14e:=f14.2.2.2.2
   try simp only[NRM,Int.reduceToNat]at f14e
   have f14l:=f14.2.2.1
   try simp only[NRM,Int.reduceToNat]at f14l
   obtain⟨s15,f17,h⟩:=oc h fun _=>Q5z
   try simp only[LNS,List.length_replicate,Nat.reduceAdd,Nat.reduceLeDiff,Nat.add_zero,Nat.reduceMul]at f17
   apply dgB mixed hS [(5,some 1),(36,some 1),(44,some 1)] [0,1,4,5,6] rfl (ordB hpf (B:=[(5,some 1),(36,some 1),(44,some 1)]) (by kernel_rfl))
   ·exact di1 (an f14.1 (an f14.2.1 (an f14l (an f14.2.2.2.1 (an f14e (an f17.1 f17.2))))))
   obtain⟨s18,f20,h⟩:=oc h fun _=>Q5z
   try simp only[LNS,List.length_replicate,Nat.reduceAdd,Nat.reduceLeDiff,Nat.add_zero,Nat.reduceMul]at f20
   refine rg hS [0,1,4,5,6] (di1 (an f20.1 f20.2)) ?_
   refine G [0,1,4,5,6] ?_
   exact nx h
  obtain⟨c21,f23,h⟩:=oc h fun _=>Q1t
  refine seq (rg hS [0,1,4,5,6,19] (di1 (an f23.1 (an f23.2.1 f23.2.2))) ?_)
  refine ik h (fun h=>?_) fun h=>?_
  ·refine R [0,1,4,5,6] ?_
   obtain⟨c25,f27,h⟩:=oc h fun _ q=>Q1s (Q0d q)
   refine seq (reg hS [(0,as_ s1),(1,ai at2),(4,.ref 0 0),(5,.ref 1 0),(6,ai (IntKind.wrap .i64 (i4+1))),(31,ab (decide (IntKind.wrap .i64 (i4+1)=(s1.length:Int))||!decide (c25=39)))] [V24 [] [] 0 false,V24 x5 x6 0 false] ?_ ?_)
   ·clear h hk hS hX c
    exact dh1 (an f27.1 (an f27.2.1 f27.2.2))
   refine ik h (fun h=>?_) fun h=>?_
   ·refine R [4,5] ?_
    refine R [4,5] ?_
    exact Rt h [4]
   exact jn h
  exact jn h
 exact exit (Rt h [4])
theorem V4y(c:AllG env [S138,S139]):Q0a env S94:=by
 refine hd c V7k 71 fun O X hS hX hpf hk ⟨s1,at2⟩=>fun r (h:F94 s1 at2=some r)=>gs ?_
 rw[F94]at h
 refine R [0,1,4] ?_
 refine R [0,4,5] ?_
 refine seq (block ?_)
 refine Lp h (fun(x4,x5,x6,x7)=>⟨sl [(0,as_ s1),(4,.ref 0 0),(5,.ref 1 0)],71,[V24 [] [] 0 false,V24 x4 x5 x6 x7]⟩) ?_
 clear h
 rintro⟨x4,x5,x6,x7⟩ m10 h
 rw[X7b]at h
 try dsimp only at h
 obtain⟨r11,f13,h⟩:=oc h (Zt2 hk 0 rfl)
 obtain⟨c14,f16,h⟩:=oc h fun _ q=>Q1s (Q0d q)
 refine AW.st (seq ?_)
 refine seq (reg hS [(0,as_ s1),(4,.ref 0 0),(5,.ref 1 0),(26,ab (r11||(decide (x6<(s1.length:Int))&&decide (c14=39))))] [V24 [] [] 0 false,V24 x4 x5 x6 x7] ?_ ?_)
 ·clear h hk hS hX c
  exact dh1 (an (ca f13) (an f16.1 (an f16.2.1 f16.2.2)))
 refine iz h (fun h=>?_) fun h=>?_
 ·obtain⟨c18,f20,h⟩:=oc h fun _=>Q1t
  refine skip (block ?_)
  refine seq (rg hS [0,4,5,31] (di1 (an f20.1 (an f20.2.1 f20.2.2))) ?_)
  refine iz h (fun h=>?_) fun h=>?_
  ·refine seq (Ua1 h [0,4,5,6] (Zt2 hk 1 rfl) fun r22 h=>?_)
   refine seq (R [0,4,5,6,38] ?_)
   refine ik h (fun h=>?_) fun h=>?_
   ·exact Rt h [4]
   obtain⟨s26,f28,h⟩:=oc h fun _=>Q5z
   try simp only[LNS,List.length_replicate,Nat.reduceAdd,Nat.reduceLeDiff,Nat.add_zero,Nat.reduceMul]at f28
   obtain⟨s29,f31,h⟩:=oc h fun _=>Q5z
   try simp only[LNS,List.length_replicate,Nat.reduceAdd,Nat.reduceLeDiff,Nat.add_zero,Nat.reduceMul]at f31
   refine rg hS [0,4,5] (di1 (an f28.1 (an f28.2 (an f31.1 f31.2)))) ?_
   exact nx h
  obtain⟨t32,f34,h⟩:=oc h fun _=>Q0p
  try simp only[NRM,Int.reduceToNat]at f34
  have f34e:=f34.2.2.2.2
  try simp only[NRM,Int.reduceToNat]at f34e
  have f34l:=f34.2.2.1
  try simp only[NRM,Int.reduceToNat]at f34l
  obtain⟨s35,f37,h⟩:=oc h fun _=>Q5z
  try simp only[LNS,List.length_replicate,Nat.reduceAdd,Nat.reduceLeDiff,Nat.add_zero,Nat.reduceMul]at f37
  obtain⟨s38,f40,h⟩:=oc h fun _=>Q5z
  try simp only[LNS,List.length_replicate,Nat.reduceAdd,Nat.reduceLeDiff,Nat.add_zero,Nat.reduceMul]at f40
  apply dgB mixed hS [(5,some 1),(53,some 1),(56,some 1),(58,some 1),(63,some 1),(66,some 1)] [0,4,5] rfl (ordB hpf (B:=[(5,some 1),(53,some 1),(56,some 1),(58,some 1),(63,some 1),(66,some 1)]) (by kernel_rfl))
  ·exact di1 (an f34.1 (an f34.2.1 (an f34l (an f34.2.2.2.1 (an f34e (an f37.1 (an f37.2 (an f40.1 f40.2))))))))
  exact nx h
 exact exit (Rt h [4])
end Go.Abs.U48
