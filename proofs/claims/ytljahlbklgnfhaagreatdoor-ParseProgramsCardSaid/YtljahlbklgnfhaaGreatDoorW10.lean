import Derived.Test.YtljahlbklgnfhaaGreatDoorD1
set_option linter.unusedVariables false
set_option linter.unusedSimpArgs false
set_option linter.defProp false
set_option maxRecDepth 8000
set_option maxHeartbeats 4000000
namespace Go.Abs.U48
open Go.RowKit Go.Proofs AW
theorem K4z(c:AllG env [S58,S60]):Q0a env S174:=by
 refine hd c K9j 17 fun O X hS hX hpf hk ⟨s1,x2,x3,x4,x5,x6,x7⟩=>fun r (h:F174 s1 x2 x3 x4 x5 x6 x7=some r)=>gs ?_
 rw[F174]at h
 refine seq (seq ?_)
 refine Ua1 h [0,7] (Z7 hk 0 rfl) fun r11 h=>?_
 refine ik h (fun h=>?_) fun h=>?_
 ·refine Ua2 h [0] (Z6 hk 1 rfl) fun x16 x17 h=>?_
  refine G [] ?_
  cases h
  exact fin
 refine G [] ?_
 cases h
 exact fin
theorem K4l(c:AllG env [S59,S58]):Q0a env S203:=by
 refine hd c K8v 23 fun O X hS hX hpf hk ⟨x1,x2,x3,x4,x5,x6⟩=>fun r (h:F203 x1 x2 x3 x4 x5 x6=some r)=>gs ?_
 rw[F203]at h
 refine R [0] ?_
 obtain⟨r8,f10,h⟩:=oc h (Z6 hk 0 rfl)
 refine seq ?_
 rcases bs h with⟨hsp73,h⟩|⟨hsp73,h⟩
 ·exact rg hS [2] (di1 (an (cb f10) hsp73)) (Rf h)
 obtain⟨r12,f14,h⟩:=oc h (Z7 hk 1 rfl)
 replace f14:=cb f14
 try simp only[PVE]at f14
 rcases bs h with⟨hsp74,h⟩|⟨hsp74,h⟩
 ·exact rg hS [2] (di1 (an (cb f10) (an hsp73 (an f14 hsp74)))) (Rf h)
 obtain⟨r16,f18,h⟩:=oc h (Z7 hk 1 rfl)
 replace f18:=cb f18
 try simp only[PVE]at f18
 rcases bs h with⟨hsp75,h⟩|⟨hsp75,h⟩
 ·exact rg hS [2] (di1 (an (cb f10) (an hsp73 (an f14 (an hsp74 (an f18 hsp75)))))) (Rf h)
 obtain⟨r20,f22,h⟩:=oc h (Z7 hk 1 rfl)
 replace f22:=cb f22
 try simp only[PVE]at f22
 rcases bs h with⟨hsp76,h⟩|⟨hsp76,h⟩
 ·exact rg hS [2] (di1 (an (cb f10) (an hsp73 (an f14 (an hsp74 (an f18 (an hsp75 (an f22 hsp76)))))))) (Rf h)
 obtain⟨r24,f26,h⟩:=oc h (Z7 hk 1 rfl)
 replace f26:=cb f26
 try simp only[PVE]at f26
 exact rg hS [2] (di1 (an (cb f10) (an hsp73 (an f14 (an hsp74 (an f18 (an hsp75 (an f22 (an hsp76 f26))))))))) (Rf h)
theorem K4v(c:AllG env [S59]):Q0a env S178:=by
 refine hd c K9g 26 fun O X hS hX hpf hk ⟨x1,x2,x3,x4,x5,x6⟩=>fun r (h:F178 x1 x2 x3 x4 x5 x6=some r)=>gs ?_
 rw[F178]at h
 refine R [0] ?_
 refine seq (Ua1 h [3] (Z6 hk 0 rfl) fun r8 h=>?_)
 obtain⟨c12,f14,h⟩:=oc h fun _ q=>Q1s (Q0d q)
 try simp only[NRM,Int.reduceToNat]at f14
 refine seq (reg hS [(2,ab (decide (r8.kind_=4)||(decide (r8.kind_=2)&&(decide (c12=60)||decide (c12=62)))))] [V27 x1 x2 x3 x4 x5 x6,V1 r8] ?_ ?_)
 ·clear h hk hS hX c
  exact dh1 (an f14.1 (an f14.2.1 f14.2.2))
 exact Rf h
theorem K4x(c:AllG env [S58,S203,S178]):Q0a env S176:=by
 refine hd c K9i 21 fun O X hS hX hpf hk ⟨x1,x2,x3,x4,x5,x6⟩=>fun r (h:F176 x1 x2 x3 x4 x5 x6=some r)=>gs ?_
 rw[F176]at h
 refine R [0] ?_
 obtain⟨r8,f10,h⟩:=oc h (Z7 hk 0 rfl)
 replace f10:=cb f10
 try simp only[PVE]at f10
 refine seq ?_
 rcases bs h with⟨hsp84,h⟩|⟨hsp84,h⟩
 ·exact rg hS [2] (di1 (an f10 hsp84)) (Rf h)
 obtain⟨r12,f14,h⟩:=oc h (Z7 hk 0 rfl)
 replace f14:=cb f14
 try simp only[PVE]at f14
 rcases bs h with⟨hsp85,h⟩|⟨hsp85,h⟩
 ·exact rg hS [2] (di1 (an f10 (an hsp84 (an f14 hsp85)))) (Rf h)
 obtain⟨r16,f18,h⟩:=oc h (Z7 hk 0 rfl)
 replace f18:=cb f18
 try simp only[PVE]at f18
 rcases bs h with⟨hsp86,h⟩|⟨hsp86,h⟩
 ·exact rg hS [2] (di1 (an f10 (an hsp84 (an f14 (an hsp85 (an f18 hsp86)))))) (Rf h)
 obtain⟨r20,f22,h⟩:=oc h (Z6 hk 1 rfl)
 rcases bs h with⟨hsp87,h⟩|⟨hsp87,h⟩
 ·exact rg hS [2] (di1 (an f10 (an hsp84 (an f14 (an hsp85 (an f18 (an hsp86 (an (cb f22) hsp87)))))))) (Rf h)
 obtain⟨r24,f26,h⟩:=oc h (Z6 hk 2 rfl)
 exact rg hS [2] (di1 (an f10 (an hsp84 (an f14 (an hsp85 (an f18 (an hsp86 (an (cb f22) (an hsp87 (cb f26)))))))))) (Rf h)
theorem K4w{w142:Y3}(c:AllG env [S59,S174,S24 w142]):Q0a env (S177 w142):=by
 refine hd c K9h 23 fun O X hS hX hpf hk ⟨from1,to2,x3,x4,x5,x6,x7,x8⟩=>fun r (h:F177 w142 from1 to2 x3 x4 x5 x6 x7 x8=some r)=>gs ?_
 rw[F177]at h
 refine R [0,1,2,6] ?_
 refine seq (Ua1 h [0,1,2,6,7] (Z6 hk 0 rfl) fun r16 h=>?_)
 refine seq (Ua3 h [0,2,6,7] (Z7 hk 1 rfl) fun x20 x21 x22 h=>?_)
 refine seq (Ua4 h [0,2,6,7] (Z7 hk 2 rfl) fun r26 x27 x28 x29 h=>?_)
 refine seq (Ua3 h [6,7] (Z7 hk 1 rfl) fun x33 x34 x35 h=>?_)
 exact Rt h [6]
theorem K4q(c:AllG env []):Q0a env S186:=by
 refine hd c K9c 13 ?_
 rintro O X hS hX hpf hk (n1:Int) (r:Str) (h:F186 n1=some r)
 refine gs ?_
 rw[F186]at h
 refine R [0] ?_
 refine R [0,3] ?_
 refine seq (R [0,3,4] ?_)
 refine block (Lp h (fun(s3,i4)=>⟨sl [(0,ai n1),(3,as_ s3),(4,ai i4)],13,[]⟩) ?_)
 clear h
 rintro⟨s3,i4⟩ m7 h
 rw[Z1o]at h
 try dsimp only at h
 refine AW.st (seq ?_)
 refine R [0,3,4,7] ?_
 refine iz h (fun h=>?_) fun h=>?_
 ·obtain⟨s9,f11,h⟩:=oc h fun _=>Q5z
  try simp only[LNS,List.length_replicate,Nat.reduceAdd,Nat.reduceLeDiff,Nat.add_zero,Nat.reduceMul]at f11
  refine skip (seq ?_)
  refine block (rg hS [0,3,4] (di1 (an f11.1 f11.2)) ?_)
  refine G [0,3,4] ?_
  exact nx h
 exact exit (Rt h [2])
theorem K4k(c:AllG env []):Q0a env S204:=by
 refine hd c K8u 35 fun O X hS hX hpf hk ⟨s1,at2⟩=>fun r (h:F204 s1 at2=some r)=>gs ?_
 rw[F204]at h
 refine R [0,1] ?_
 refine R [0,1,6] ?_
 refine seq (block ?_)
 refine Lp h (fun(at5,n6)=>⟨sl [(0,as_ s1),(1,ai at5),(6,ai n6)],35,[]⟩) ?_
 clear h
 rintro⟨at5,n6⟩ m9 h
 rw[Q4q]at h
 try dsimp only at h
 obtain⟨c10,f12,h⟩:=oc h fun _ q=>Q1s (Q0d q)
 refine AW.st (seq ?_)
 refine seq (reg hS [(0,as_ s1),(1,ai at5),(6,ai n6),(22,ab ((decide (at5<(s1.length:Int))&&decide (48≤c10))&&decide (c10≤57)))] [] ?_ ?_)
 ·clear h hk hS hX c
  exact dh1 (an f12.1 (an f12.2.1 f12.2.2))
 refine iz h (fun h=>?_) fun h=>?_
 ·refine skip (block ?_)
  refine seq ?_
  obtain⟨c14,f16,h⟩:=oc h fun _=>Q1t
  apply rg hS [0,1,6]
  ·simp -implicitDefEqProofs only[RUNS,Q1b,Nat.reduceAdd,Nat.reduceLeDiff,Nat.reduceSub,reduceIte,Nat.reduceEqDiff,Nat.reduceLT,reduceCtorEq,Nat.reduceMul,Nat.reduceBEq,Int.reduceEq,Int.reduceToNat,Int.toNat_zero,Nat.sub_zero,if_true,if_false,eq_self,ne_eq,Q3h,Q2m,Q2b,TYS,f16.1,f16.2.1,f16.2.2,J3w T_5 T_3];exact⟨rfl,rfl⟩
  refine G [0,1,6] ?_
  exact nx h
 exact exit (Rt h [4,5])
theorem K4u{w175:Y2}(c:AllG env [S59,S186,S171,S204,S175 w175]):Q0a env (S179 w175):=by
 refine hd c K9f 104 fun O X hS hX hpf hk ⟨x1,x2,x3,x4,x5,x6⟩=>fun r (h:F179 w175 x1 x2 x3 x4 x5 x6=some r)=>gs ?_
 rw[F179]at h
 refine R [0,2] ?_
 refine seq (Ua1 h [0,2,3] (Z6 hk 0 rfl) fun r11 h=>?_)
 refine seq (R [0,2,3,11] ?_)
 refine ik h (fun h=>?_) fun h=>?_
 ·refine seq ?_
  obtain⟨w16,f18,h⟩:=oc h fun _=>Q0j
  apply dgk mixed hS [0,2,3,4] (ordp hpf (by kernel_rfl))
  ·exact di1 (an f18.1 f18.2.1)
  refine R [2,3,4] ?_
  refine seq ?_
  obtain⟨r19,f21,h⟩:=oc h (Zt hk 1 186 (w16.length:Int))
  obtain⟨r22,f24,h⟩:=oc h (Zt hk 2 171 r11.quoted_)
  apply dgB mixed hS [(2,some 1),(3,some 2),(34,some 2)] [2] rfl (ordB hpf (B:=[(2,some 1),(3,some 2),(34,some 2)]) (by kernel_rfl))
  ·exact di1 (an (ca f21) (ca f24))
  exact Rf h
 refine R [0,2,3] ?_
 refine R [0,2,3,5] ?_
 refine R [0,2,3,5,6] ?_
 refine seqJ (α:=Int×Int) (fun(x25,x26)=>⟨sl [(0,.ref 0 0),(2,.ref 1 0),(3,.ref 2 0),(5,.ref 3 0),(6,ai 1)],104,[V27 x1 x2 x3 (IntKind.wrap .i64 (x4+1)) x5 x6,V10 0 0 0 0 [] [] false,V1 r11,V11 x25 x26 0 0 [] [] [] [] false]⟩) (fun x=>Q9n r11 x4 x5 x6 w175 x1 x2 x3 x=some r) ?_ ?_
 ·intro⟨x25,x26⟩ h
  rw[Q9n]at h
  try dsimp only at h
  refine AW.st (seqJ (α:=Int×Int) (fun(at27,x28)=>⟨sl [(0,.ref 0 0),(2,.ref 1 0),(3,.ref 2 0),(5,.ref 3 0),(6,ai at27)],104,[V27 x1 x2 x3 (IntKind.wrap .i64 (x4+1)) x5 x6,V10 0 0 0 0 [] [] false,V1 r11,V11 x28 x26 0 0 [] [] [] [] false]⟩) (fun x=>Z1q r11 x4 x5 x6 w175 x1 x2 x3 x26 x=some r) ?_ ?_)
  ·intro⟨at27,x28⟩ h
   rw[Z1q]at h
   try dsimp only at h
   refine AW.st (seqJ (α:=Int) (fun x29=>⟨sl [(0,.ref 0 0),(2,.ref 1 0),(5,.ref 3 0)],104,[V27 x1 x2 x3 (IntKind.wrap .i64 (x4+1)) x5 x6,V10 0 0 0 0 [] [] false,V1 r11,V11 x28 x29 0 0 [] [] [] [] false]⟩) (fun x=>Z1p w175 x1 x2 x3 x4 x5 x6 x28 x=some r) ?_ ?_)
   ·intro x29 h
    rw[Z1p]at h
    try dsimp only at h
    refine AW.st (seq ?_)
    refine Ua4 h [2,5] (Z6 hk 4 rfl) fun r30 r31 r32 r33 h=>?_
    exact Rt h [2]
   refine R [0,2,3,5,6,67] ?_
   refine ik h (fun h=>?_) fun h=>?_
   ·refine seq (Ua2 h [0,2,3,5,6] (Zt2 hk 3 rfl) fun r38 r39 h=>?_)
    obtain⟨c42,f44,h⟩:=oc h fun _=>Q1t
    refine seq (rg hS [0,2,3,5,6,81] (di1 (an f44.1 (an f44.2.1 f44.2.2))) ?_)
    refine ik h (fun h=>?_) fun h=>?_
    ·refine R [2,3,5,6] ?_
     obtain⟨c46,f48,h⟩:=oc h fun _=>Q1t
     refine seq (seq ?_)
     refine rg hS [2,3,5,6,88] (di1 (an f48.1 (an f48.2.1 f48.2.2))) ?_
     refine ik h (fun h=>?_) fun h=>?_
     ·refine R [2,3,5,6] ?_
      refine Ua2 h [2,5] (Zt2 hk 3 rfl) fun r50 r51 h=>?_
      exact Rt h [2]
     exact Rt h [2]
    exact jn h
   exact jn h
  obtain⟨c54,f56,h⟩:=oc h fun _ q=>Q1s (Q0d q)
  try simp only[NRM,Int.reduceToNat]at f56
  refine seq (reg hS [(0,.ref 0 0),(2,.ref 1 0),(3,.ref 2 0),(5,.ref 3 0),(6,ai 1),(61,ab (decide (1<(r11.text_.length:Int))&&decide (c54=62)))] [V27 x1 x2 x3 (IntKind.wrap .i64 (x4+1)) x5 x6,V10 0 0 0 0 [] [] false,V1 r11,V11 x25 x26 0 0 [] [] [] [] false] ?_ ?_)
  ·clear h hk hS hX c
   exact dh1 (an f56.1 (an f56.2.1 f56.2.2))
  refine ik h (fun h=>?_) fun h=>?_
  ·refine R [0,2,3,5] ?_
   refine G [0,2,3,5,6] ?_
   exact jn h
  exact jn h
 obtain⟨c58,f60,h⟩:=oc h fun _=>Q1t
 try simp only[NRM,Int.reduceToNat]at f60
 refine seq (rg hS [0,2,3,5,6,49] (di1 (an f60.1 (an f60.2.1 f60.2.2))) ?_)
 refine ik h (fun h=>?_) fun h=>?_
 ·refine R [0,2,3,5,6] ?_
  refine G [0,2,3,5,6] ?_
  exact jn h
 exact jn h
theorem K4i{w175:Y2}(c:AllG env [S175 w175,S203]):Q0a env (S206 w175):=by
 refine hd c K8s 22 fun O X hS hX hpf hk ⟨x1,x2,x3,x4,x5,x6⟩=>fun r (h:F206 w175 x1 x2 x3 x4 x5 x6=some r)=>gs ?_
 rw[F206]at h
 refine R [0] ?_
 obtain⟨⟨r11,r12,r13,r14⟩,f16,h⟩:=oc h (Z6 hk 0 rfl)
 refine seq (rg hS [0,3] (di1 (cb f16)) ?_)
 refine seq (block ?_)
 refine Lq r (Q3c x1 x2 x3 w175) (fun(x18,x19,x20,l21)=>⟨sl [(0,.ref 0 0),(3,.vec 1 (List.length l21))],22,[V27 x1 x2 x3 x18 x19 x20,rWo l21]⟩) ?_ ?_
 ·refine seq (seq ?_)
  rcases bs h with⟨hsp112,h⟩|⟨hsp112,h⟩
  ·obtain⟨r41,f43,h⟩:=oc h (Z6 hk 1 rfl)
   refine rg hS [0,3,15] (di1 (an hsp112 (cb f43))) ?_
   refine iz h (fun h=>?_) fun h=>?_
   ·obtain⟨⟨r46,r47,r48,r49⟩,f51,h⟩:=oc h (Z6 hk 0 rfl)
    replace h:=ap Word.pv h;obtain⟨out53,f55,h⟩:=h
    refine skip (block ?_)
    refine reg hS [(0,.ref 0 0),(3,.vec 1 (List.length out53))] [V27 x1 x2 x3 r47 r48 r49,rWo out53] (dk1 (an (cb f51) f55)) ?_
    exact ny h
   exact exit (Rt h [2])
  refine rg hS [0,3,15] (di1 hsp112) ?_
  exact cF (exit (Rt h [2]))
 clear h
 rintro⟨x18,x19,x20,l21⟩ m24 h
 unfold Q3c at h
 try dsimp only at h
 refine AW.st (seq ?_)
 refine seq ?_
 rcases bs h with⟨hsp111,h⟩|⟨hsp111,h⟩
 ·obtain⟨r25,f27,h⟩:=oc h (Z6 hk 1 rfl)
  refine rg hS [0,3,15] (di1 (an hsp111 (cb f27))) ?_
  refine iz h (fun h=>?_) fun h=>?_
  ·obtain⟨⟨r30,r31,r32,r33⟩,f35,h⟩:=oc h (Z6 hk 0 rfl)
   replace h:=ap Word.pv h;obtain⟨out37,f39,h⟩:=h
   refine skip (block ?_)
   refine rg hS [0,3] (di1 (an (cb f35) f39)) ?_
   exact nx h
  exact exit (Rt h [2])
 refine rg hS [0,3,15] (di1 hsp111) ?_
 exact cF (exit (Rt h [2]))
theorem K4j{w175:Y2}(c:AllG env [S97,S58,S175 w175]):Q0a env (S205 w175):=by
 refine hd c K8t 26 fun O X hS hX hpf hk ⟨x1,x2,x3,x4,x5,x6⟩=>fun r (h:F205 w175 x1 x2 x3 x4 x5 x6=some r)=>gs ?_
 rw[F205]at h
 refine R [0] ?_
 refine seq (rg hS [0,3] di ?_)
 refine weak (Weak.own 3 49 5 (by decide) rfl) ?_
 refine weak (Weak.slots (L:=[(0,.ref 0 0),(3,.vec 1 (List.length ([]:List Word)))]) ⟨rfl,rfl,trivial⟩) ?_
 refine seq (block ?_)
 refine Lp h (fun(x11,x12,x13,l14)=>⟨sl [(0,.ref 0 0),(3,.vec 1 (List.length l14))],26,[V27 x1 x2 x3 x11 x12 x13,rWo l14]⟩) ?_
 clear h
 rintro⟨x11,x12,x13,l14⟩ m17 h
 rw[Q5r]at h
 try dsimp only at h
 refine AW.st (seq ?_)
 refine R [0,3,8] ?_
 refine iz h (fun h=>?_) fun h=>?_
 ·refine skip (block ?_)
  refine seq (Ua1 h [0,3] (Z6 hk 0 rfl) fun x19 h=>?_)
  refine seq (seq ?_)
  refine Ua1 h [0,3,12] (Z7 hk 1 rfl) fun r23 h=>?_
  refine ik h (fun h=>?_) fun h=>?_
  ·refine R [3] ?_
   exact Rt h [2]
  obtain⟨⟨r28,r29,r30,r31⟩,f33,h⟩:=oc h (Z6 hk 2 rfl)
  replace h:=ap Word.pv h;obtain⟨out35,f37,h⟩:=h
  refine rg hS [0,3] (di1 (an (cb f33) f37)) ?_
  exact nx h
 exact exit (Rt h [2])
theorem K4t{w142:Y3}{w175:Y2}(c:AllG env [S59,S174,S175 w175,S173,S206 w175,S140,S177 w142,S97,S142 w142,S205 w175,S55,S58,S56,S60,S24 w142]):Q0a env (S180 w142 w175):=by
 refine hd c K9e 181 fun O X hS hX hpf hk ⟨ckind1,cat2,cname3,x4,x5,x6,x7,x8,x9,l10⟩=>fun r (h:F180 w142 w175 ckind1 cat2 cname3 x4 x5 x6 x7 x8 x9 l10=some r)=>?_
 have pf_177:O.pf 177=false:=pft hpf 177 rfl
 refine gs ?_
 rw[F180]at h
 refine seq (AW.after ?_)
 refine rg hS [0,3,4] di ?_
 refine oC Cmd.pv 2 5 36 6 ?_
 refine seq (Ua1 h [0,3,4,5] (Z6 hk 0 rfl) fun r15 h=>?_)
 refine R [0,3,4,5] ?_
 refine seq (R [0,3,4,5,17] ?_)
 refine block (seqM ⟨sl [(0,.ref 0 0),(3,.ref 2 0),(4,.ref 3 0),(5,as_ r15.text_),(17,as_ r15.text_),(22,ab (bif decide (r15.text_=[105,102])then decide (r15.text_=[105,102])else decide (r15.text_=[119,104,105,108,101])))],181,[V27 x4 x5 x6 (IntKind.wrap .i64 (x7+1)) x8 x9,rRe l10,V28 ckind1 cat2 cname3 l10.length (List.length ([]:List Cmd)),V5 0 0 [],.row 36 6 (List.map Cmd.pv ([]:List Cmd)) true]⟩ ?_ ?_)
 ·refine R [0,3,4,5,17,22] ?_
  refine cond (b:=decide (r15.text_=[105,102])) rfl (fun hb19=>?_) (fun hb19=>?_)
  ·exact skip (Weak.of_eq (Weak.slots (L:=[(0,.ref 0 0),(3,.ref 2 0),(4,.ref 3 0),(5,as_ r15.text_),(17,as_ r15.text_),(22,ab (decide (r15.text_=[105,102])))]) kp) (wq hb19))
  refine G [0,3,4,5,17,22] ?_
  exact Weak.of_eq (Weak.slots (L:=[(0,.ref 0 0),(3,.ref 2 0),(4,.ref 3 0),(5,as_ r15.text_),(17,as_ r15.text_),(22,ab (decide (r15.text_=[119,104,105,108,101])))]) kp) (wq hb19)
 refine iz h (fun h=>?_) fun h=>?_
 ·refine R [0,3,4,5] ?_
  refine seqM ⟨sl [(0,.ref 0 0),(3,.ref 2 0),(4,.ref 3 0),(5,as_ r15.text_)],181,[V27 x4 x5 x6 (IntKind.wrap .i64 (x7+1)) x8 x9,rRe l10,V28 (bif decide (r15.text_=[119,104,105,108,101])then 11 else 8) cat2 cname3 l10.length (List.length ([]:List Cmd)),V5 0 0 [],.row 36 6 (List.map Cmd.pv ([]:List Cmd)) true]⟩ ?_ ?_
  ·refine R [0,3,4,5,27] ?_
   refine cond (b:=decide (r15.text_=[119,104,105,108,101])) rfl (fun hb21=>?_) (fun hb21=>?_)
   ·refine G [0,3,4,5] ?_
    exact Weak.of_eq (Weak.slots (L:=[(0,.ref 0 0),(3,.ref 2 0),(4,.ref 3 0),(5,as_ r15.text_)]) kp) (wq hb21)
   exact skip (Weak.of_eq (Weak.slots (L:=[(0,.ref 0 0),(3,.ref 2 0),(4,.ref 3 0),(5,as_ r15.text_)]) kp) (wq hb21))
  refine seqJ (α:=Int×Int×Int×Int×(List Cmd)) (fun(x22,x23,x24,x25,l26)=>⟨sl [(0,.ref 0 0),(3,.ref 2 0),(4,.ref 3 0)],181,[V27 x4 x5 x6 x22 x23 x24,rRe l10,V28 x25 cat2 cname3 l10.length l26.length,V5 0 0 [],rCm l26]⟩) (fun x=>Q3s x4 x5 x6 w142 cat2 cname3 l10 x=some r) ?_ ?_
  ·intro⟨x22,x23,x24,x25,l26⟩ h
   rw[Q3s]at h
   try dsimp only at h
   refine AW.st (seq ?_)
   refine Ua1 h [0,3,4] (Z6 hk 7 rfl) fun x27 h=>?_
   obtain⟨⟨r31,r32,r33,r34⟩,f36,h⟩:=oc h (Z6 hk 8 rfl)
   replace h:=ap Cmd.pv h;obtain⟨out38,f40,h⟩:=h
   refine dV 52 7 [3,5,7] [(0,0),(0,1),(1,0),(1,1),(2,0),(3,0),(4,1),(5,1),(6,2),(7,2)] [.ref 2 5,.vec 4 (List.length l26),.ref 0 0,.pv (V7 r31),.full [V7 r31],.vec 4 (List.length out38),.ref 2 5,.any] [[(0,V27 x4 x5 x6 r32 r33 r34)],[(4,rCm out38)],[(2,V28 x25 cat2 cname3 l10.length out38.length)]] [3,4] (an (cb f36) f40) ?_
   exact Rt h [4]
  refine seq ?_
  rcases bs h with⟨hsp145,h⟩|⟨hsp145,h⟩
  ·obtain⟨r41,f43,h⟩:=oc h (Z7 hk 5 rfl)
   replace f43:=cb f43
   try simp only[PVE]at f43
   refine rg hS [0,3,4,34] (di1 (an hsp145 f43)) ?_
   refine iz h (fun h=>?_) fun h=>?_
   ·refine R [0,3,4] ?_
    refine G [0,3,4] ?_
    exact jn h
   obtain⟨⟨kind46,at47,name48,kids49,x50,x51,x52⟩,q53,h⟩:=obs h
   dsimp only at h
   have f54:=(hk 6 177 rfl).ret (([40]:Str),([41]:Str),x4,x5,x6,(IntKind.wrap .i64 (x7+1)),x8,x9) q53 rfl rfl
   try simp only[PVE]at f54
   have e55:Q0v O [V27 x4 x5 x6 (IntKind.wrap .i64 (x7+1)) x8 x9,rRe l10,V28 (bif decide (r15.text_=[119,104,105,108,101])then 11 else 8) cat2 cname3 l10.length (List.length ([]:List Cmd)),V5 0 0 [],.row 36 6 (List.map Cmd.pv ([]:List Cmd)) true] 177 [.ref 0 0,as_ [40],as_ [41]]=some (Q1a [.agg [ai kind46,ai at47,as_ name48,.nils,.nils,vC kids49]],[V27 x4 x5 x6 x50 x51 x52,rRe l10,V28 (bif decide (r15.text_=[119,104,105,108,101])then 11 else 8) cat2 cname3 l10.length (List.length ([]:List Cmd)),V5 0 0 [],.row 36 6 (List.map Cmd.pv ([]:List Cmd)) true]):=Q0i rfl rfl rfl f54 rfl rfl rfl
   try simp only[List.length_nil,List.map_nil]at e55
   replace h:=ap Cmd.pv h;obtain⟨out56,f58,h⟩:=h
   refine dV 43 7 [3,5,7] [(0,0),(0,1),(1,0),(1,1),(2,0),(3,0),(4,1),(5,1),(6,2),(7,2)] [.ref 2 5,.vec 4 (List.length ([]:List Cmd)),.ref 0 0,.agg [ai kind46,ai at47,as_ name48,.nils,.nils,vC kids49],.full (List.map Cmd.pv [Cmd.mk kind46 at47 name48 [] [] kids49]),.vec 4 (List.length out56),.ref 2 5,.any] [[(0,V27 x4 x5 x6 x50 x51 x52)],[(4,rCm out56)],[(2,V28 (bif decide (r15.text_=[119,104,105,108,101])then 11 else 8) cat2 cname3 l10.length out56.length)]] [0,3,4] (an pf_177 (an e55 f58)) ?_
   exact jn h
  refine rg hS [0,3,4,34] (di1 hsp145) ?_
  refine cF ?_
  obtain⟨⟨kind42,at43,name44,kids45,x46,x47,x48⟩,q49,h⟩:=obs h
  dsimp only at h
  have f50:=(hk 6 177 rfl).ret (([40]:Str),([41]:Str),x4,x5,x6,IntKind.wrap .i64 (x7+1),x8,x9) q49 rfl rfl
  try simp only[PVE]at f50
  have e51:Q0v O [V27 x4 x5 x6 (IntKind.wrap .i64 (x7+1)) x8 x9,rRe l10,V28 (bif decide (r15.text_=[119,104,105,108,101])then 11 else 8) cat2 cname3 l10.length (List.length ([]:List Cmd)),V5 0 0 [],.row 36 6 (List.map Cmd.pv ([]:List Cmd)) true] 177 [.ref 0 0,as_ [40],as_ [41]]=some (Q1a [.agg [ai kind42,ai at43,as_ name44,.nils,.nils,vC kids45]],[V27 x4 x5 x6 x46 x47 x48,rRe l10,V28 (bif decide (r15.text_=[119,104,105,108,101])then 11 else 8) cat2 cname3 l10.length (List.length ([]:List Cmd)),V5 0 0 [],.row 36 6 (List.map Cmd.pv ([]:List Cmd)) true]):=Q0i rfl rfl rfl f50 rfl rfl rfl
  try simp only[List.length_nil,List.map_nil]at e51
  replace h:=ap Cmd.pv h;obtain⟨out52,f54,h⟩:=h
  refine dV 43 7 [3,5,7] [(0,0),(0,1),(1,0),(1,1),(2,0),(3,0),(4,1),(5,1),(6,2),(7,2)] [.ref 2 5,.vec 4 (List.length ([]:List Cmd)),.ref 0 0,.agg [ai kind42,ai at43,as_ name44,.nils,.nils,vC kids45],.full (List.map Cmd.pv [Cmd.mk kind42 at43 name44 [] [] kids45]),.vec 4 (List.length out52),.ref 2 5,.any] [[(0,V27 x4 x5 x6 x46 x47 x48)],[(4,rCm out52)],[(2,V28 (bif decide (r15.text_=[119,104,105,108,101])then 11 else 8) cat2 cname3 l10.length out52.length)]] [0,3,4] (an pf_177 (an e51 f54)) ?_
  exact jn h
 refine R [0,3,4,17,59] ?_
 refine iz h (fun h=>?_) fun h=>?_
 ·refine R [0,3,4] ?_
  refine seq (Ua3 h [0,3,4] (Z7 hk 1 rfl) fun x60 x61 x62 h=>?_)
  refine seq (Ua4 h [0,3,4] (Z6 hk 3 rfl) fun r66 x67 x68 x69 h=>?_)
  refine seq (rg hS [0,3,4] di ?_)
  refine seq (seq ?_)
  refine Ua1 h [0,3,4,71] (Z7 hk 5 rfl) fun r73 h=>?_
  refine iz h (fun h=>?_) fun h=>?_
  ·refine R [0,3,4] ?_
   refine Ua4 h [0,3,4] (Z6 hk 9 rfl) fun r78 x79 x80 x81 h=>?_
   refine seq (Ua1 h [0,3,4] (Z6 hk 7 rfl) fun x85 h=>?_)
   obtain⟨⟨r89,r90,r91,r92⟩,f94,h⟩:=oc h (Z6 hk 8 rfl)
   replace h:=ap Cmd.pv h;obtain⟨out96,f98,h⟩:=h
   refine dV 86 7 [3,5,7] [(0,0),(0,1),(1,0),(1,1),(2,0),(3,0),(4,1),(5,1),(6,2),(7,2)] [.ref 2 5,.vec 4 (List.length ([]:List Cmd)),.ref 0 0,.pv (V7 r89),.full [V7 r89],.vec 4 (List.length out96),.ref 2 5,.any] [[(0,V27 x4 x5 x6 r90 r91 r92)],[(4,rCm out96)],[(2,V29 10 cat2 r66 r78 l10.length out96.length)]] [3,4] (an (cb f94) f98) ?_
   exact Rt h [4]
  refine Ua3 h [0,3,4] (Z7 hk 1 rfl) fun x99 x100 x101 h=>?_
  refine seq (Ua1 h [0,3,4] (Z6 hk 7 rfl) fun x105 h=>?_)
  obtain⟨⟨r109,r110,r111,r112⟩,f114,h⟩:=oc h (Z6 hk 8 rfl)
  replace h:=ap Cmd.pv h;obtain⟨out116,f118,h⟩:=h
  refine dV 86 7 [3,5,7] [(0,0),(0,1),(1,0),(1,1),(2,0),(3,0),(4,1),(5,1),(6,2),(7,2)] [.ref 2 5,.vec 4 (List.length ([]:List Cmd)),.ref 0 0,.pv (V7 r109),.full [V7 r109],.vec 4 (List.length out116),.ref 2 5,.any] [[(0,V27 x4 x5 x6 r110 r111 r112)],[(4,rCm out116)],[(2,.var [ai 10,ai cat2,as_ r66,.full (List.map Word.pv [Word.mk 2 [42] [] [] []]),.vec 1 (List.length l10),.vec 4 (List.length out116)])]] [3,4] (an (cb f114) f118) ?_
  exact Rt h [4]
 refine R [0,3,4,17,93] ?_
 refine iz h (fun h=>?_) fun h=>?_
 ·refine R [0,3,4] ?_
  obtain⟨⟨r120,r121,r122,r123⟩,f125,h⟩:=oc h (Z6 hk 2 rfl)
  refine seq (rg hS [0,3,4] (di1 (cb f125)) ?_)
  refine seq (Ua3 h [0,3,4] (Z7 hk 1 rfl) fun x127 x128 x129 h=>?_)
  refine seq (Ua1 h [0,3,4] (Z6 hk 10 rfl) fun x133 h=>?_)
  refine seq (block ?_)
  refine Lp h (fun(x137,x138,x139,l140)=>⟨sl [(0,.ref 0 0),(3,.ref 2 0),(4,.ref 3 0)],181,[V27 x4 x5 x6 x137 x138 x139,rRe l10,.var [ai 17,ai cat2,as_ cname3,.full [V14 r120],.vec 1 (List.length l10),.vec 4 (List.length l140)],V5 0 0 [],rCm l140]⟩) ?_
  clear h
  rintro⟨x137,x138,x139,l140⟩ m143 h
  rw[Q1r]at h
  try dsimp only at h
  refine AW.st (seq ?_)
  refine seq ?_
  rcases bs h with⟨hsp153,h⟩|⟨hsp153,h⟩
  ·obtain⟨r144,f146,h⟩:=oc h (Z7 hk 5 rfl)
   replace f146:=cb f146
   try simp only[PVE]at f146
   refine rg hS [0,3,4,112] (di1 (an hsp153 f146)) ?_
   refine iz h (fun h=>?_) fun h=>?_
   ·refine skip (block ?_)
    refine seq (Ua1 h [0,3,4,6] (Z6 hk 0 rfl) fun r149 h=>?_)
    refine R [0,3,4,6] ?_
    refine seq (Ua4 h [0,3,4,6] (Z6 hk 4 rfl) fun r153 x154 x155 x156 h=>?_)
    refine seqJ (α:=Int×Int) (fun(x160,x161)=>⟨sl [(0,.ref 0 0),(3,.ref 2 0),(4,.ref 3 0),(6,.ref 5 0)],181,[V27 x4 x5 x6 x154 x160 x161,rRe l10,.var [ai 17,ai cat2,as_ cname3,.full [V14 r120],.vec 1 (List.length l10),.vec 4 (List.length l140)],V5 0 0 [],rCm l140,V30 18 r149.at_ [] r153]⟩) (fun x=>Q2f w142 x4 x5 x6 x154 l140 r149 r153 (iter (Q1r x4 x5 x6 w175 w142 cat2 cname3 r120 l10) m143) x=some r) ?_ ?_
    ·intro⟨x160,x161⟩ h
     rw[Q2f]at h
     try dsimp only at h
     refine AW.st (seq ?_)
     refine Ua4 h [0,3,4,6] (Z7 hk 14 rfl) fun r162 x163 x164 x165 h=>?_
     replace h:=ap Cmd.pv h;obtain⟨out169,f171,h⟩:=h
     refine rg hS [0,3,4] (di1 f171) ?_
     exact nx h
    refine seq ?_
    rcases bs h with⟨hsp157,h⟩|⟨hsp157,h⟩
    ·obtain⟨r172,f174,h⟩:=oc h (Z6 hk 0 rfl)
     rcases bs h with⟨hsp158,h⟩|⟨hsp158,h⟩
     ·obtain⟨r176,f178,h⟩:=oc h (Z7 hk 11 rfl)
      replace f178:=cb f178
      try simp only[PVE]at f178
      rcases bs h with⟨hsp159,h⟩|⟨hsp159,h⟩
      ·obtain⟨r180,f182,h⟩:=oc h (Z7 hk 12 rfl)
       replace f182:=cb f182
       try simp only[PVE]at f182
       refine rg hS [0,3,4,6,147] (di1 (an hsp157 (an (cb f174) (an hsp158 (an f178 (an hsp159 f182)))))) ?_
       refine ik h (fun h=>?_) fun h=>?_
       ·refine Ua2 h [0,3,4,6] (Z6 hk 13 rfl) fun x185 x186 h=>?_
        exact jn h
       exact jn h
      refine rg hS [0,3,4,6,147] (di1 (an hsp157 (an (cb f174) (an hsp158 (an f178 hsp159))))) ?_
      refine cF (skip ?_)
      exact jn h
     refine rg hS [0,3,4,6,147] (di1 (an hsp157 (an (cb f174) hsp158))) ?_
     refine cF (skip ?_)
     exact jn h
    refine rg hS [0,3,4,6,147] (di1 hsp157) ?_
    refine cF (skip ?_)
    exact jn h
   refine exit (Ua3 h [3,4] (Z7 hk 1 rfl) fun x190 x191 x192 h=>?_)
   exact Rt h [4]
  refine rg hS [0,3,4,112] (di1 hsp153) ?_
  refine cF (exit (Ua3 h [3,4] (Z7 hk 1 rfl) fun x145 x146 x147 h=>?_))
  exact Rt h [4]
 refine R [0,3,4,161] ?_
 refine iz h (fun h=>?_) fun h=>?_
 ·refine R [0,3,4] ?_
  refine seq (Ua4 h [0,3,4] (Z6 hk 3 rfl) fun r198 x199 x200 x201 h=>?_)
  refine seq (Ua1 h [0,3,4,168] (Z7 hk 11 rfl) fun r205 h=>?_)
  refine ik h (fun h=>?_) fun h=>?_
  ·obtain⟨⟨kind210,at211,name212,kids213,x214,x215,x216⟩,q217,h⟩:=obs h
   dsimp only at h
   have f218:=(hk 6 177 rfl).ret (([123]:Str),([125]:Str),x4,x5,x6,x199,x200,x201) q217 rfl rfl
   try simp only[PVE]at f218
   have e219:Q0v O [V27 x4 x5 x6 x199 x200 x201,rRe l10,V28 15 cat2 r198 l10.length (List.length ([]:List Cmd)),V5 0 0 [],.row 36 6 (List.map Cmd.pv ([]:List Cmd)) true] 177 [.ref 0 0,as_ [123],as_ [125]]=some (Q1a [.agg [ai kind210,ai at211,as_ name212,.nils,.nils,vC kids213]],[V27 x4 x5 x6 x214 x215 x216,rRe l10,V28 15 cat2 r198 l10.length (List.length ([]:List Cmd)),V5 0 0 [],.row 36 6 (List.map Cmd.pv ([]:List Cmd)) true]):=Q0i rfl rfl rfl f218 rfl rfl rfl
   try simp only[List.length_nil,List.map_nil]at e219
   refine seq (rg hS [3,4] (di1 (ap0 177 hpf e219)) ?_)
   refine R [3,4,176] ?_
   refine ik h (fun h=>?_) fun h=>?_
   ·refine rg hS [3,4] di ?_
    exact Rt h [4]
   exact Rt h [4]
  exact Rt h [4]
 refine R [0,3,4] ?_
 refine Ua4 h [3,4] (Z6 hk 4 rfl) fun r221 x222 x223 x224 h=>?_
 exact Rt h [4]
end Go.Abs.U48
