import Derived.Test.YtljahlbklgnfhaaGreatDoorD1
set_option linter.unusedVariables false
set_option linter.unusedSimpArgs false
set_option linter.defProp false
set_option maxRecDepth 8000
set_option maxHeartbeats 4000000
namespace Go.Abs.U48
open Go.RowKit Go.Proofs AW
theorem K4n{w200:Y0}{w252:Y1}(c:AllG env [S84,S133,S144,S128,S223 w200 w252,S224 w200,S225 w200 w252,S83,S226 w200,S227 w200 w252,S228 w200 w252,S229 w200,S230 w252,S48,S81,S231 w252]):Q0a env (S200 (F200 w200 w252)):=by
 refine hd c X6d 97 fun O X hS hX hpf hk ⟨inCase1,x2,x3,x4,x5⟩=>fun r (h:F200 w200 w252 inCase1 x2 x3 x4 x5=some r)=>?_
 have pf_144:O.pf 144=true:=pft hpf 144 rfl
 refine gs ?_
 rw[F200]at h
 refine R [0,1,4] ?_
 obtain⟨r8,f10,h⟩:=oc h (Z5 hk 0 rfl)
 obtain⟨r12,f14,h⟩:=oc h (Z5 hk 0 rfl)
 refine seq (rg hS [0,1,4,5,6] (di1 (an (cb f10) (cb f14))) ?_)
 obtain⟨r16,f18,h⟩:=oc h (Zt hk 1 133 r8)
 obtain⟨r19,q20,h⟩:=obs h
 replace q20:=Q0d q20
 have f21:=fun hg=>(hk 2 144 rfl).ret r8.text_ (q20 hg) rfl rfl
 obtain⟨r22,q23,h⟩:=obs h
 replace q23:=Q0d q23
 have f24:=fun hg=>(hk 3 128 rfl).ret (r12,([61]:Str)) (q23 hg) rfl rfl
 try simp only[PVE]at f24
 refine seq (block ?_)
 refine seq (reg hS [(0,.ref 0 0),(1,ab inCase1),(4,.ref 1 0),(5,.ref 2 0),(6,.ref 3 0),(11,ab ((r16&&r19)&&r22))] [V4 x2 x3 x4 x5,V5 0 0 [],V1 r8,V1 r12] ?_ ?_)
 ·clear h hk hS hX c
  exact dh1 (an (ca f18) (an pf_144 (an f21 (ap1 128 hpf f24))))
 refine iz h (fun h=>?_) fun h=>?_
 ·refine seq (Xa2 h [4] (Z5 hk 4 rfl) 2 fun r26 x27 h=>?_)
  exact Rf h
 refine seq (Ua1 h [0,1,4,5,6,26] (Zt2 hk 3 rfl) fun r34 h=>?_)
 refine iz h (fun h=>?_) fun h=>?_
 ·refine seq (Xa2 h [4] (Z7 hk 5 rfl) 2 fun r38 x39 h=>?_)
  exact Rf h
 refine seq (Ua1 h [0,1,4,5,6,32] (Zt2 hk 3 rfl) fun r46 h=>?_)
 refine iz h (fun h=>?_) fun h=>?_
 ·refine seq (Xa2 h [4] (Z7 hk 5 rfl) 2 fun r50 x51 h=>?_)
  exact Rf h
 refine seq (Ua1 h [0,1,4,5,6,38] (Zt2 hk 3 rfl) fun r58 h=>?_)
 refine ik h (fun h=>?_) fun h=>?_
 ·refine seq (Xa2 h [4] (Z4 hk 6 rfl) 1 fun r62 x63 h=>?_)
  exact Rf h
 refine seqJ (α:=Int) (fun x70=>⟨sl [(0,.ref 0 0),(1,ab inCase1),(4,.ref 1 0)],97,[V4 x2 x3 x4 x70,V5 0 0 [],V1 r8,V1 r12]⟩) (fun x=>Q9m inCase1 x2 x3 x4 w252 x=some r) ?_ ?_
 ·intro x70 h
  rw[Q9m]at h
  try dsimp only at h
  refine AW.st (seq ?_)
  refine seq (Ua1 h [0,4,92] (Z5 hk 14 rfl) fun r71 h=>?_)
  refine ik h (fun h=>?_) fun h=>?_
  ·refine Xa1 h [0,4] (Z4 hk 13 rfl) 1 fun _ h=>?_
   refine seq (Xa2 h [4] (Z4 hk 15 rfl) 1 fun r82 x83 h=>?_)
   exact Rf h
  refine seq (Xa2 h [4] (Z4 hk 15 rfl) 1 fun r90 x91 h=>?_)
  exact Rf h
 refine seq (Ua1 h [0,1,4,6,44] (Zt hk 7 83 r8) fun r98 h=>?_)
 refine block (R [0,1,4,6,44,45] ?_)
 refine iz h (fun h=>?_) fun h=>?_
 ·refine seq (seq ?_)
  refine Ua1 h [0,1,4,49] (Zt hk 7 83 r12) fun r102 h=>?_
  refine ik h (fun h=>?_) fun h=>?_
  ·refine seq (Xa2 h [4] (Z7 hk 5 rfl) 2 fun r106 x107 h=>?_)
   exact Rf h
  refine seq (Xa2 h [4] (Z6 hk 8 rfl) 2 fun r114 x115 h=>?_)
  exact Rf h
 refine R [0,1,4,44,56] ?_
 refine iz h (fun h=>?_) fun h=>?_
 ·refine seq (Xa2 h [4] (Z6 hk 8 rfl) 2 fun r123 x124 h=>?_)
  exact Rf h
 refine R [0,1,4,44,61] ?_
 refine iz h (fun h=>?_) fun h=>?_
 ·refine seq (Xa2 h [4] (Z5 hk 9 rfl) 2 fun r132 x133 h=>?_)
  exact Rf h
 refine R [0,1,4,44,66] ?_
 refine iz h (fun h=>?_) fun h=>?_
 ·refine seq (Xa2 h [4] (Z4 hk 10 rfl) 1 fun r141 x142 h=>?_)
  exact Rf h
 refine R [0,1,4,44,70] ?_
 refine iz h (fun h=>?_) fun h=>?_
 ·refine seq (Xa2 h [4] (Z4 hk 11 rfl) 1 fun r150 x151 h=>?_)
  exact Rf h
 refine R [0,1,4,44,74] ?_
 refine iz h (fun h=>?_) fun h=>?_
 ·refine seq (Xa2 h [4] (Z4 hk 12 rfl) 1 fun r159 x160 h=>?_)
  exact Rf h
 refine R [0,1,4,78] ?_
 refine ik h (fun h=>?_) fun h=>?_
 ·refine R [0,1,4] ?_
  refine Xa1 h [0,1,4] (Z4 hk 13 rfl) 1 fun _ h=>?_
  exact jn h
 exact jn h
theorem K2z{w252:Y1}(c:AllG env [S84,S256,S127,S257 w252,S48,S255]):Q0a env (S286 w252):=by
 refine hd c K7h 46 fun O X hS hX hpf hk ⟨x1,x2,x3,x4⟩=>fun r (h:F286 w252 x1 x2 x3 x4=some r)=>gs ?_
 rw[F286]at h
 refine R [0,2] ?_
 refine seq (Ua1 h [0,2,3] (Z5 hk 0 rfl) fun r7 h=>?_)
 refine seq (Xa2 h [0,2,3,4] (Z4 hk 1 rfl) 1 fun r11 x12 h=>?_)
 obtain⟨r19,f21,h⟩:=oc h (Z5 hk 2 rfl)
 replace f21:=cb f21
 try simp only[PVE]at f21
 refine seq (seq ?_)
 rcases bs h with⟨hsp21,h⟩|⟨hsp21,h⟩
 ·refine dV 10 15 [1,5,6] [(0,0),(1,0),(2,1),(3,1),(4,1),(5,1),(6,2),(7,1),(7,2),(7,3),(8,1),(8,2),(8,3),(9,1),(9,2),(9,3),(10,1),(10,2),(10,3),(11,1),(11,2),(11,3),(12,1),(12,2),(12,3),(13,3),(14,3)] [.ref 0 0,ab r19,ab (!r19),ab true,.tup [],.tup [],.tup [],.tup [],.tup [],.tup [],.tup [],.tup [],.tup [],.tup [],ab true] [[],[],[]] [0,2,4,24] (an f21 hsp21) ?_
  refine cond (b:=true) rfl (fun _=>?_) (fun hb=>absurd hb (by decide))
  exact Rt h [2]
 obtain⟨r23,f25,h⟩:=oc h (Z5 hk 0 rfl)
 refine dV 10 15 [1,5,6] [(0,0),(1,0),(2,1),(3,1),(4,1),(5,1),(6,2),(7,1),(7,2),(7,3),(8,1),(8,2),(8,3),(9,1),(9,2),(9,3),(10,1),(10,2),(10,3),(11,1),(11,2),(11,3),(12,1),(12,2),(12,3),(13,3),(14,3)] [.ref 0 0,ab r19,ab (!r19),ab false,.ref 0 0,.pv (V6 r23),ai r23.at_,.ref 2 1,ai r7.at_,.ref 2 2,as_ r7.text_,ai (r7.text_.length:Int),ai (IntKind.wrap .i64 (r7.at_+(r7.text_.length:Int))),ab (!decide (r23.at_=IntKind.wrap .i64 (r7.at_+(r7.text_.length:Int)))),ab (!decide (r23.at_=IntKind.wrap .i64 (r7.at_+(r7.text_.length:Int))))] [[],[],[]] [0,2,4,24] (an f21 (an hsp21 (cb f25))) ?_
 refine ik h (fun h=>?_) fun h=>?_
 ·exact Rt h [2]
 refine R [0,2,4] ?_
 refine R [0,2,4] ?_
 refine seq (Xa2 h [0,2,4] (Z4 hk 3 rfl) 1 fun r28 x29 h=>?_)
 refine seqJ (α:=Unit) (fun _=>⟨sl [(0,.ref 0 0),(2,.ref 1 0),(4,.ref 3 0)],46,[V4 x1 x2 x3 x29,V18 0 [] [],V1 r7,V19 7 r11 [] r28 []]⟩) (fun x=>Z5e x1 x2 x3 x29 r11 r28 x=some r) ?_ ?_
 ·intro _ h
  rw[Z5e]at h
  try dsimp only at h
  refine AW.st (seq ?_)
  refine Xa2 h [2,4] (Z5 hk 5 rfl) 1 fun r36 x37 h=>?_
  exact Rt h [2]
 refine R [0,2,4,40] ?_
 refine ik h (fun h=>?_) fun h=>?_
 ·refine Xa1 h [0,2,4] (Z4 hk 4 rfl) 1 fun _ h=>?_
  exact jn h
 exact jn h
theorem K3e{w200:Y0}{w252:Y1}(c:AllG env [S84,S129,S48,S286 w252,S256,S257 w252,S255,S253 w200]):Q0a env (S274 w200 w252):=by
 refine hd c K7m 54 fun O X hS hX hpf hk ⟨x1,x2,x3,x4⟩=>fun r (h:F274 w200 w252 x1 x2 x3 x4=some r)=>gs ?_
 rw[F274]at h
 refine R [0,2] ?_
 refine seq (Ua1 h [0,2,3] (Z5 hk 0 rfl) fun r7 h=>?_)
 refine seqJ (α:=Unit) (fun _=>⟨sl [(0,.ref 0 0),(2,.ref 1 0),(3,.ref 2 0)],54,[V4 x1 x2 x3 x4,V18 0 [] [],V1 r7]⟩) (fun x=>Z5f r7 x4 w252 x1 x2 x3 w200 x=some r) ?_ ?_
 ·intro _ h
  rw[Z5f]at h
  try dsimp only at h
  refine AW.st (R [0,2,3] ?_)
  refine seq (block ?_)
  refine R [0,2,3,19] ?_
  refine iz h (fun h=>?_) fun h=>?_
  ·exact Rt h [2]
  refine R [0,2,3,28] ?_
  refine iz h (fun h=>?_) fun h=>?_
  ·refine seq (Xa2 h [2] (Z4 hk 3 rfl) 1 fun r13 x14 h=>?_)
   exact Rf h
  refine R [0,2,3,34] ?_
  refine iz h (fun h=>?_) fun h=>?_
  ·refine seq (Xa2 h [2] (Z4 hk 4 rfl) 1 fun r22 x23 h=>?_)
   exact Rf h
  refine R [0,2,41] ?_
  refine ik h (fun h=>?_) fun h=>?_
  ·refine seq (Xa2 h [0,2,4] (Z4 hk 5 rfl) 1 fun r31 x32 h=>?_)
   refine seq (Xa2 h [2,4] (Z5 hk 6 rfl) 1 fun r39 x40 h=>?_)
   exact Rt h [2]
  refine seq (Xa2 h [2] (Z4 hk 7 rfl) 1 fun r47 x48 h=>?_)
  exact Rf h
 refine seq (Ua1 h [0,2,3,9] (Zt hk 1 129 r7) fun r55 h=>?_)
 refine ik h (fun h=>?_) fun h=>?_
 ·refine Xa1 h [0,2,3] (Z4 hk 2 rfl) 1 fun _ h=>?_
  exact jn h
 exact jn h
theorem K3p{w200:Y0}{w252:Y1}(c:AllG env [S274 w200 w252,S132]):Q0a env (S252 (F252 w200 w252)):=by
 refine hd c X6c 22 fun O X hS hX hpf hk ⟨x1,x2,x3,x4⟩=>fun r (h:F252 w200 w252 x1 x2 x3 x4=some r)=>gs ?_
 rw[F252]at h
 refine R [0,2] ?_
 refine seq (xb h (Z4 hk 0 rfl) 1 ?_)
 rintro⟨r7,x8⟩ f10 h
 refine rg hS [0,2,3] (di1 (cb f10)) ?_
 refine seq (block ?_)
 refine Lq r (Q9l x1 x2 x3 w200 w252) (fun(x15,l16)=>⟨sl [(0,.ref 0 0),(2,.ref 1 0),(3,.vec 2 (List.length l16))],22,[V4 x1 x2 x3 x15,V18 0 [] [],rWo l16]⟩) ?_ ?_
 ·refine seq (seq ?_)
  refine Ua2 h [0,2,3,8] (Z5 hk 1 rfl) fun r42 x43 h=>?_
  refine iz h (fun h=>?_) fun h=>?_
  ·refine skip (block ?_)
   refine xb h (Z4 hk 0 rfl) 2 ?_
   rintro⟨r48,x49⟩ f51 h
   replace h:=ap Word.pv h;obtain⟨out56,f58,h⟩:=h
   refine reg hS [(0,.ref 0 0),(2,.ref 1 0),(3,.vec 2 (List.length out56))] [V4 x1 x2 x3 x49,V18 0 [] [],rWo out56] (dk1 (an (cb f51) f58)) ?_
   exact ny h
  refine exit (seq ?_)
  refine R [2,3,16] ?_
  refine ik h (fun h=>?_) fun h=>?_
  ·exact Rt h [2]
  exact Rt h [2]
 clear h
 rintro⟨x15,l16⟩ m19 h
 unfold Q9l at h
 try dsimp only at h
 refine AW.st (seq ?_)
 refine seq (Ua2 h [0,2,3,8] (Z5 hk 1 rfl) fun r20 x21 h=>?_)
 refine iz h (fun h=>?_) fun h=>?_
 ·refine skip (block ?_)
  refine xb h (Z4 hk 0 rfl) 2 ?_
  rintro⟨r26,x27⟩ f29 h
  replace h:=ap Word.pv h;obtain⟨out34,f36,h⟩:=h
  refine rg hS [0,2,3] (di1 (an (cb f29) f36)) ?_
  exact nx h
 refine exit (seq ?_)
 refine R [2,3,16] ?_
 refine ik h (fun h=>?_) fun h=>?_
 ·obtain⟨u38,f40,h⟩:=oc h fun _=>Q0j
  try simp only[NRM,Int.reduceToNat]at f40
  refine seq (rg hS [2] (di1 (an f40.1 (an f40.2.1 f40.2.2))) ?_)
  exact Rf h
 exact Rt h [2]
theorem V6n(c:AllG env []):Q0a env S32:=by
 refine hd c V9f 11 ?_
 rintro O X hS hX hpf hk (r1:Redir) (r:Bool) (h:F32 r1=some r)
 refine gs ?_
 rw[F32]at h
 refine R [1] ?_
 refine seq (reg hS [(2,ab (!decide (r1.kind_=5)&&!decide (r1.kind_=6)))] [V20 r1] ?_ ?_)
 ·clear h hk hS hX c
  exact dh
 exact Rf h
theorem V6z{w15:Y7}{w31:Y10}(c:AllG env [S15 w15,S31 w31,S32]):Q0a env (S15 (F15 w15 w31)):=by
 refine hd c K9y 55 ?_
 rintro O X hS hX hpf hk (l1:(List Cmd)) (r:Int) (h:F15 w15 w31 l1=some r)
 refine gs ?_
 rw[F15]at h
 refine R [0] ?_
 refine R [0,3] ?_
 refine seq (R [3,10,11,12] ?_)
 refine block (Lp h (fun(n3,i4)=>⟨sl [(3,ai n3),(10,vC l1),(11,ai (l1.length:Int)),(12,ai i4)],55,[]⟩) ?_)
 clear h
 rintro⟨n3,i4⟩ m7 h
 rw[Z7h]at h
 try dsimp only at h
 refine AW.st (R [3,10,11,12,13] ?_)
 refine seq (iz h (fun h=>?_) fun h=>?_)
 ·obtain⟨u9,f11,h⟩:=oc h fun _=>Q0j
  refine skip (seq ?_)
  refine block (seq ?_)
  refine rg hS [3,5,10,11,12] (di1 (an f11.1 f11.2.1)) ?_
  refine seq ?_
  obtain⟨r12,f14,h⟩:=oc h (Zt hk 0 15 u9.kids_)
  apply dgk mixed hS [3,5,10,11,12] (ordp hpf (by kernel_rfl))
  ·exact di1 (ca f14)
  refine seq (R [3,5,10,11,12,27,28,29] ?_)
  refine block (Lp h (fun(n15,i16)=>⟨sl [(3,ai n15),(5,.ref 0 0),(10,vC l1),(11,ai (l1.length:Int)),(12,ai i4),(27,vWo u9.words_),(28,ai (u9.words_.length:Int)),(29,ai i16)],55,[V9 u9]⟩) ?_)
  clear h
  rintro⟨n15,i16⟩ m19 h
  rw[J5p]at h
  try dsimp only at h
  refine AW.st (R [3,5,10,11,12,27,28,29,30] ?_)
  refine seq (iz h (fun h=>?_) fun h=>?_)
  ·obtain⟨u21,f23,h⟩:=oc h fun _=>Q0j
   refine skip (seq ?_)
   refine block (seq ?_)
   refine rg hS [3,5,7,10,11,12,27,28,29] (di1 (an f23.1 f23.2.1)) ?_
   refine Ua1 h [3,5,10,11,12,27,28,29] (Zt hk 1 31 u21) fun r24 h=>?_
   refine G [3,5,10,11,12,27,28,29] ?_
   exact nx h
  refine exit (R [3,10,11,12,39,40,41] ?_)
  refine block (Lp h (fun(n27,i28)=>⟨sl [(3,ai n27),(10,vC l1),(11,ai (l1.length:Int)),(12,ai i4),(39,vRe u9.redirs_),(40,ai (u9.redirs_.length:Int)),(41,ai i28)],55,[V9 u9]⟩) ?_)
  clear h
  rintro⟨n27,i28⟩ m31 h
  rw[J1j]at h
  try dsimp only at h
  refine AW.st (R [3,10,11,12,39,40,41,42] ?_)
  refine seq (iz h (fun h=>?_) fun h=>?_)
  ·obtain⟨u33,f35,h⟩:=oc h fun _=>Q0j
   refine skip (seq ?_)
   refine block (seq ?_)
   refine rg hS [3,9,10,11,12,39,40,41] (di1 (an f35.1 f35.2.1)) ?_
   refine seq (Ua1 h [3,9,10,11,12,39,40,41,46] (Zt hk 2 32 u33) fun r36 h=>?_)
   refine ik h (fun h=>?_) fun h=>?_
   ·refine Ua1 h [3,10,11,12,39,40,41] (Zt hk 1 31 u33.word_) fun r40 h=>?_
    refine G [3,10,11,12,39,40,41] ?_
    exact nx h
   refine G [3,10,11,12,39,40,41] ?_
   exact nx h
  refine exit (G [3,10,11,12] ?_)
  exact nx h
 exact exit (Rt h [2])
theorem V6o{w15:Y7}{w31:Y10}(c:AllG env [S15 w15,S31 w31]):Q0a env (S31 (F31 w15 w31)):=by
 refine hd c K7e 23 ?_
 rintro O X hS hX hpf hk (w1:Word) (r:Int) (h:F31 w15 w31 w1=some r)
 refine gs ?_
 rw[F31]at h
 refine R [1] ?_
 refine seq (Ua1 h [1,3] (Zt hk 0 15 w1.cmd_) fun r3 h=>?_)
 refine seq (R [3,11,12,13] ?_)
 refine block (Lp h (fun(n6,i7)=>⟨sl [(3,ai n6),(11,vWo w1.words_),(12,ai (w1.words_.length:Int)),(13,ai i7)],23,[V21 w1]⟩) ?_)
 clear h
 rintro⟨n6,i7⟩ m10 h
 rw[X2g]at h
 try dsimp only at h
 refine AW.st (R [3,11,12,13,14] ?_)
 refine seq (iz h (fun h=>?_) fun h=>?_)
 ·obtain⟨u12,f14,h⟩:=oc h fun _=>Q0j
  refine skip (seq ?_)
  refine block (seq ?_)
  refine rg hS [3,5,11,12,13] (di1 (an f14.1 f14.2.1)) ?_
  refine Ua1 h [3,11,12,13] (Zt hk 1 31 u12) fun r15 h=>?_
  refine G [3,11,12,13] ?_
  exact nx h
 exact exit (Rt h [2])
theorem V6d{w51:Y11}{w86:Y10}(c:AllG env [S51 w51,S86 w86,S32]):Q0a env (S51 (F51 w51 w86)):=by
 refine hd c K7b 51 ?_
 rintro O X hS hX hpf hk (c1:Cmd) (r:Int) (h:F51 w51 w86 c1=some r)
 refine gs ?_
 rw[F51]at h
 refine R [1] ?_
 refine R [1,3] ?_
 refine seq (R [1,3,11,12,13] ?_)
 refine block (Lp h (fun(n3,i4)=>⟨sl [(1,.ref 0 0),(3,ai n3),(11,vC c1.kids_),(12,ai (c1.kids_.length:Int)),(13,ai i4)],51,[V9 c1]⟩) ?_)
 clear h
 rintro⟨n3,i4⟩ m7 h
 rw[X2d]at h
 try dsimp only at h
 refine AW.st (R [1,3,11,12,13,14] ?_)
 refine seq (iz h (fun h=>?_) fun h=>?_)
 ·obtain⟨u9,f11,h⟩:=oc h fun _=>Q0j
  refine skip (seq ?_)
  refine block (seq ?_)
  refine rg hS [1,3,5,11,12,13] (di1 (an f11.1 f11.2.1)) ?_
  obtain⟨r12,f14,h⟩:=oc h (Zt hk 0 51 u9)
  refine rg hS [1,3,11,12,13] (di1 (ca f14)) ?_
  refine G [1,3,11,12,13] ?_
  exact nx h
 refine exit (seq ?_)
 refine R [1,3,23,24,25] ?_
 refine block (Lp h (fun(n15,i16)=>⟨sl [(1,.ref 0 0),(3,ai n15),(23,vWo c1.words_),(24,ai (c1.words_.length:Int)),(25,ai i16)],51,[V9 c1]⟩) ?_)
 clear h
 rintro⟨n15,i16⟩ m19 h
 rw[J5f]at h
 try dsimp only at h
 refine AW.st (R [1,3,23,24,25,26] ?_)
 refine seq (iz h (fun h=>?_) fun h=>?_)
 ·obtain⟨u21,f23,h⟩:=oc h fun _=>Q0j
  refine skip (seq ?_)
  refine block (seq ?_)
  refine rg hS [1,3,7,23,24,25] (di1 (an f23.1 f23.2.1)) ?_
  obtain⟨r24,f26,h⟩:=oc h (Zt hk 1 86 u21)
  refine rg hS [1,3,23,24,25] (di1 (ca f26)) ?_
  refine G [1,3,23,24,25] ?_
  exact nx h
 refine exit (seq ?_)
 refine R [3,35,36,37] ?_
 refine block (Lp h (fun(n27,i28)=>⟨sl [(3,ai n27),(35,vRe c1.redirs_),(36,ai (c1.redirs_.length:Int)),(37,ai i28)],51,[V9 c1]⟩) ?_)
 clear h
 rintro⟨n27,i28⟩ m31 h
 rw[J1e]at h
 try dsimp only at h
 refine AW.st (R [3,35,36,37,38] ?_)
 refine seq (iz h (fun h=>?_) fun h=>?_)
 ·obtain⟨u33,f35,h⟩:=oc h fun _=>Q0j
  refine skip (seq ?_)
  refine block (seq ?_)
  refine rg hS [3,9,35,36,37] (di1 (an f35.1 f35.2.1)) ?_
  refine seq (Ua1 h [3,9,35,36,37,42] (Zt hk 2 32 u33) fun r36 h=>?_)
  refine ik h (fun h=>?_) fun h=>?_
  ·obtain⟨r40,f42,h⟩:=oc h (Zt hk 1 86 u33.word_)
   refine rg hS [3,35,36,37] (di1 (ca f42)) ?_
   refine G [3,35,36,37] ?_
   exact nx h
  refine G [3,35,36,37] ?_
  exact nx h
 exact exit (Rt h [2])
theorem V5g{w51:Y11}{w86:Y10}(c:AllG env [S86 w86,S51 w51]):Q0a env (S86 (F86 w51 w86)):=by
 refine hd c K6x 34 ?_
 rintro O X hS hX hpf hk (w1:Word) (r:Int) (h:F86 w51 w86 w1=some r)
 refine gs ?_
 rw[F86]at h
 refine R [1] ?_
 refine R [1,3] ?_
 refine seq (R [1,3,9,10,11] ?_)
 refine block (Lp h (fun(n3,i4)=>⟨sl [(1,.ref 0 0),(3,ai n3),(9,vWo w1.words_),(10,ai (w1.words_.length:Int)),(11,ai i4)],34,[V21 w1]⟩) ?_)
 clear h
 rintro⟨n3,i4⟩ m7 h
 rw[X1z]at h
 try dsimp only at h
 refine AW.st (R [1,3,9,10,11,12] ?_)
 refine seq (iz h (fun h=>?_) fun h=>?_)
 ·obtain⟨u9,f11,h⟩:=oc h fun _=>Q0j
  refine skip (seq ?_)
  refine block (seq ?_)
  refine rg hS [1,3,5,9,10,11] (di1 (an f11.1 f11.2.1)) ?_
  obtain⟨r12,f14,h⟩:=oc h (Zt hk 0 86 u9)
  refine rg hS [1,3,9,10,11] (di1 (ca f14)) ?_
  refine G [1,3,9,10,11] ?_
  exact nx h
 refine exit (seq ?_)
 refine R [3,21,22,23] ?_
 refine block (Lp h (fun(n15,i16)=>⟨sl [(3,ai n15),(21,vC w1.cmd_),(22,ai (w1.cmd_.length:Int)),(23,ai i16)],34,[V21 w1]⟩) ?_)
 clear h
 rintro⟨n15,i16⟩ m19 h
 rw[J5a]at h
 try dsimp only at h
 refine AW.st (R [3,21,22,23,24] ?_)
 refine seq (iz h (fun h=>?_) fun h=>?_)
 ·obtain⟨u21,f23,h⟩:=oc h fun _=>Q0j
  refine skip (seq ?_)
  refine block (seq ?_)
  refine rg hS [3,7,21,22,23] (di1 (an f23.1 f23.2.1)) ?_
  obtain⟨r24,f26,h⟩:=oc h (Zt hk 1 51 u21)
  refine rg hS [3,21,22,23] (di1 (ca f26)) ?_
  refine G [3,21,22,23] ?_
  exact nx h
 exact exit (Rt h [2])
theorem V6e(c:AllG env [S51 (K51 BIG)]):Q0a env S50:=by
 refine hd c V8s 6 ?_
 rintro O X hS hX hpf hk (c1:Cmd) (r:Bool) (h:F50 c1=some r)
 refine gs ?_
 rw[F50]at h
 refine R [1] ?_
 obtain⟨r3,q4,h⟩:=obs h
 have f5:=hk 0 51 rfl
 replace f5:=f5.ret c1 q4 rfl rfl
 refine seq (rg hS [2] (di1 (ap1 51 hpf f5)) ?_)
 exact Rf h
theorem V5h(c:AllG env [S50]):Q0a env S85:=by
 refine hd c K6y 19 ?_
 rintro O X hS hX hpf hk (s1:(List Cmd)) (r:Int) (h:F85 s1=some r)
 refine gs ?_
 rw[F85]at h
 refine R [0,1] ?_
 refine seq (R [0,1,7,8] ?_)
 refine block (Lp h (fun i3=>⟨sl [(0,vC s1),(1,.fn 50 []),(7,ai (s1.length:Int)),(8,ai i3)],19,[]⟩) ?_)
 clear h
 rintro i3 m6 h
 rw[X2a]at h
 try dsimp only at h
 refine AW.st (R [0,1,7,8,9] ?_)
 refine seq (iz h (fun h=>?_) fun h=>?_)
 ·refine skip (seq ?_)
  refine block (R [0,1,5,7,8] ?_)
  obtain⟨u8,f10,h⟩:=oc h fun _=>Q0j
  obtain⟨r11,f13,h⟩:=oc h (Zt hk 0 50 u8)
  refine seq (rg hS [0,1,5,7,8,16] (di1 (an f10.1 (an f10.2.1 (ca f13)))) ?_)
  refine ik h (fun h=>?_) fun h=>?_
  ·exact Rt h [4]
  refine G [0,1,7,8] ?_
  exact nx h
 exact exit (Rt h [4])
end Go.Abs.U48
