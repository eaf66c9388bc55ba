import Derived.Test.YtljahlbklgnfhaaGreatDoorD1
set_option linter.unusedVariables false
set_option linter.unusedSimpArgs false
set_option linter.defProp false
set_option maxRecDepth 8000
set_option maxHeartbeats 4000000
namespace Go.Abs.U48
open Go.RowKit Go.Proofs AW
theorem K6n{w152:Y2}(c:AllG env [(S103 F103),(S152 w152)]):Q0a env (S153 (F153 w152)):=by
 refine hd c V1k 19 ?_
 rintro O X hS hX hpf hk ⟨l1,b2,l3⟩ (r:Str×(List Redir)) (h:F153 w152 l1 b2 l3=some r)
 refine gs ?_
 rw[F153]at h
 refine R [0,6,7,8] ?_
 refine block (Lp h (fun(i6,l7,m8)=>⟨sl [(0,.ref 0 0),(6,vWo l1),(7,ai (l1.length:Int)),(8,ai i6)],19,[.prn 5 l7 51 9 (List.map Redir.pv m8)]⟩) ?_)
 clear h
 rintro⟨i6,l7,m8⟩ m11 h
 rw[Z9g]at h
 try dsimp only at h
 refine AW.st (R [0,6,7,8,9] ?_)
 refine seq (iz h (fun h=>?_) fun h=>?_)
 ·obtain⟨u13,f15,h⟩:=oc h fun _=>Q0f
  refine skip (seq ?_)
  refine block (seq ?_)
  refine rg hS [0,5,6,7,8] (di1 (an f15.1 f15.2.1)) ?_
  refine seq (Ua1 h [0,5,6,7,8] (Z hk 0 103 (([[32]]:List Str),l7,m8)) fun o16 h=>?_)
  refine Ua2 h [0,6,7,8] (Z hk 1 152 (u13,o16,m8)) fun r20 r21 h=>?_
  refine G [0,6,7,8] ?_
  exact nx h
 exact ex h
theorem K6m{w66:Y5}{w152:Y2}(c:AllG env [(S103 F103),(S153 (F153 w152)),(S67 F67),(S35 (F35 w66))]):Q0a env (S154 (F154 w66 w152)):=by
 refine hd c V1j 42 ?_
 rintro O X hS hX hpf hk ⟨c1,b2,l3⟩ (r:Str×(List Redir)) (h:F154 w66 w152 c1 b2 l3=some r)
 refine gs ?_
 rw[F154]at h
 refine R [0,3] ?_
 refine seq (Ua1 h [0,3] (Z hk 0 103 (([[115,119,105,116,99,104]]:List Str),b2,l3)) fun o6 h=>?_)
 refine seq (Ua2 h [0,3] (Z hk 1 153 (c1.words_,o6,l3)) fun o10 m11 h=>?_)
 refine seq (Ua1 h [0,3] (Z hk 0 103 (([[32,123]]:List Str),o10,m11)) fun o15 h=>?_)
 refine seq (Ua2 h [0,3] (Z hk 2 67 (o15,m11)) fun o19 m20 h=>?_)
 refine seq (R [0,19,20,21] ?_)
 refine block (Lp h (fun(i24,l25,m26)=>⟨sl [(0,.ref 0 0),(19,vC c1.kids_),(20,ai (c1.kids_.length:Int)),(21,ai i24)],42,[.prn 5 l25 51 9 (List.map Redir.pv m26),V6 c1]⟩) ?_)
 clear h
 rintro⟨i24,l25,m26⟩ m29 h
 rw[Z5f]at h
 try dsimp only at h
 refine AW.st (R [0,19,20,21,22] ?_)
 refine seq (iz h (fun h=>?_) fun h=>?_)
 ·obtain⟨u31,f33,h⟩:=oc h fun _=>Q0f
  refine skip (seq ?_)
  refine block (seq ?_)
  refine rg hS [0,5,19,20,21] (di1 (an f33.1 f33.2.1)) ?_
  refine seq (Ua1 h [0,5,19,20,21] (Z hk 0 103 (([[99,97,115,101]]:List Str),l25,m26)) fun o34 h=>?_)
  refine seq (Ua2 h [0,5,19,20,21] (Z hk 1 153 (u31.words_,o34,m26)) fun o38 m39 h=>?_)
  refine seq (Ua2 h [0,5,19,20,21] (Z hk 2 67 (o38,m39)) fun o43 m44 h=>?_)
  refine Ua2 h [0,19,20,21] (Z hk 3 35 (u31.kids_,o43,m44)) fun o48 m49 h=>?_
  refine G [0,19,20,21] ?_
  exact nx h
 refine exit (Ua1 h [] (Z hk 0 103 (([[125]]:List Str),l25,m26)) fun o53 h=>?_)
 cases h
 exact fin
theorem K7s{w66:Y5}{w152:Y2}(c:AllG env [(S103 F103),(S152 w152),(S102 (F102 w66)),(S104 (F104 w66)),(S66 w66),(S153 (F153 w152)),(S154 (F154 w66 w152))]):Q0a env (S107 (F107 w66 w152)):=by
 refine hd c V2u 107 ?_
 rintro O X hS hX hpf hk ⟨c1,b2,l3⟩ (r:Str×(List Redir)) (h:F107 w66 w152 c1 b2 l3=some r)
 refine gs ?_
 rw[F107]at h
 refine R [0,3] ?_
 refine R [0,3,5] ?_
 refine block (R [0,3,5,6] ?_)
 refine iz h (fun h=>?_) fun h=>?_
 ·refine seq (Ua1 h [0,3] (Z hk 0 103 (([c1.name_,[61]]:List Str),b2,l3)) fun o7 h=>?_)
  obtain⟨u11,f13,h⟩:=oc h fun _=>Q0f
  try simp only[NRM,Int.reduceToNat]at f13
  obtain⟨⟨r14,r15⟩,f17,h⟩:=oc h (Z hk 1 152 (u11,o7,l3))
  refine seq (rg hS [0,3] (di1 (an f13.1 (an f13.2.1 (cb f17)))) ?_)
  refine seq (R [0,3,22] ?_)
  refine ik h (fun h=>?_) fun h=>?_
  ·refine Ua1 h [0,3] (Z hk 0 103 (([[32]]:List Str),r14,r15)) fun o20 h=>?_
   refine Ua2 h [] (Z hk 2 102 (c1.kids_,([]:Str),o20,r15)) fun o24 m25 h=>?_
   cases h
   exact fin
  refine Ua2 h [] (Z hk 2 102 (c1.kids_,([]:Str),r14,r15)) fun o29 m30 h=>?_
  cases h
  exact fin
 refine R [0,3,5,30] ?_
 refine iz h (fun h=>?_) fun h=>?_
 ·obtain⟨u35,f37,h⟩:=oc h fun _=>Q0f
  try simp only[NRM,Int.reduceToNat]at f37
  obtain⟨⟨o38,m39⟩,f41,h⟩:=oc h (Z hk 3 104 (([105,102,40]:Str),u35.kids_,([41,32]:Str),b2,l3))
  replace f41:=cb f41
  try simp only[PVE]at f41
  refine seq (rg hS [0,3] (di1 (an f37.1 (an f37.2.1 f41))) ?_)
  obtain⟨u43,f45,h⟩:=oc h fun _=>Q0f
  try simp only[NRM,Int.reduceToNat]at f45
  obtain⟨⟨r46,r47⟩,f49,h⟩:=oc h (Z hk 4 66 (u43,o38,m39))
  refine rg hS [] (di1 (an f45.1 (an f45.2.1 (cb f49)))) ?_
  cases h
  exact fin
 refine R [0,3,5,45] ?_
 refine iz h (fun h=>?_) fun h=>?_
 ·obtain⟨u52,f54,h⟩:=oc h fun _=>Q0f
  try simp only[NRM,Int.reduceToNat]at f54
  obtain⟨⟨o55,m56⟩,f58,h⟩:=oc h (Z hk 3 104 (([119,104,105,108,101,40]:Str),u52.kids_,([41,32]:Str),b2,l3))
  replace f58:=cb f58
  try simp only[PVE]at f58
  refine seq (rg hS [0,3] (di1 (an f54.1 (an f54.2.1 f58))) ?_)
  obtain⟨u60,f62,h⟩:=oc h fun _=>Q0f
  try simp only[NRM,Int.reduceToNat]at f62
  obtain⟨⟨r63,r64⟩,f66,h⟩:=oc h (Z hk 4 66 (u60,o55,m56))
  refine rg hS [] (di1 (an f62.1 (an f62.2.1 (cb f66)))) ?_
  cases h
  exact fin
 refine R [0,3,5,60] ?_
 refine iz h (fun h=>?_) fun h=>?_
 ·refine seq (Ua1 h [0,3] (Z hk 0 103 (([[102,111,114,40],c1.name_,[32,105,110]]:List Str),b2,l3)) fun o69 h=>?_)
  refine seq (Ua2 h [0,3] (Z hk 5 153 (c1.words_,o69,l3)) fun o73 m74 h=>?_)
  refine seq (Ua1 h [0,3] (Z hk 0 103 (([[41,32]]:List Str),o73,m74)) fun o78 h=>?_)
  refine Ua2 h [] (Z hk 2 102 (c1.kids_,([]:Str),o78,m74)) fun o82 m83 h=>?_
  cases h
  exact fin
 refine R [0,3,5,78] ?_
 refine iz h (fun h=>?_) fun h=>?_
 ·refine Ua2 h [] (Z hk 6 154 (c1,b2,l3)) fun o88 m89 h=>?_
  cases h
  exact fin
 refine R [0,3,5,83] ?_
 refine iz h (fun h=>?_) fun h=>?_
 ·refine seq (Ua1 h [0,3] (Z hk 0 103 (([[102,110,32],c1.name_]:List Str),b2,l3)) fun o94 h=>?_)
  refine R [0,3,93] ?_
  refine ik h (fun h=>?_) fun h=>?_
  ·refine Ua2 h [] (Z hk 3 104 (([32,123]:Str),c1.kids_,([125]:Str),o94,l3)) fun o99 m100 h=>?_
   cases h
   exact fin
  cases h
  exact fin
 refine R [0,3,98] ?_
 refine ik h (fun h=>?_) fun h=>?_
 ·refine seq (Ua1 h [0,3] (Z hk 0 103 (([[126]]:List Str),b2,l3)) fun o105 h=>?_)
  refine Ua2 h [] (Z hk 5 153 (c1.words_,o105,l3)) fun o109 m110 h=>?_
  cases h
  exact fin
 cases h
 exact fin
theorem V7c{w66:Y5}{w152:Y2}(c:AllG env [(S102 (F102 w66)),(S103 F103),(S104 (F104 w66)),(S105 (F105 w152)),(S106 (F106 w152)),(S107 (F107 w66 w152))]):Q0a env (S66 (F66 w66 w152)):=by
 refine hd c K8m 78 ?_
 rintro O X hS hX hpf hk ⟨c1,b2,l3⟩ (r:Str×(List Redir)) (h:F66 w66 w152 c1 b2 l3=some r)
 refine gs ?_
 rw[F66]at h
 refine R [0,3] ?_
 refine R [0,3,5] ?_
 refine block (R [0,3,5,9] ?_)
 refine iz h (fun h=>?_) fun h=>?_
 ·refine seq (Ua2 h [0] (Z hk 0 102 (c1.kids_,([]:Str),b2,l3)) fun o7 m8 h=>?_)
  refine Ua1 h [] (Z hk 1 103 (([[32,38]]:List Str),o7,m8)) fun o12 h=>?_
  cases h
  exact fin
 refine R [0,3,5,18] ?_
 refine iz h (fun h=>?_) fun h=>?_
 ·refine Ua2 h [] (Z hk 0 102 (c1.kids_,([32,38,38,32]:Str),b2,l3)) fun o17 m18 h=>?_
  cases h
  exact fin
 refine R [0,3,5,24] ?_
 refine iz h (fun h=>?_) fun h=>?_
 ·refine Ua2 h [] (Z hk 0 102 (c1.kids_,([32,124,124,32]:Str),b2,l3)) fun o23 m24 h=>?_
  cases h
  exact fin
 refine R [0,3,5,30] ?_
 refine iz h (fun h=>?_) fun h=>?_
 ·refine Ua2 h [] (Z hk 0 102 (c1.kids_,([32,124,32]:Str),b2,l3)) fun o29 m30 h=>?_
  cases h
  exact fin
 refine R [0,3,5,36] ?_
 refine iz h (fun h=>?_) fun h=>?_
 ·refine seq (Ua1 h [0,3] (Z hk 1 103 (([[33,32]]:List Str),b2,l3)) fun o35 h=>?_)
  refine Ua2 h [] (Z hk 0 102 (c1.kids_,([]:Str),o35,l3)) fun o39 m40 h=>?_
  cases h
  exact fin
 refine R [0,3,5,45] ?_
 refine iz h (fun h=>?_) fun h=>?_
 ·refine seq (Ua1 h [0,3] (Z hk 1 103 (([[64,32]]:List Str),b2,l3)) fun o45 h=>?_)
  refine Ua2 h [] (Z hk 0 102 (c1.kids_,([]:Str),o45,l3)) fun o49 m50 h=>?_
  cases h
  exact fin
 refine R [0,3,5,54] ?_
 refine iz h (fun h=>?_) fun h=>?_
 ·refine seq (Ua1 h [0,3] (Z hk 1 103 (([[105,102,32,110,111,116,32]]:List Str),b2,l3)) fun o55 h=>?_)
  refine Ua2 h [] (Z hk 0 102 (c1.kids_,([]:Str),o55,l3)) fun o59 m60 h=>?_
  cases h
  exact fin
 refine R [0,3,5,63] ?_
 refine iz h (fun h=>?_) fun h=>?_
 ·refine seq (Ua2 h [0,3] (Z hk 2 104 (([123]:Str),c1.kids_,([125]:Str),b2,l3)) fun o65 m66 h=>?_)
  refine Ua2 h [] (Z hk 3 105 (c1.redirs_,o65,m66)) fun o70 m71 h=>?_
  cases h
  exact fin
 refine R [0,3,73] ?_
 refine iz h (fun h=>?_) fun h=>?_
 ·refine Ua2 h [] (Z hk 4 106 (c1,b2,l3)) fun o76 m77 h=>?_
  cases h
  exact fin
 refine Ua2 h [] (Z hk 5 107 (c1,b2,l3)) fun o81 m82 h=>?_
 cases h
 exact fin
theorem K5v(c:AllG env [(S103 F103),Q9v]):Q0a env (S190 F190):=by
 refine hd c V0o 56 ?_
 rintro O X hS hX hpf hk ⟨w1,b2,l3⟩ (r:Str) (h:F190 w1 b2 l3=some r)
 have pf_216:O.pf 216=true:=pft hpf 216 rfl
 refine gs ?_
 rw[F190]at h
 refine R [0,3] ?_
 refine seqJ (α:=Str) (fun l5=>⟨sl [(0,.ref 0 0),(3,.ref 1 0)],56,[.prn 5 l5 51 9 (List.map Redir.pv l3),V17 w1]⟩) (fun x=>Z0x w1 l3 x=some r) ?_ ?_
 ·intro l5 h
  rw[Z0x]at h
  try dsimp only at h
  refine AW.st (R [0,3,4] ?_)
  refine block (Lp h (fun(i6,l7)=>⟨sl [(0,.ref 0 0),(3,.ref 1 0),(4,ai i6)],56,[.prn 5 l7 51 9 (List.map Redir.pv l3),V17 w1]⟩) ?_)
  clear h
  rintro⟨i6,l7⟩ m10 h
  rw[Q8u]at h
  try dsimp only at h
  refine AW.st (seq ?_)
  refine R [0,3,4,17] ?_
  refine iz h (fun h=>?_) fun h=>?_
  ·refine skip (block ?_)
   refine R [0,3,4,5] ?_
   refine seq (block ?_)
   refine Lp h (fun end12=>⟨sl [(0,.ref 0 0),(3,.ref 1 0),(4,ai i6),(5,ai end12)],56,[.prn 5 l7 51 9 (List.map Redir.pv l3),V17 w1]⟩) ?_
   clear h
   rintro end12 m15 h
   rw[Z0y]at h
   try dsimp only at h
   obtain⟨c16,f18,h⟩:=oc h fun _ q=>Q4n (Q0b q)
   obtain⟨c19,f21,h⟩:=oc h fun _ q=>Q4n (Q0b q)
   refine AW.st (seq ?_)
   refine seq (dreg mixed hS (ordp hpf (by kernel_rfl)) [(0,.ref 0 0),(3,.ref 1 0),(4,ai i6),(5,ai end12),(34,ab (decide (end12<(w1.text_.length:Int))&&decide (c16=c19)))] [.prn 5 l7 51 9 (List.map Redir.pv l3),V17 w1] ?_ ?_)
   ·clear h hk hS hX c
    exact dh1 (an f18.1 (an f18.2.1 (an f18.2.2 (an f21.1 (an f21.2.1 f21.2.2)))))
   refine iz h (fun h=>?_) fun h=>?_
   ·refine skip (block ?_)
    refine G [0,3,4,5] ?_
    exact nx h
   obtain⟨t23,f25,h⟩:=oc h fun _=>Q1j
   try simp only[NRM,Int.reduceToNat]at f25
   have f25e:=f25.2.2.2.2
   try simp only[NRM,Int.reduceToNat]at f25e
   have f25l:=f25.2.2.1
   try simp only[NRM,Int.reduceToNat]at f25l
   refine exit (seq ?_)
   refine rg hS [0,3,4,5,6] (di1 (an f25.1 (an f25.2.1 (an f25l (an f25.2.2.2.1 f25e))))) ?_
   obtain⟨c26,f28,h⟩:=oc h fun _=>Q3m
   refine seq (seq ?_)
   refine rg hS [0,3,5,6,46] (di1 (an f28.1 (an f28.2.1 f28.2.2))) ?_
   refine ik h (fun h=>?_) fun h=>?_
   ·obtain⟨t30,f32,h⟩:=oc h (Zt hk 1 216 (t23,([39]:Str),([39,39]:Str)))
    replace f32:=ca f32
    try simp only[PVE]at f32
    obtain⟨s33,f35,h⟩:=oc h fun _=>Q1a
    try simp only[LNS,List.length_replicate,Nat.reduceAdd,Nat.reduceLeDiff,Nat.add_zero,Nat.reduceMul]at f35
    obtain⟨s36,f38,h⟩:=oc h fun _=>Q1a
    try simp only[LNS,List.length_replicate,Nat.reduceAdd,Nat.reduceLeDiff,Nat.add_zero,Nat.reduceMul]at f38
    refine rg hS [0,3,5,6] (di1 (an pf_216 (an f32 (an f35.1 (an f35.2 (an f38.1 f38.2)))))) ?_
    refine seq (Ua1 h [0,3,5] (Z hk 0 103 (([s36]:List Str),l7,l3)) fun o39 h=>?_)
    refine G [0,3,4] ?_
    exact nx h
   refine seq (Ua1 h [0,3,5] (Z hk 0 103 (([t23]:List Str),l7,l3)) fun o43 h=>?_)
   refine G [0,3,4] ?_
   exact nx h
  exact ex h
 refine R [0,3,9] ?_
 refine ik h (fun h=>?_) fun h=>?_
 ·refine Ua1 h [0,3] (Z hk 0 103 (([[39,39]]:List Str),b2,l3)) fun o50 h=>?_
  exact⟨o50,h,(Weak.norm (m:=2) (Nat.le_of_ble_eq_true rfl) kp hq rfl rfl)⟩
 exact⟨b2,h,(Weak.norm (m:=2) (Nat.le_of_ble_eq_true rfl) kp hq rfl rfl)⟩
theorem K5u{w152:Y2}(c:AllG env [(S103 F103),(S152 w152)]):Q0a env (S191 (F191 w152)):=by
 refine hd c V0n 37 ?_
 rintro O X hS hX hpf hk ⟨open1,l2,between3,closing4,b5,l6⟩ (r:Str×(List Redir)) (h:F191 w152 open1 l2 between3 closing4 b5 l6=some r)
 refine gs ?_
 rw[F191]at h
 refine seq (Ua1 h [0,2,3,4] (Z hk 0 103 (([open1]:List Str),b5,l6)) fun o9 h=>?_)
 refine seq (R [0,3,4,16,17,18] ?_)
 refine block (Lp h (fun(i13,l14,m15)=>⟨sl [(0,.ref 0 0),(3,as_ between3),(4,as_ closing4),(16,vWo l2),(17,ai (l2.length:Int)),(18,ai i13)],37,[.prn 5 l14 51 9 (List.map Redir.pv m15)]⟩) ?_)
 clear h
 rintro⟨i13,l14,m15⟩ m18 h
 rw[Z0w]at h
 try dsimp only at h
 refine AW.st (R [0,3,4,16,17,18,19] ?_)
 refine seq (iz h (fun h=>?_) fun h=>?_)
 ·obtain⟨u20,f22,h⟩:=oc h fun _=>Q0f
  refine skip (seq ?_)
  refine block (seq ?_)
  refine rg hS [0,3,4,10,11,16,17,18] (di1 (an f22.1 f22.2.1)) ?_
  refine seq (R [0,3,4,11,16,17,18,24] ?_)
  refine ik h (fun h=>?_) fun h=>?_
  ·refine Ua1 h [0,3,4,11,16,17,18] (Z hk 0 103 (([between3]:List Str),l14,m15)) fun o24 h=>?_
   refine Ua2 h [0,3,4,16,17,18] (Z hk 1 152 (u20,o24,m15)) fun r28 r29 h=>?_
   refine G [0,3,4,16,17,18] ?_
   exact nx h
  refine Ua2 h [0,3,4,16,17,18] (Z hk 1 152 (u20,l14,m15)) fun r33 r34 h=>?_
  refine G [0,3,4,16,17,18] ?_
  exact nx h
 refine exit (Ua1 h [] (Z hk 0 103 (([closing4]:List Str),l14,m15)) fun o38 h=>?_)
 cases h
 exact fin
end Go.Abs.U48
