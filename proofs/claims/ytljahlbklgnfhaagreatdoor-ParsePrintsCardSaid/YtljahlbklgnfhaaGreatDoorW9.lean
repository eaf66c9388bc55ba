import Derived.Test.YtljahlbklgnfhaaGreatDoorD1
set_option linter.unusedVariables false
set_option linter.unusedSimpArgs false
set_option linter.defProp false
set_option maxRecDepth 8000
set_option maxHeartbeats 4000000
namespace Go.Abs.U48
open Go.RowKit Go.Proofs AW
theorem K6o{w66:Y5}{w152:Y2}(c:AllG env [(S190 F190),(S103 F103),(S191 (F191 w152)),(S104 (F104 w66))]):Q0a env (S152 (F152 w66 w152)):=by
 refine hd c X7d 54 ?_
 rintro O X hS hX hpf hk ⟨w1,b2,l3⟩ (r:Str×(List Redir)) (h:F152 w66 w152 w1 b2 l3=some r)
 refine gs ?_
 rw[F152]at h
 refine R [0,3] ?_
 refine R [0,3,5] ?_
 refine block (R [0,3,5,6] ?_)
 refine iz h (fun h=>?_) fun h=>?_
 ·refine Ua1 h [] (Z hk 0 190 (w1,b2,l3)) fun o7 h=>?_
  cases h
  exact fin
 refine R [0,3,5,11] ?_
 refine iz h (fun h=>?_) fun h=>?_
 ·refine Ua1 h [] (Z hk 1 103 (([[36],w1.text_]:List Str),b2,l3)) fun o12 h=>?_
  cases h
  exact fin
 refine R [0,3,5,18] ?_
 refine iz h (fun h=>?_) fun h=>?_
 ·refine Ua1 h [] (Z hk 1 103 (([[36,35],w1.text_]:List Str),b2,l3)) fun o17 h=>?_
  cases h
  exact fin
 refine R [0,3,5,25] ?_
 refine iz h (fun h=>?_) fun h=>?_
 ·refine seq (Ua1 h [0,3] (Z hk 1 103 (([[36],w1.text_]:List Str),b2,l3)) fun o22 h=>?_)
  refine Ua2 h [] (Z hk 2 191 (([40]:Str),w1.words_,([32]:Str),([41]:Str),o22,l3)) fun o26 m27 h=>?_
  cases h
  exact fin
 refine R [0,3,5,36] ?_
 refine iz h (fun h=>?_) fun h=>?_
 ·refine Ua2 h [] (Z hk 2 191 (([40]:Str),w1.words_,([32]:Str),([41]:Str),b2,l3)) fun o32 m33 h=>?_
  cases h
  exact fin
 refine R [0,3,5,42] ?_
 refine iz h (fun h=>?_) fun h=>?_
 ·refine Ua2 h [] (Z hk 2 191 (([]:Str),w1.words_,([94]:Str),([]:Str),b2,l3)) fun o38 m39 h=>?_
  cases h
  exact fin
 refine R [0,3,48] ?_
 refine ik h (fun h=>?_) fun h=>?_
 ·refine Ua2 h [] (Z hk 3 104 (([96,123]:Str),w1.cmd_,([125]:Str),b2,l3)) fun o44 m45 h=>?_
  cases h
  exact fin
 cases h
 exact fin
theorem V7x(c:AllG env [(S13 F13),(S35 (F35 (K66 BIG))),(S36 F36)]):Q0a env (S17 F17):=by
 refine hd c V9t 12 ?_
 rintro O X hS hX hpf hk (l1:(List Cmd)) (r:Str×Int) (h:F17 l1=some r)
 refine gs ?_
 rw[F17]at h
 refine R [0] ?_
 refine seq (seq ?_)
 refine Ua1 h [0,7] (Zt hk 0 13 l1) fun r4 h=>?_
 refine ik h (fun h=>?_) fun h=>?_
 ·exact Rt h [2,3]
 refine seq ?_
 apply rg hS [0,4]
 ·simp -implicitDefEqProofs only[RUNS,Q0s,Nat.reduceAdd,Nat.reduceLeDiff,Nat.reduceSub,reduceIte,Nat.reduceEqDiff,Nat.reduceLT,reduceCtorEq,Nat.reduceMul,Nat.reduceBEq,Int.reduceEq,Int.reduceToNat,Int.toNat_zero,Nat.sub_zero,if_true,if_false,eq_self,ne_eq,Q4f,Q3c,Q2i,TYS,X7g];exact⟨rfl,rfl⟩
 obtain⟨⟨o8,m9⟩,q10,h⟩:=obs h
 dsimp only at h
 have f11:=hk 1 35 rfl
 replace f11:=f11.ret (l1,([]:Str),(([]:List Redir):List Redir)) q10 rfl rfl
 try simp only[PVE]at f11
 have e12:Q1q O [.prn 5 [] 51 9 (List.map Redir.pv ([]:List Redir))] 35 [.ref 0 0,vC l1]=some (Q1z [],[.prn 5 o8 51 9 (List.map Redir.pv m9)]):=Q0p rfl rfl rfl f11 rfl rfl rfl
 try simp only[List.length_nil,List.map_nil]at e12
 refine seq (rg hS [4] (di1 (ap0 35 hpf e12)) ?_)
 refine seq (Ua1 h [2,3] (Z hk 2 36 (o8,m9)) fun r13 h=>?_)
 exact Rf h
theorem g_F7(c:AllG env [(S8 F8),(S15 (K15 BIG)),(S13 F13),(S17 F17)]):Q0a env (S7 F7):=by
 refine hd c fn_7 71 ?_
 rintro O X hS hX hpf hk ⟨⟩ (r:Bool) (h:F7=some r)
 have pf_15:O.pf 15=true:=pft hpf 15 rfl
 refine gs ?_
 rw[F7]at h
 refine R [] ?_
 refine seq (Ua3 h [1,2,3] (Zt hk 0 8 ([105,102,40,126,32,36,120,32,97,41,123,101,99,104,111,32,39,98,32,99,39,125]:Str)) fun r2 r3 r4 h=>?_)
 obtain⟨u7,f9,h⟩:=oc h fun _ q=>Q6y (Q0b q)
 try simp only[NRM,Int.reduceToNat]at f9
 obtain⟨r10,q11,h⟩:=obs h
 have f12:=hk 1 15 rfl
 replace q11:=Q0b q11
 replace f12:=fun hg=>f12.ret r2 (q11 hg) rfl rfl
 obtain⟨r13,q14,h⟩:=obs h
 replace q14:=Q0b q14
 have f15:=fun hg=>(hk 2 13 rfl).ret r2 (q14 hg) rfl rfl
 refine seq (seq ?_)
 refine reg hS [(1,vC r2),(48,ab ((((((!decide (r4=0)||!decide (r3=0))||!decide ((r2.length:Int)=1))||!decide (u7.kind_=8))||!decide ((u7.kids_.length:Int)=2))||!decide (r10=9))||!r13))] [] ?_ ?_
 ·clear h hk hS hX c
  exact dh1 (an f9.1 (an f9.2.1 (an pf_15 (an f12 (ap1 13 hpf f15)))))
 refine ik h (fun h=>?_) fun h=>?_
 ·exact Rt h [0]
 refine seq (seq ?_)
 refine Ua3 h [1,5,6] (Zt hk 0 8 ([97,32,124,32,124,32,98]:Str)) fun r17 r18 r19 h=>?_
 refine seq (reg hS [(1,vC r2),(59,ab (!decide (r18=4)||!decide (r19=47)))] [] ?_ ?_)
 ·clear h hk hS hX c
  exact dh
 refine ik h (fun h=>?_) fun h=>?_
 ·exact Rt h [0]
 refine seq (Ua2 h [3,7] (Zt hk 3 17 r2) fun r23 r24 h=>?_)
 refine seq (reg hS [(0,ab (decide (r23=[105,102,40,10,126,32,36,120,32,97,10,41,32,123,10,101,99,104,111,32,39,98,32,99,39,10,125,10])&&decide (r24=0)))] [] ?_ ?_)
 ·clear h hk hS hX c
  exact dh
 exact Rf h
theorem V7n(c:AllG env []):Q0a env (S34 F34):=by
 refine hd c V9m 14 ?_
 rintro O X hS hX hpf hk (d1:Redir) (r:(List Word)) (h:F34 d1=some r)
 refine gs ?_
 rw[F34]at h
 refine R [1] ?_
 refine seq (seq ?_)
 refine reg hS [(1,.ref 0 0),(10,ab (decide (d1.kind_=5)||decide (d1.kind_=6)))] [V16 d1] ?_ ?_
 ·clear h hk hS hX c
  exact dh
 refine ik h (fun h=>?_) fun h=>?_
 ·exact Rt h [2]
 exact seq (reg hS [(2,.full [V20 d1])] [V16 d1] dk (Rf h))
theorem V7y{w16:Y8}{w33:Y9}(c:AllG env [(S33 w33),(S16 w16),(S34 F34)]):Q0a env (S16 (F16 w16 w33)):=by
 refine hd c V1e 59 ?_
 rintro O X hS hX hpf hk (l1:(List Cmd)) (r:Int) (h:F16 w16 w33 l1=some r)
 have pf_33:O.pf 33=true:=pft hpf 33 rfl
 have pf_34:O.pf 34=true:=pft hpf 34 rfl
 refine gs ?_
 rw[F16]at h
 refine R [0] ?_
 refine R [0,3] ?_
 refine seq (R [0,3,4] ?_)
 refine block (Lp h (fun(n3,i4)=>⟨sl [(0,vC l1),(3,ai n3),(4,ai i4)],59,[]⟩) ?_)
 clear h
 rintro⟨n3,i4⟩ m7 h
 rw[Z7b]at h
 try dsimp only at h
 refine AW.st (seq ?_)
 refine R [0,3,4,11] ?_
 refine iz h (fun h=>?_) fun h=>?_
 ·refine skip (seq ?_)
  refine block (seq ?_)
  obtain⟨u9,f11,h⟩:=oc h fun _=>Q0f
  obtain⟨r12,f14,h⟩:=oc h (Zt hk 0 33 u9.words_)
  obtain⟨r15,f17,h⟩:=oc h (Zt hk 1 16 u9.kids_)
  apply dgk mixed hS [0,3,4] (ordp hpf (by kernel_rfl))
  ·exact di1 (an f11.1 (an f11.2.1 (an pf_33 (an (ca f14) (ca f17)))))
  refine R [0,3,4,5] ?_
  refine block (Lp h (fun(n18,k19)=>⟨sl [(0,vC l1),(3,ai n18),(4,ai i4),(5,ai k19)],59,[]⟩) ?_)
  clear h
  rintro⟨n18,k19⟩ m22 h
  rw[J6w]at h
  try dsimp only at h
  refine AW.st (seq ?_)
  refine srg hS [0,3,4,5,43] (di1 (an f11.1 f11.2.1)) ?_
  refine iz h (fun h=>?_) fun h=>?_
  ·obtain⟨u24,f26,h⟩:=oc h fun _=>Q0f
   obtain⟨r27,f29,h⟩:=oc h (Zt hk 2 34 u24)
   obtain⟨r30,f32,h⟩:=oc h (Zt hk 0 33 r27)
   refine skip (seq ?_)
   refine block (rg hS [0,3,4,5] (di1 (an f11.1 (an f11.2.1 (an f26.1 (an f26.2.1 (an pf_34 (an (ca f29) (ca f32)))))))) ?_)
   refine G [0,3,4,5] ?_
   exact nx h
  refine exit (G [0,3,4] ?_)
  exact nx h
 exact exit (Rt h [2])
theorem V7o{w16:Y8}{w33:Y9}(c:AllG env [(S33 w33),(S16 w16)]):Q0a env (S33 (F33 w16 w33)):=by
 refine hd c K8q 29 ?_
 rintro O X hS hX hpf hk (l1:(List Word)) (r:Int) (h:F33 w16 w33 l1=some r)
 have pf_33:O.pf 33=true:=pft hpf 33 rfl
 refine gs ?_
 rw[F33]at h
 refine R [0] ?_
 refine R [0,3] ?_
 refine seq (R [0,3,4] ?_)
 refine block (Lp h (fun(n3,i4)=>⟨sl [(0,vWo l1),(3,ai n3),(4,ai i4)],29,[]⟩) ?_)
 clear h
 rintro⟨n3,i4⟩ m7 h
 rw[X2u]at h
 try dsimp only at h
 refine AW.st (seq ?_)
 refine R [0,3,4,10] ?_
 refine iz h (fun h=>?_) fun h=>?_
 ·refine skip (seq ?_)
  refine block ?_
  obtain⟨u9,f11,h⟩:=oc h fun _=>Q0f
  obtain⟨r12,f14,h⟩:=oc h (Zt hk 0 33 u9.words_)
  obtain⟨r15,f17,h⟩:=oc h (Zt hk 1 16 u9.cmd_)
  apply dgk mixed hS [0,3,4] (ordp hpf (by kernel_rfl))
  ·exact di1 (an f11.1 (an f11.2.1 (an pf_33 (an (ca f14) (ca f17)))))
  refine G [0,3,4] ?_
  exact nx h
 exact exit (Rt h [2])
theorem V7s{w25:Y8}{w61:Y9}(c:AllG env [(S61 w61),(S25 w25),(S34 F34)]):Q0a env (S25 (F25 w25 w61)):=by
 refine hd c K9l 53 ?_
 rintro O X hS hX hpf hk (l1:(List Cmd)) (r:Int) (h:F25 w25 w61 l1=some r)
 have pf_34:O.pf 34=true:=pft hpf 34 rfl
 have pf_61:O.pf 61=true:=pft hpf 61 rfl
 refine gs ?_
 rw[F25]at h
 refine R [0] ?_
 refine R [0,3] ?_
 refine seq (R [0,3,4] ?_)
 refine block (Lp h (fun(n3,i4)=>⟨sl [(0,vC l1),(3,ai n3),(4,ai i4)],53,[]⟩) ?_)
 clear h
 rintro⟨n3,i4⟩ m7 h
 rw[Z6z]at h
 try dsimp only at h
 refine AW.st (seq ?_)
 refine R [0,3,4,10] ?_
 refine iz h (fun h=>?_) fun h=>?_
 ·obtain⟨u9,f11,h⟩:=oc h fun _=>Q0f
  obtain⟨r12,f14,h⟩:=oc h (Zt hk 0 61 u9.words_)
  obtain⟨r15,f17,h⟩:=oc h (Zt hk 1 25 u9.kids_)
  refine skip (seq ?_)
  refine block (seq ?_)
  refine dreg mixed hS (ordp hpf (by kernel_rfl)) [(0,vC l1),(3,ai n3),(4,ai i4),(5,ai (imax r12 r15))] [] ?_ ?_
  ·exact dk1 (an f11.1 (an f11.2.1 (an pf_61 (an (ca f14) (ca f17)))))
  refine seq (R [0,3,4,5,6] ?_)
  refine block (Lp h (fun(d18,k19)=>⟨sl [(0,vC l1),(3,ai n3),(4,ai i4),(5,ai d18),(6,ai k19)],53,[]⟩) ?_)
  clear h
  rintro⟨d18,k19⟩ m22 h
  rw[J6v]at h
  try dsimp only at h
  refine AW.st (seq ?_)
  refine srg hS [0,3,4,5,6,33] (di1 (an f11.1 f11.2.1)) ?_
  refine iz h (fun h=>?_) fun h=>?_
  ·obtain⟨u24,f26,h⟩:=oc h fun _=>Q0f
   obtain⟨r27,f29,h⟩:=oc h (Zt hk 2 34 u24)
   obtain⟨r30,f32,h⟩:=oc h (Zt hk 0 61 r27)
   refine skip (seq ?_)
   refine block (reg hS [(0,vC l1),(3,ai n3),(4,ai i4),(5,ai (imax d18 r30)),(6,ai k19)] [] (dk1 (an f11.1 (an f11.2.1 (an f26.1 (an f26.2.1 (an pf_34 (an (ca f29) (ca f32)))))))) ?_)
   refine G [0,3,4,5,6] ?_
   exact nx h
  refine exit (reg hS [(0,vC l1),(3,ai (imax n3 (IntKind.wrap .i64 (1+d18)))),(4,ai i4)] [] dk ?_)
  refine G [0,3,4] ?_
  exact nx h
 exact exit (Rt h [2])
theorem V7e{w25:Y8}{w61:Y9}(c:AllG env [(S61 w61),(S25 w25)]):Q0a env (S61 (F61 w25 w61)):=by
 refine hd c K8o 28 ?_
 rintro O X hS hX hpf hk (l1:(List Word)) (r:Int) (h:F61 w25 w61 l1=some r)
 have pf_61:O.pf 61=true:=pft hpf 61 rfl
 refine gs ?_
 rw[F61]at h
 refine R [0] ?_
 refine R [0,3] ?_
 refine seq (R [0,3,4] ?_)
 refine block (Lp h (fun(n3,i4)=>⟨sl [(0,vWo l1),(3,ai n3),(4,ai i4)],28,[]⟩) ?_)
 clear h
 rintro⟨n3,i4⟩ m7 h
 rw[X2s]at h
 try dsimp only at h
 refine AW.st (seq ?_)
 refine R [0,3,4,8] ?_
 refine iz h (fun h=>?_) fun h=>?_
 ·obtain⟨u9,f11,h⟩:=oc h fun _=>Q0f
  obtain⟨r12,f14,h⟩:=oc h (Zt hk 0 61 u9.words_)
  obtain⟨r15,f17,h⟩:=oc h (Zt hk 1 25 u9.cmd_)
  refine skip (seq ?_)
  refine block (dreg mixed hS (ordp hpf (by kernel_rfl)) [(0,vWo l1),(3,ai (imax n3 (IntKind.wrap .i64 (1+(imax r12 r15))))),(4,ai i4)] [] ?_ ?_)
  ·exact dk1 (an f11.1 (an f11.2.1 (an pf_61 (an (ca f14) (ca f17)))))
  refine G [0,3,4] ?_
  exact nx h
 exact exit (Rt h [2])
theorem K7z(c:AllG env []):Q0a env (S100 F100):=by
 refine hd c V3a 24 ?_
 rintro O X hS hX hpf hk (Q0h:Int) (r:Int) (h:F100 Q0h=some r)
 refine gs ?_
 rw[F100]at h
 refine R [0] ?_
 refine seq (R [3] ?_)
 refine block (seqM ⟨sl [(3,ai Q0h),(4,ab (bif decide (Q0h=1)then decide (Q0h=1)else(bif decide (Q0h=2)then decide (Q0h=2)else(bif decide (Q0h=7)then decide (Q0h=7)else(bif decide (Q0h=8)then decide (Q0h=8)else(bif decide (Q0h=9)then decide (Q0h=9)else(bif decide (Q0h=10)then decide (Q0h=10)else(bif decide (Q0h=11)then decide (Q0h=11)else(bif decide (Q0h=12)then decide (Q0h=12)else(bif decide (Q0h=13)then decide (Q0h=13)else(bif decide (Q0h=15)then decide (Q0h=15)else(bif decide (Q0h=16)then decide (Q0h=16)else decide (Q0h=17)))))))))))))],24,[]⟩ ?_ ?_)
 ·refine R [3,4] ?_
  refine cond (b:=decide (Q0h=1)) rfl (fun hb3=>?_) (fun hb3=>?_)
  ·exact skip (Weak.of_eq (Weak.slots (L:=[(3,ai Q0h),(4,ab (decide (Q0h=1)))]) kp) (wq hb3))
  refine R [3,4] ?_
  refine cond (b:=decide (Q0h=2)) rfl (fun hb4=>?_) (fun hb4=>?_)
  ·exact skip (Weak.of_eq (Weak.slots (L:=[(3,ai Q0h),(4,ab (decide (Q0h=2)))]) kp) (by simp only[hb3,hb4,cond_true,cond_false,Q1y,Bool.not_true,Bool.not_false]<;>rfl))
  refine R [3,4] ?_
  refine cond (b:=decide (Q0h=7)) rfl (fun hb5=>?_) (fun hb5=>?_)
  ·exact skip (Weak.of_eq (Weak.slots (L:=[(3,ai Q0h),(4,ab (decide (Q0h=7)))]) kp) (by simp only[hb3,hb4,hb5,cond_true,cond_false,Q1y,Bool.not_true,Bool.not_false]<;>rfl))
  refine R [3,4] ?_
  refine cond (b:=decide (Q0h=8)) rfl (fun hb6=>?_) (fun hb6=>?_)
  ·exact skip (Weak.of_eq (Weak.slots (L:=[(3,ai Q0h),(4,ab (decide (Q0h=8)))]) kp) (by simp only[hb3,hb4,hb5,hb6,cond_true,cond_false,Q1y,Bool.not_true,Bool.not_false]<;>rfl))
  refine R [3,4] ?_
  refine cond (b:=decide (Q0h=9)) rfl (fun hb7=>?_) (fun hb7=>?_)
  ·exact skip (Weak.of_eq (Weak.slots (L:=[(3,ai Q0h),(4,ab (decide (Q0h=9)))]) kp) (by simp only[hb3,hb4,hb5,hb6,hb7,cond_true,cond_false,Q1y,Bool.not_true,Bool.not_false]<;>rfl))
  refine R [3,4] ?_
  refine cond (b:=decide (Q0h=10)) rfl (fun hb8=>?_) (fun hb8=>?_)
  ·exact skip (Weak.of_eq (Weak.slots (L:=[(3,ai Q0h),(4,ab (decide (Q0h=10)))]) kp) (by simp only[hb3,hb4,hb5,hb6,hb7,hb8,cond_true,cond_false,Q1y,Bool.not_true,Bool.not_false]<;>rfl))
  refine R [3,4] ?_
  refine cond (b:=decide (Q0h=11)) rfl (fun hb9=>?_) (fun hb9=>?_)
  ·exact skip (Weak.of_eq (Weak.slots (L:=[(3,ai Q0h),(4,ab (decide (Q0h=11)))]) kp) (by simp only[hb3,hb4,hb5,hb6,hb7,hb8,hb9,cond_true,cond_false,Q1y,Bool.not_true,Bool.not_false]<;>rfl))
  refine R [3,4] ?_
  refine cond (b:=decide (Q0h=12)) rfl (fun hb10=>?_) (fun hb10=>?_)
  ·exact skip (Weak.of_eq (Weak.slots (L:=[(3,ai Q0h),(4,ab (decide (Q0h=12)))]) kp) (by simp only[hb3,hb4,hb5,hb6,hb7,hb8,hb9,hb10,cond_true,cond_false,Q1y,Bool.not_true,Bool.not_false]<;>rfl))
  refine R [3,4] ?_
  refine cond (b:=decide (Q0h=13)) rfl (fun hb11=>?_) (fun hb11=>?_)
  ·exact skip (Weak.of_eq (Weak.slots (L:=[(3,ai Q0h),(4,ab (decide (Q0h=13)))]) kp) (by simp only[hb3,hb4,hb5,hb6,hb7,hb8,hb9,hb10,hb11,cond_true,cond_false,Q1y,Bool.not_true,Bool.not_false]<;>rfl))
  refine R [3,4] ?_
  refine cond (b:=decide (Q0h=15)) rfl (fun hb12=>?_) (fun hb12=>?_)
  ·exact skip (Weak.of_eq (Weak.slots (L:=[(3,ai Q0h),(4,ab (decide (Q0h=15)))]) kp) (by simp only[hb3,hb4,hb5,hb6,hb7,hb8,hb9,hb10,hb11,hb12,cond_true,cond_false,Q1y,Bool.not_true,Bool.not_false]<;>rfl))
  refine R [3,4] ?_
  refine cond (b:=decide (Q0h=16)) rfl (fun hb13=>?_) (fun hb13=>?_)
  ·exact skip (Weak.of_eq (Weak.slots (L:=[(3,ai Q0h),(4,ab (decide (Q0h=16)))]) kp) (by simp only[hb3,hb4,hb5,hb6,hb7,hb8,hb9,hb10,hb11,hb12,hb13,cond_true,cond_false,Q1y,Bool.not_true,Bool.not_false]<;>rfl))
  refine G [3,4] ?_
  exact Weak.of_eq (Weak.slots (L:=[(3,ai Q0h),(4,ab (decide (Q0h=17)))]) kp) (by simp only[hb3,hb4,hb5,hb6,hb7,hb8,hb9,hb10,hb11,hb12,hb13,cond_true,cond_false,Q1y,Bool.not_true,Bool.not_false]<;>rfl)
 refine iz h (fun h=>?_) fun h=>?_
 ·exact Rt h [2]
 refine R [3,17] ?_
 refine iz h (fun h=>?_) fun h=>?_
 ·exact Rt h [2]
 refine seqM ⟨sl [(3,ai Q0h),(19,ab (bif decide (Q0h=5)then decide (Q0h=5)else decide (Q0h=6)))],24,[]⟩ ?_ ?_
 ·refine R [3,19] ?_
  refine cond (b:=decide (Q0h=5)) rfl (fun hb16=>?_) (fun hb16=>?_)
  ·exact skip (Weak.of_eq (Weak.slots (L:=[(3,ai Q0h),(19,ab (decide (Q0h=5)))]) kp) (wq hb16))
  refine G [3,19] ?_
  exact Weak.of_eq (Weak.slots (L:=[(3,ai Q0h),(19,ab (decide (Q0h=6)))]) kp) (wq hb16)
 refine iz h (fun h=>?_) fun h=>?_
 ·exact Rt h [2]
 refine R [22] ?_
 refine ik h (fun h=>?_) fun h=>?_
 ·exact Rt h [2]
 exact Rt h [2]
theorem K3r{w101:Y4}(c:AllG env [(S100 F100),(S101 w101)]):Q0a env (S65 (F65 w101)):=by
 refine hd c V8w 34 ?_
 rintro O X hS hX hpf hk ⟨l1,most2⟩ (r:Bool) (h:F65 w101 l1 most2=some r)
 refine gs ?_
 rw[F65]at h
 refine R [0,1] ?_
 refine seq (R [0,1,5] ?_)
 refine block (Lp h (fun i4=>⟨sl [(0,vC l1),(1,ai most2),(5,ai i4)],34,[]⟩) ?_)
 clear h
 rintro i4 m7 h
 rw[X2r]at h
 try dsimp only at h
 refine AW.st (seq ?_)
 refine R [0,1,5,10] ?_
 refine iz h (fun h=>?_) fun h=>?_
 ·obtain⟨u9,f11,h⟩:=oc h fun _=>Q0f
  obtain⟨r12,f14,h⟩:=oc h (Zt hk 0 100 u9.kind_)
  refine skip (seq ?_)
  refine block (seq ?_)
  refine rg hS [0,1,5,6] (di1 (an f11.1 (an f11.2.1 (ca f14)))) ?_
  obtain⟨r15,q16,h⟩:=obs h
  replace q16:=Q0b q16
  have f17:=fun hg=>(hk 1 101 rfl).ret u9 (q16 hg) rfl rfl
  refine seq (reg hS [(0,vC l1),(1,ai most2),(5,ai i4),(33,ab ((decide (r12<1)||decide (most2<r12))||!r15))] [] ?_ ?_)
  ·clear h hk hS hX c
   exact dh1 (an f11.1 (an f11.2.1 (ap1 101 hpf f17)))
  refine ik h (fun h=>?_) fun h=>?_
  ·exact Rt h [4]
  refine G [0,1,5] ?_
  exact nx h
 exact exit (Rt h [4])
theorem K3x{w101:Y4}(c:AllG env [(S65 (F65 w101))]):Q0a env (S30 (F30 w101)):=by
 refine hd c V9o 5 ?_
 rintro O X hS hX hpf hk (l1:(List Cmd)) (r:Bool) (h:F30 w101 l1=some r)
 refine gs ?_
 rw[F30]at h
 refine R [0] ?_
 refine seq (Ua1 h [2] (Zt hk 0 65 (l1,4)) fun r3 h=>?_)
 exact Rf h
theorem K6d(c:AllG env []):Q0a env (S172 F172):=by
 refine hd c V0v 59 ?_
 rintro O X hS hX hpf hk (s1:Str) (r:Bool) (h:F172 s1=some r)
 refine gs ?_
 rw[F172]at h
 refine R [0] ?_
 refine seq (R [0,3] ?_)
 refine block (Lp h (fun i3=>⟨sl [(0,as_ s1),(3,ai i3)],59,[]⟩) ?_)
 clear h
 rintro i3 m6 h
 rw[J4e]at h
 try dsimp only at h
 refine AW.st (seq ?_)
 refine R [0,3,7] ?_
 refine iz h (fun h=>?_) fun h=>?_
 ·obtain⟨c8,f10,h⟩:=oc h fun _=>Q3m
  refine skip (seq ?_)
  refine block (seq ?_)
  refine reg hS [(0,as_ s1),(3,ai i3),(56,ab (!(((((decide (97≤c8)&&decide (c8≤122))||(decide (65≤c8)&&decide (c8≤90)))||(decide (48≤c8)&&decide (c8≤57)))||decide (c8=95))||decide (c8=42))))] [] ?_ ?_
  ·clear h hk hS hX c
   exact dh1 (an f10.1 (an f10.2.1 f10.2.2))
  refine ik h (fun h=>?_) fun h=>?_
  ·exact Rt h [2]
  refine G [0,3] ?_
  exact nx h
 exact exit (Rt h [2])
theorem K6v(c:AllG env [(S172 F172)]):Q0a env (S145 F145):=by
 refine hd c V1s 133 ?_
 rintro O X hS hX hpf hk (c1:Cmd) (r:Bool) (h:F145 c1=some r)
 refine gs ?_
 rw[F145]at h
 refine R [1] ?_
 refine seq ?_
 apply dgk mixed hS [1,3,4] (ordp hpf (by kernel_rfl))
 ·exact di
 refine seq (reg hS [(1,.ref 0 0),(3,ai (c1.words_.length:Int)),(4,ai (c1.kids_.length:Int)),(5,ab ((decide (c1.kind_=2)||decide (c1.kind_=10))||decide (c1.kind_=15)))] [V6 c1] ?_ ?_)
 ·clear h hk hS hX c
  exact dh
 obtain⟨r3,q4,h⟩:=obs h
 replace q4:=Q0b q4
 have f5:=fun hg=>(hk 0 172 rfl).ret c1.name_ (q4 hg) rfl rfl
 refine seq (seq ?_)
 refine reg hS [(1,.ref 0 0),(3,ai (c1.words_.length:Int)),(4,ai (c1.kids_.length:Int)),(56,ab (((((decide (c1.kind_=2)||decide (c1.kind_=10))||decide (c1.kind_=15))&&!r3)||(!((decide (c1.kind_=2)||decide (c1.kind_=10))||decide (c1.kind_=15))&&!decide (c1.name_=[])))||((decide (0<(c1.redirs_.length:Int))&&!decide (c1.kind_=1))&&!decide (c1.kind_=12))))] [V6 c1] ?_ ?_
 ·clear h hk hS hX c
  exact dh1 (ap1 172 hpf f5)
 refine ik h (fun h=>?_) fun h=>?_
 ·exact Rt h [2]
 refine seq (R [1,3,4,58] ?_)
 refine block (R [1,3,4,58,59] ?_)
 refine iz h (fun h=>?_) fun h=>?_
 ·refine seq (reg hS [(2,ab (decide (0<IntKind.wrap .i64 ((c1.words_.length:Int)+(c1.redirs_.length:Int)))&&decide ((c1.kids_.length:Int)=0)))] [V6 c1] ?_ ?_)
  ·clear h hk hS hX c
   exact dh
  exact Rf h
 refine R [1,3,4,58,71] ?_
 refine iz h (fun h=>?_) fun h=>?_
 ·refine seq (reg hS [(2,ab (decide ((c1.words_.length:Int)=1)&&decide ((c1.kids_.length:Int)≤1)))] [V6 c1] ?_ ?_)
  ·clear h hk hS hX c
   exact dh
  exact Rf h
 refine seqM ⟨sl [(1,.ref 0 0),(3,ai (c1.words_.length:Int)),(4,ai (c1.kids_.length:Int)),(58,ai c1.kind_),(79,ab (bif decide (c1.kind_=7)then decide (c1.kind_=7)else(bif decide (c1.kind_=13)then decide (c1.kind_=13)else(bif decide (c1.kind_=9)then decide (c1.kind_=9)else decide (c1.kind_=14)))))],133,[V6 c1]⟩ ?_ ?_
 ·refine R [1,3,4,58,79] ?_
  refine cond (b:=decide (c1.kind_=7)) rfl (fun hb9=>?_) (fun hb9=>?_)
  ·exact skip (Weak.of_eq (Weak.slots (L:=[(1,.ref 0 0),(3,ai (c1.words_.length:Int)),(4,ai (c1.kids_.length:Int)),(58,ai c1.kind_),(79,ab (decide (c1.kind_=7)))]) kp) (wq hb9))
  refine R [1,3,4,58,79] ?_
  refine cond (b:=decide (c1.kind_=13)) rfl (fun hb10=>?_) (fun hb10=>?_)
  ·exact skip (Weak.of_eq (Weak.slots (L:=[(1,.ref 0 0),(3,ai (c1.words_.length:Int)),(4,ai (c1.kids_.length:Int)),(58,ai c1.kind_),(79,ab (decide (c1.kind_=13)))]) kp) (by simp only[hb9,hb10,cond_true,cond_false,Q1y,Bool.not_true,Bool.not_false]<;>rfl))
  refine R [1,3,4,58,79] ?_
  refine cond (b:=decide (c1.kind_=9)) rfl (fun hb11=>?_) (fun hb11=>?_)
  ·exact skip (Weak.of_eq (Weak.slots (L:=[(1,.ref 0 0),(3,ai (c1.words_.length:Int)),(4,ai (c1.kids_.length:Int)),(58,ai c1.kind_),(79,ab (decide (c1.kind_=9)))]) kp) (by simp only[hb9,hb10,hb11,cond_true,cond_false,Q1y,Bool.not_true,Bool.not_false]<;>rfl))
  refine G [1,3,4,58,79] ?_
  exact Weak.of_eq (Weak.slots (L:=[(1,.ref 0 0),(3,ai (c1.words_.length:Int)),(4,ai (c1.kids_.length:Int)),(58,ai c1.kind_),(79,ab (decide (c1.kind_=14)))]) kp) (by simp only[hb9,hb10,hb11,cond_true,cond_false,Q1y,Bool.not_true,Bool.not_false]<;>rfl)
 refine iz h (fun h=>?_) fun h=>?_
 ·refine seq (reg hS [(2,ab (decide ((c1.words_.length:Int)=0)&&decide ((c1.kids_.length:Int)=1)))] [V6 c1] ?_ ?_)
  ·clear h hk hS hX c
   exact dh
  exact Rf h
 refine seqM ⟨sl [(1,.ref 0 0),(3,ai (c1.words_.length:Int)),(4,ai (c1.kids_.length:Int)),(58,ai c1.kind_),(90,ab (bif decide (c1.kind_=8)then decide (c1.kind_=8)else(bif decide (c1.kind_=11)then decide (c1.kind_=11)else(bif decide (c1.kind_=5)then decide (c1.kind_=5)else decide (c1.kind_=6)))))],133,[V6 c1]⟩ ?_ ?_
 ·refine R [1,3,4,58,90] ?_
  refine cond (b:=decide (c1.kind_=8)) rfl (fun hb13=>?_) (fun hb13=>?_)
  ·exact skip (Weak.of_eq (Weak.slots (L:=[(1,.ref 0 0),(3,ai (c1.words_.length:Int)),(4,ai (c1.kids_.length:Int)),(58,ai c1.kind_),(90,ab (decide (c1.kind_=8)))]) kp) (wq hb13))
  refine R [1,3,4,58,90] ?_
  refine cond (b:=decide (c1.kind_=11)) rfl (fun hb14=>?_) (fun hb14=>?_)
  ·exact skip (Weak.of_eq (Weak.slots (L:=[(1,.ref 0 0),(3,ai (c1.words_.length:Int)),(4,ai (c1.kids_.length:Int)),(58,ai c1.kind_),(90,ab (decide (c1.kind_=11)))]) kp) (by simp only[hb13,hb14,cond_true,cond_false,Q1y,Bool.not_true,Bool.not_false]<;>rfl))
  refine R [1,3,4,58,90] ?_
  refine cond (b:=decide (c1.kind_=5)) rfl (fun hb15=>?_) (fun hb15=>?_)
  ·exact skip (Weak.of_eq (Weak.slots (L:=[(1,.ref 0 0),(3,ai (c1.words_.length:Int)),(4,ai (c1.kids_.length:Int)),(58,ai c1.kind_),(90,ab (decide (c1.kind_=5)))]) kp) (by simp only[hb13,hb14,hb15,cond_true,cond_false,Q1y,Bool.not_true,Bool.not_false]<;>rfl))
  refine G [1,3,4,58,90] ?_
  exact Weak.of_eq (Weak.slots (L:=[(1,.ref 0 0),(3,ai (c1.words_.length:Int)),(4,ai (c1.kids_.length:Int)),(58,ai c1.kind_),(90,ab (decide (c1.kind_=6)))]) kp) (by simp only[hb13,hb14,hb15,cond_true,cond_false,Q1y,Bool.not_true,Bool.not_false]<;>rfl)
 refine iz h (fun h=>?_) fun h=>?_
 ·refine seq (reg hS [(2,ab (decide ((c1.words_.length:Int)=0)&&decide ((c1.kids_.length:Int)=2)))] [V6 c1] ?_ ?_)
  ·clear h hk hS hX c
   exact dh
  exact Rf h
 refine R [1,3,4,58,101] ?_
 refine iz h (fun h=>?_) fun h=>?_
 ·exact Rt h [2]
 refine seqM ⟨sl [(1,.ref 0 0),(3,ai (c1.words_.length:Int)),(4,ai (c1.kids_.length:Int)),(58,ai c1.kind_),(105,ab (bif decide (c1.kind_=12)then decide (c1.kind_=12)else decide (c1.kind_=15)))],133,[V6 c1]⟩ ?_ ?_
 ·refine R [1,3,4,58,105] ?_
  refine cond (b:=decide (c1.kind_=12)) rfl (fun hb18=>?_) (fun hb18=>?_)
  ·exact skip (Weak.of_eq (Weak.slots (L:=[(1,.ref 0 0),(3,ai (c1.words_.length:Int)),(4,ai (c1.kids_.length:Int)),(58,ai c1.kind_),(105,ab (decide (c1.kind_=12)))]) kp) (wq hb18))
  refine G [1,3,4,58,105] ?_
  exact Weak.of_eq (Weak.slots (L:=[(1,.ref 0 0),(3,ai (c1.words_.length:Int)),(4,ai (c1.kids_.length:Int)),(58,ai c1.kind_),(105,ab (decide (c1.kind_=15)))]) kp) (wq hb18)
 refine iz h (fun h=>?_) fun h=>?_
 ·exact Rt h [2]
 refine R [1,3,4,58,110] ?_
 refine iz h (fun h=>?_) fun h=>?_
 ·refine seq (reg hS [(2,ab (decide ((c1.words_.length:Int)=0)&&decide (2≤(c1.kids_.length:Int))))] [V6 c1] ?_ ?_)
  ·clear h hk hS hX c
   exact dh
  exact Rf h
 refine R [1,3,4,118] ?_
 refine ik h (fun h=>?_) fun h=>?_
 ·refine seq (reg hS [(2,ab (decide (0<(c1.words_.length:Int))&&decide ((c1.kids_.length:Int)=0)))] [V6 c1] ?_ ?_)
  ·clear h hk hS hX c
   exact dh
  exact Rf h
 refine seq (reg hS [(2,ab (decide (c1.kind_=17)&&decide ((c1.words_.length:Int)=1)))] [V6 c1] ?_ ?_)
 ·clear h hk hS hX c
  exact dh
 exact Rf h
theorem K6u{w184:Y3}(c:AllG env [(S184 w184)]):Q0a env (S146 (F146 w184)):=by
 refine hd c V1r 16 ?_
 rintro O X hS hX hpf hk (l1:(List Word)) (r:Bool) (h:F146 w184 l1=some r)
 refine gs ?_
 rw[F146]at h
 refine R [0] ?_
 refine seq (R [0,3] ?_)
 refine block (Lp h (fun i3=>⟨sl [(0,vWo l1),(3,ai i3)],16,[]⟩) ?_)
 clear h
 rintro i3 m6 h
 rw[J4i]at h
 try dsimp only at h
 refine AW.st (seq ?_)
 refine R [0,3,7] ?_
 refine iz h (fun h=>?_) fun h=>?_
 ·obtain⟨u8,f10,h⟩:=oc h fun _=>Q0f
  obtain⟨r11,f13,h⟩:=oc h (Zt hk 0 184 u8)
  refine skip (seq ?_)
  refine block (seq ?_)
  refine rg hS [0,3,15] (di1 (an f10.1 (an f10.2.1 (ca f13)))) ?_
  refine ik h (fun h=>?_) fun h=>?_
  ·exact Rt h [2]
  refine G [0,3] ?_
  exact nx h
 exact exit (Rt h [2])
theorem K5z(c:AllG env []):Q0a env (S185 F185):=by
 refine hd c V0t 26 ?_
 rintro O X hS hX hpf hk (w1:Word) (r:Bool) (h:F185 w1=some r)
 refine gs ?_
 rw[F185]at h
 refine R [1] ?_
 refine seq (reg hS [(2,ab (((decide (w1.kind_=0)&&decide (w1.text_=[]))&&decide (w1.quoted_=[]))&&decide (IntKind.wrap .i64 ((w1.words_.length:Int)+(w1.cmd_.length:Int))=0)))] [V17 w1] ?_ ?_)
 ·clear h hk hS hX c
  exact dh
 exact Rf h
theorem K5y(c:AllG env []):Q0a env (S186 F186):=by
 refine hd c V0s 13 ?_
 rintro O X hS hX hpf hk (n1:Int) (r:Str) (h:F186 n1=some r)
 refine gs ?_
 rw[F186]at h
 refine R [0] ?_
 refine R [0,3] ?_
 refine seq (R [0,3,4] ?_)
 refine block (Lp h (fun(s3,i4)=>⟨sl [(0,ai n1),(3,as_ s3),(4,ai i4)],13,[]⟩) ?_)
 clear h
 rintro⟨s3,i4⟩ m7 h
 rw[Z0z]at h
 try dsimp only at h
 refine AW.st (seq ?_)
 refine R [0,3,4,7] ?_
 refine iz h (fun h=>?_) fun h=>?_
 ·obtain⟨s9,f11,h⟩:=oc h fun _=>Q1a
  try simp only[LNS,List.length_replicate,Nat.reduceAdd,Nat.reduceLeDiff,Nat.add_zero,Nat.reduceMul]at f11
  refine skip (seq ?_)
  refine block (rg hS [0,3,4] (di1 (an f11.1 f11.2)) ?_)
  refine G [0,3,4] ?_
  exact nx h
 exact exit (Rt h [2])
theorem K6t{w184:Y3}(c:AllG env [(S184 w184),(S185 F185),(S186 F186)]):Q0a env (S147 (F147 w184)):=by
 refine hd c V1q 101 ?_
 rintro O X hS hX hpf hk (d1:Redir) (r:Bool) (h:F147 w184 d1=some r)
 have pf_186:O.pf 186=true:=pft hpf 186 rfl
 refine gs ?_
 rw[F147]at h
 refine R [1] ?_
 refine seq (seq ?_)
 refine reg hS [(1,.ref 0 0),(41,ab (((((decide (d1.fd_<0)||decide (64≤d1.fd_))||decide (d1.from_<0))||decide (64≤d1.from_))||(!decide (d1.kind_=5)&&!decide (d1.from_=0)))||(!decide (d1.kind_=4)&&d1.raw_)))] [V16 d1] ?_ ?_
 ·clear h hk hS hX c
  exact dh
 refine ik h (fun h=>?_) fun h=>?_
 ·exact Rt h [2]
 refine seq (R [1,43] ?_)
 refine block (seqM ⟨sl [(1,.ref 0 0),(43,ai d1.kind_),(44,ab (bif decide (d1.kind_=1)then decide (d1.kind_=1)else(bif decide (d1.kind_=2)then decide (d1.kind_=2)else decide (d1.kind_=3))))],101,[V16 d1]⟩ ?_ ?_)
 ·refine R [1,43,44] ?_
  refine cond (b:=decide (d1.kind_=1)) rfl (fun hb4=>?_) (fun hb4=>?_)
  ·exact skip (Weak.of_eq (Weak.slots (L:=[(1,.ref 0 0),(43,ai d1.kind_),(44,ab (decide (d1.kind_=1)))]) kp) (wq hb4))
  refine R [1,43,44] ?_
  refine cond (b:=decide (d1.kind_=2)) rfl (fun hb5=>?_) (fun hb5=>?_)
  ·exact skip (Weak.of_eq (Weak.slots (L:=[(1,.ref 0 0),(43,ai d1.kind_),(44,ab (decide (d1.kind_=2)))]) kp) (by simp only[hb4,hb5,cond_true,cond_false,Q1y,Bool.not_true,Bool.not_false]<;>rfl))
  refine G [1,43,44] ?_
  exact Weak.of_eq (Weak.slots (L:=[(1,.ref 0 0),(43,ai d1.kind_),(44,ab (decide (d1.kind_=3)))]) kp) (by simp only[hb4,hb5,cond_true,cond_false,Q1y,Bool.not_true,Bool.not_false]<;>rfl)
 refine iz h (fun h=>?_) fun h=>?_
 ·refine seq (Ua1 h [2] (Zt hk 0 184 d1.word_) fun r7 h=>?_)
  exact Rf h
 refine seqM ⟨sl [(1,.ref 0 0),(43,ai d1.kind_),(51,ab (bif decide (d1.kind_=5)then decide (d1.kind_=5)else decide (d1.kind_=6)))],101,[V16 d1]⟩ ?_ ?_
 ·refine R [1,43,51] ?_
  refine cond (b:=decide (d1.kind_=5)) rfl (fun hb10=>?_) (fun hb10=>?_)
  ·exact skip (Weak.of_eq (Weak.slots (L:=[(1,.ref 0 0),(43,ai d1.kind_),(51,ab (decide (d1.kind_=5)))]) kp) (wq hb10))
  refine G [1,43,51] ?_
  exact Weak.of_eq (Weak.slots (L:=[(1,.ref 0 0),(43,ai d1.kind_),(51,ab (decide (d1.kind_=6)))]) kp) (wq hb10)
 refine iz h (fun h=>?_) fun h=>?_
 ·refine seq (Ua1 h [2] (Zt hk 1 185 d1.word_) fun r12 h=>?_)
  exact Rf h
 refine R [1,57] ?_
 refine ik h (fun h=>?_) fun h=>?_
 ·refine R [1,3] ?_
  refine R [1,3,4] ?_
  obtain⟨r16,q17,h⟩:=obs h
  replace q17:=Q0b q17
  have f18:=fun hg=>(hk 2 186 rfl).ret (d1.word_.text_.length:Int) (q17 hg) rfl rfl
  obtain⟨c19,f21,h⟩:=oc h fun _ q=>Q4n (Q0b q)
  refine seq (dreg mixed hS (ordp hpf (by kernel_rfl)) [(2,ab ((((decide (d1.fd_=0)&&decide (d1.word_.kind_=1))&&decide (d1.word_.quoted_=r16))&&decide (IntKind.wrap .i64 ((d1.word_.words_.length:Int)+(d1.word_.cmd_.length:Int))=0))&&(decide ((d1.word_.text_.length:Int)=0)||decide (c19=10))))] [V16 d1,V18 d1] ?_ ?_)
  ·clear h hk hS hX c
   exact dh1 (an pf_186 (an f18 (an f21.1 (an f21.2.1 f21.2.2))))
  exact Rf h
 exact Rt h [2]
theorem K5x(c:AllG env []):Q0a env (S187 F187):=by
 refine hd c V0r 29 ?_
 rintro O X hS hX hpf hk (s1:Str) (r:Bool) (h:F187 s1=some r)
 refine gs ?_
 rw[F187]at h
 refine R [0] ?_
 refine seq (reg hS [(2,ab ((((((decide (s1=[105,102])||decide (s1=[119,104,105,108,101]))||decide (s1=[102,111,114]))||decide (s1=[115,119,105,116,99,104]))||decide (s1=[99,97,115,101]))||decide (s1=[102,110]))||decide (s1=[126])))] [] ?_ ?_)
 ·clear h hk hS hX c
  exact dh
 exact Rf h
end Go.Abs.U48
