import Derived.Test.YtljahlbklgnfhaaGreatDoorD1
set_option linter.unusedVariables false
set_option linter.unusedSimpArgs false
set_option linter.defProp false
set_option maxRecDepth 8000
set_option maxHeartbeats 4000000
namespace Go.Abs.U48
open Go.RowKit Go.Proofs AW
theorem K6o{w66:Y5}{w152:Y2}(c:AllG env [(S190 F190),(S103 F103),(S191 (F191 w152)),(S104 (F104 w66))]):Q0a env (S152 (F152 w66 w152)):=by
 refine hd c X7d 54 ?_
 rintro O X hS hX hpf hk ⟨w1,b2,l3⟩ (r:Str×(List Redir)) (h:F152 w66 w152 w1 b2 l3=some r)
 refine gs ?_
 rw[F152]at h
 refine R [0,3] ?_
 refine R [0,3,5] ?_
 refine block (R [0,3,5,6] ?_)
 refine iz h (fun h=>?_) fun h=>?_
 ·refine Ua1 h [] (Z hk 0 190 (w1,b2,l3)) fun o7 h=>?_
  cases h
  exact fin
 refine R [0,3,5,11] ?_
 refine iz h (fun h=>?_) fun h=>?_
 ·refine Ua1 h [] (Z hk 1 103 (([[36],w1.text_]:List Str),b2,l3)) fun o12 h=>?_
  cases h
  exact fin
 refine R [0,3,5,18] ?_
 refine iz h (fun h=>?_) fun h=>?_
 ·refine Ua1 h [] (Z hk 1 103 (([[36,35],w1.text_]:List Str),b2,l3)) fun o17 h=>?_
  cases h
  exact fin
 refine R [0,3,5,25] ?_
 refine iz h (fun h=>?_) fun h=>?_
 ·refine seq (Ua1 h [0,3] (Z hk 1 103 (([[36],w1.text_]:List Str),b2,l3)) fun o22 h=>?_)
  refine Ua2 h [] (Z hk 2 191 (([40]:Str),w1.words_,([32]:Str),([41]:Str),o22,l3)) fun o26 m27 h=>?_
  cases h
  exact fin
 refine R [0,3,5,36] ?_
 refine iz h (fun h=>?_) fun h=>?_
 ·refine Ua2 h [] (Z hk 2 191 (([40]:Str),w1.words_,([32]:Str),([41]:Str),b2,l3)) fun o32 m33 h=>?_
  cases h
  exact fin
 refine R [0,3,5,42] ?_
 refine iz h (fun h=>?_) fun h=>?_
 ·refine Ua2 h [] (Z hk 2 191 (([]:Str),w1.words_,([94]:Str),([]:Str),b2,l3)) fun o38 m39 h=>?_
  cases h
  exact fin
 refine R [0,3,48] ?_
 refine ik h (fun h=>?_) fun h=>?_
 ·refine Ua2 h [] (Z hk 3 104 (([96,123]:Str),w1.cmd_,([125]:Str),b2,l3)) fun o44 m45 h=>?_
  cases h
  exact fin
 cases h
 exact fin
theorem V7x(c:AllG env [(S13 F13),(S35 (F35 (K66 BIG))),(S36 F36)]):Q0a env (S17 F17):=by
 refine hd c V9t 12 ?_
 rintro O X hS hX hpf hk (l1:(List Cmd)) (r:Str×Int) (h:F17 l1=some r)
 refine gs ?_
 rw[F17]at h
 refine R [0] ?_
 refine seq (seq ?_)
 refine Ua1 h [0,7] (Zt hk 0 13 l1) fun r4 h=>?_
 refine ik h (fun h=>?_) fun h=>?_
 ·exact Rt h [2,3]
 refine seq ?_
 apply rg hS [0,4]
 ·simp -implicitDefEqProofs only[RUNS,Q0s,Nat.reduceAdd,Nat.reduceLeDiff,Nat.reduceSub,reduceIte,Nat.reduceEqDiff,Nat.reduceLT,reduceCtorEq,Nat.reduceMul,Nat.reduceBEq,Int.reduceEq,Int.reduceToNat,Int.toNat_zero,Nat.sub_zero,if_true,if_false,eq_self,ne_eq,Q4f,Q3c,Q2i,TYS,X7g];exact⟨rfl,rfl⟩
 obtain⟨⟨o8,m9⟩,q10,h⟩:=obs h
 dsimp only at h
 have f11:=hk 1 35 rfl
 replace f11:=f11.ret (l1,([]:Str),(([]:List Redir):List Redir)) q10 rfl rfl
 try simp only[PVE]at f11
 have e12:Q1q O [.prn 5 [] 51 9 (List.map Redir.pv ([]:List Redir))] 35 [.ref 0 0,vC l1]=some (Q1z [],[.prn 5 o8 51 9 (List.map Redir.pv m9)]):=Q0p rfl rfl rfl f11 rfl rfl rfl
 try simp only[List.length_nil,List.map_nil]at e12
 refine seq (rg hS [4] (di1 (ap0 35 hpf e12)) ?_)
 refine seq (Ua1 h [2,3] (Z hk 2 36 (o8,m9)) fun r13 h=>?_)
 exact Rf h
theorem g_F7(c:AllG env [(S8 F8),(S15 (K15 BIG)),(S13 F13),(S17 F17)]):Q0a env (S7 F7):=by
 refine hd c fn_7 71 ?_
 rintro O X hS hX hpf hk ⟨⟩ (r:Bool) (h:F7=some r)
 have pf_15:O.pf 15=true:=pft hpf 15 rfl
 refine gs ?_
 rw[F7]at h
 refine R [] ?_
 refine seq (Ua3 h [1,2,3] (Zt hk 0 8 ([105,102,40,126,32,36,120,32,97,41,123,101,99,104,111,32,39,98,32,99,39,125]:Str)) fun r2 r3 r4 h=>?_)
 obtain⟨u7,f9,h⟩:=oc h fun _ q=>Q6y (Q0b q)
 try simp only[NRM,Int.reduceToNat]at f9
 obtain⟨r10,q11,h⟩:=obs h
 have f12:=hk 1 15 rfl
 replace q11:=Q0b q11
 replace f12:=fun hg=>f12.ret r2 (q11 hg) rfl rfl
 obtain⟨r13,q14,h⟩:=obs h
 replace q14:=Q0b q14
 have f15:=fun hg=>(hk 2 13 rfl).ret r2 (q14 hg) rfl rfl
 refine seq (seq ?_)
 refine reg hS [(1,vC r2),(48,ab ((((((!decide (r4=0)||!decide (r3=0))||!decide ((r2.length:Int)=1))||!decide (u7.kind_=8))||!decide ((u7.kids_.length:Int)=2))||!decide (r10=9))||!r13))] [] ?_ ?_
 ·clear h hk hS hX c
  exact dh1 (an f9.1 (an f9.2.1 (an pf_15 (an f12 (ap1 13 hpf f15)))))
 refine ik h (fun h=>?_) fun h=>?_
 ·exact Rt h [0]
 refine seq (seq ?_)
 refine Ua3 h [1,5,6] (Zt hk 0 8 ([97,32,124,32,124,32,98]:Str)) fun r17 r18 r19 h=>?_
 refine seq (reg hS [(1,vC r2),(59,ab (!decide (r18=4)||!decide (r19=47)))] [] ?_ ?_)
 ·clear h hk hS hX c
  exact dh
 refine ik h (fun h=>?_) fun h=>?_
 ·exact Rt h [0]
 refine seq (Ua2 h [3,7] (Zt hk 3 17 r2) fun r23 r24 h=>?_)
 refine seq (reg hS [(0,ab (decide (r23=[105,102,40,10,126,32,36,120,32,97,10,41,32,123,10,101,99,104,111,32,39,98,32,99,39,10,125,10])&&decide (r24=0)))] [] ?_ ?_)
 ·clear h hk hS hX c
  exact dh
 exact Rf h
theorem V7n(c:AllG env []):Q0a env (S34 F34):=by
 refine hd c V9m 14 ?_
 rintro O X hS hX hpf hk (d1:Redir) (r:(List Word)) (h:F34 d1=some r)
 refine gs ?_
 rw[F34]at h
 refine R [1] ?_
 refine seq (seq ?_)
 refine reg hS [(1,.ref 0 0),(10,ab (decide (d1.kind_=5)||decide (d1.kind_=6)))] [V16 d1] ?_ ?_
 ·clear h hk hS hX c
  exact dh
 refine ik h (fun h=>?_) fun h=>?_
 ·exact Rt h [2]
 exact seq (reg hS [(2,.full [V20 d1])] [V16 d1] dk (Rf h))
theorem V7y{w16:Y8}{w33:Y9}(c:AllG env [(S33 w33),(S16 w16),(S34 F34)]):Q0a env (S16 (F16 w16 w33)):=by
 refine hd c V1e 59 ?_
 rintro O X hS hX hpf hk (l1:(List Cmd)) (r:Int) (h:F16 w16 w33 l1=some r)
 have pf_33:O.pf 33=true:=pft hpf 33 rfl
 have pf_34:O.pf 34=true:=pft hpf 34 rfl
 refine gs ?_
 rw[F16]at h
 refine R [0] ?_
 refine R [0,3] ?_
 refine seq (R [0,3,4] ?_)
 refine block (Lp h (fun(n3,i4)=>⟨sl [(0,vC l1),(3,ai n3),(4,ai i4)],59,[]⟩) ?_)
 clear h
 rintro⟨n3,i4⟩ m7 h
 rw[Z7b]at h
 try dsimp only at h
 refine AW.st (seq ?_)
 refine R [0,3,4,11] ?_
 refine iz h (fun h=>?_) fun h=>?_
 ·refine skip (seq ?_)
  refine block (seq ?_)
  obtain⟨u9,f11,h⟩:=oc h fun _=>Q0f
  obtain⟨r12,f14,h⟩:=oc h (Zt hk 0 33 u9.words_)
  obtain⟨r15,f17,h⟩:=oc h (Zt hk 1 16 u9.kids_)
  apply dgk mixed hS [0,3,4] (ordp hpf (by kernel_rfl))
  ·exact di1 (an f11.1 (an f11.2.1 (an pf_33 (an (ca f14) (ca f17)))))
  refine R [0,3,4,5] ?_
  refine block (Lp h (fun(n18,k19)=>⟨sl [(0,vC l1),(3,ai n18),(4,ai i4),(5,ai k19)],59,[]⟩) ?_)
  clear h
  rintro⟨n18,k19⟩ m22 h
  rw[J6w]at h
  try dsimp only at h
  refine AW.st (seq ?_)
  refine srg hS [0,3,4,5,43] (di1 (an f11.1 f11.2.1)) ?_
  refine iz h (fun h=>?_) fun h=>?_
  ·obtain⟨u24,f26,h⟩:=oc h fun _=>Q0f
   obtain⟨r27,f29,h⟩:=oc h (Zt hk 2 34 u24)
   obtain⟨r30,f32,h⟩:=oc h (Zt hk 0 33 r27)
   refine skip (seq ?_)
   refine block (rg hS [0,3,4,5] (di1 (an f11.1 (an f11.2.1 (an f26.1 (an f26.2.1 (an pf_34 (an (ca f29) (ca f32)))))))) ?_)
   refine G [0,3,4,5] ?_
   exact nx h
  refine exit (G [0,3,4] ?_)
  exact nx h
 exact exit (Rt h [2])
theorem V7o{w16:Y8}{w33:Y9}(c:AllG env [(S33 w33),(S16 w16)]):Q0a env (S33 (F33 w16 w33)):=by
 refine hd c K8q 29 ?_
 rintro O X hS hX hpf hk (l1:(List Word)) (r:Int) (h:F33 w16 w33 l1=some r)
 have pf_33:O.pf 33=true:=pft hpf 33 rfl
 refine gs ?_
 rw[F33]at h
 refine R [0] ?_
 refine R [0,3] ?_
 refine seq (R [0,3,4] ?_)
 refine block (Lp h (fun(n3,i4)=>⟨sl [(0,vWo l1),(3,ai n3),(4,ai i4)],29,[]⟩) ?_)
 clear h
 rintro⟨n3,i4⟩ m7 h
 rw[X2u]at h
 try dsimp only at h
 refine AW.st (seq ?_)
 refine R [0,3,4,10] ?_
 refine iz h (fun h=>?_) fun h=>?_
 ·refine skip (seq ?_)
  refine block ?_
  obtain⟨u9,f11,h⟩:=oc h fun _=>Q0f
  obtain⟨r12,f14,h⟩:=oc h (Zt hk 0 33 u9.words_)
  obtain⟨r15,f17,h⟩:=oc h (Zt hk 1 16 u9.cmd_)
  apply dgk mixed hS [0,3,4] (ordp hpf (by kernel_rfl))
  ·exact di1 (an f11.1 (an f11.2.1 (an pf_33 (an (ca f14) (ca f17)))))
  refine G [0,3,4] ?_
  exact nx h
 exact exit (Rt h [2])
theorem V7s{w25:Y8}{w61:Y9}(c:AllG env [(S61 w61),(S25 w25),(S34 F34)]):Q0a env (S25 (F25 w25 w61)):=by
 refine hd c K9l 53 ?_
 rintro O X hS hX hpf hk (l1:(List Cmd)) (r:Int) (h:F25 w25 w61 l1=some r)
 have pf_34:O.pf 34=true:=pft hpf 34 rfl
 have pf_61:O.pf 61=true:=pft hpf 61 rfl
 refine gs ?_
 rw[F25]at h
 refine R [0] ?_
 refine R [0,3] ?_
 refine seq (R [0,3,4] ?_)
 refine block (Lp h (fun(n3,i4)=>⟨sl [(0,vC l1),(3,ai n3),(4,ai i4)],53,[]⟩) ?_)
 clear h
 rintro⟨n3,i4⟩ m7 h
 rw[Z6z]at h
 try dsimp only at h
 refine AW.st (seq ?_)
 refine R [0,3,4,10] ?_
 refine iz h (fun h=>?_) fun h=>?_
 ·obtain⟨u9,f11,h⟩:=oc h fun _=>Q0f
  obtain⟨r12,f14,h⟩:=oc h (Zt hk 0 61 u9.words_)
  obtain⟨r15,f17,h⟩:=oc h (Zt hk 1 25 u9.kids_)
  refine skip (seq ?_)
  refine block (seq ?_)
  refine dreg mixed hS (ordp hpf (by kernel_rfl)) [(0,vC l1),(3,ai n3),(4,ai i4),(5,ai (imax r12 r15))] [] ?_ ?_
  ·exact dk1 (an f11.1 (an f11.2.1 (an pf_61 (an (ca f14) (ca f17)))))
  refine seq (R [0,3,4,5,6] ?_)
  refine block (Lp h (fun(d18,k19)=>⟨sl [(0,vC l1),(3,ai n3),(4,ai i4),(5,ai d18),(6,ai k19)],53,[]⟩) ?_)
  clear h
  rintro⟨d18,k19⟩ m22 h
  rw[J6v]at h
  try dsimp only at h
  refine AW.st (seq ?_)
  refine srg hS [0,3,4,5,6,33] (di1 (an f11.1 f11.2.1)) ?_
  refine iz h (fun h=>?_) fun h=>?_
  ·obtain⟨u24,f26,h⟩:=oc h fun _=>Q0f
   obtain⟨r27,f29,h⟩:=oc h (Zt hk 2 34 u24)
   obtain⟨r30,f32,h⟩:=oc h (Zt hk 0 61 r27)
   refine skip (seq ?_)
   refine block (reg hS [(0,vC l1),(3,ai n3),(4,ai i4),(5,ai (imax d18 r30)),(6,ai k19)] [] (dk1 (an f11.1 (an f11.2.1 (an f26.1 (an f26.2.1 (an pf_34 (an (ca f29) (ca f32)))))))) ?_)
   refine G [0,3,4,5,6] ?_
   exact nx h
  refine exit (reg hS [(0,vC l1),(3,ai (imax n3 (IntKind.wrap .i64 (1+d18)))),(4,ai i4)] [] dk ?_)
  refine G [0,3,4] ?_
  exact nx h
 exact exit (Rt h [2])
theorem V7e{w25:Y8}{w61:Y9}(c:AllG env [(S61 w61),(S25 w25)]):Q0a env (S61 (F61 w25 w61)):=by
 refine hd c K8o 28 ?_
 rintro O X hS hX hpf hk (l1:(List Word)) (r:Int) (h:F61 w25 w61 l1=some r)
 have pf_61:O.pf 61=true:=pft hpf 61 rfl
 refine gs ?_
 rw[F61]at h
 refine R [0] ?_
 refine R [0,3] ?_
 refine seq (R [0,3,4] ?_)
 refine block (Lp h (fun(n3,i4)=>⟨sl [(0,vWo l1),(3,ai n3),(4,ai i4)],28,[]⟩) ?_)
 clear h
 rintro⟨n3,i4⟩ m7 h
 rw[X2s]at h
 try dsimp only at h
 refine AW.st (seq ?_)
 refine R [0,3,4,8] ?_
 refine iz h (fun h=>?_) fun h=>?_
 ·obtain⟨u9,f11,h⟩:=oc h fun _=>Q0f
  obtain⟨r12,f14,h⟩:=oc h (Zt hk 0 61 u9.words_)
  obtain⟨r15,f17,h⟩:=oc h (Zt hk 1 25 u9.cmd_)
  refine skip (seq ?_)
  refine block (dreg mixed hS (ordp hpf (by kernel_rfl)) [(0,vWo l1),(3,ai (imax n3 (IntKind.wrap .i64 (1+(imax r12 r15))))),(4,ai i4)] [] ?_ ?_)
  ·exact dk1 (an f11.1 (an f11.2.1 (an pf_61 (an (ca f14) (ca f17)))))
  refine G [0,3,4] ?_
  exact nx h
 exact exit (Rt h [2])
end Go.Abs.U48
