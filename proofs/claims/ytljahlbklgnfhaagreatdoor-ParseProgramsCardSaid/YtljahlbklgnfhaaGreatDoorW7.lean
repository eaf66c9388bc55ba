import Derived.Test.YtljahlbklgnfhaaGreatDoorD1
set_option linter.unusedVariables false
set_option linter.unusedSimpArgs false
set_option linter.defProp false
set_option maxRecDepth 8000
set_option maxHeartbeats 4000000
namespace Go.Abs.U48
open Go.RowKit Go.Proofs AW
theorem K5j(c:AllG env [S190,S103]):Q0a env S152:=by
 refine hd c K9x 54 fun O X hS hX hpf hk ⟨w1,b2,l3⟩=>fun r (h:F152 w1 b2 l3=some r)=>gs ?_
 rw[F152]at h
 refine R [0,3] ?_
 refine R [0,3,5] ?_
 refine block (R [0,3,5,6] ?_)
 refine iz h (fun h=>?_) fun h=>?_
 ·refine Ua1 h [] (Z3 hk 0 rfl) fun o6 h=>?_
  cases h
  exact fin
 refine R [0,3,11] ?_
 refine iz h (fun h=>?_) fun h=>?_
 ·refine Ua1 h [] (Z3 hk 1 rfl) fun o11 h=>?_
  cases h
  exact fin
 cases h
theorem K6i(c:AllG env [S103,S152,S105]):Q0a env S106:=by
 refine hd c V1c 45 fun O X hS hX hpf hk ⟨c1,b2,l3⟩=>fun r (h:F106 c1 b2 l3=some r)=>gs ?_
 rw[F106]at h
 refine R [0,3] ?_
 refine seq (R [0,3,8,9,10] ?_)
 refine block (Lp h (fun(i5,l6)=>⟨sl [(0,.ref 0 0),(3,.ref 1 0),(8,vWo c1.words_),(9,ai (c1.words_.length:Int)),(10,ai i5)],45,[.prn 5 l6 51 9 (List.map Redir.pv l3),V9 c1]⟩) ?_)
 clear h
 rintro⟨i5,l6⟩ m9 h
 rw[X2z]at h
 try dsimp only at h
 refine AW.st (R [0,3,8,9,10,11] ?_)
 refine seq (iz h (fun h=>?_) fun h=>?_)
 ·obtain⟨u11,f13,h⟩:=oc h fun _=>Q0j
  refine skip (seq ?_)
  refine block (seq ?_)
  refine rg hS [0,3,4,5,8,9,10] (di1 (an f13.1 f13.2.1)) ?_
  refine seq (R [0,3,5,8,9,10,16] ?_)
  refine ik h (fun h=>?_) fun h=>?_
  ·refine Ua1 h [0,3,5,8,9,10] (Z3 hk 0 rfl) fun o15 h=>?_
   refine Ua1 h [0,3,8,9,10] (Z3 hk 1 rfl) fun o19 h=>?_
   refine G [0,3,8,9,10] ?_
   exact nx h
  refine Ua1 h [0,3,8,9,10] (Z3 hk 1 rfl) fun o23 h=>?_
  refine G [0,3,8,9,10] ?_
  exact nx h
 refine exit (R [0,3,6] ?_)
 refine seq (seq ?_)
 refine reg hS [(0,.ref 0 0),(6,vRe c1.redirs_),(34,ab (decide ((c1.words_.length:Int)=0)&&decide (0<(c1.redirs_.length:Int))))] [.prn 5 l6 51 9 (List.map Redir.pv l3),V9 c1] ?_ ?_
 ·clear h hk hS hX c
  exact dh
 refine ik h (fun h=>?_) fun h=>?_
 ·cases h
 refine Ua1 h [] (Z3 hk 2 rfl) fun _ h=>?_
 cases h
 exact fin
theorem K5i(c:AllG env [S103,S152]):Q0a env S153:=by
 refine hd c K9w 19 fun O X hS hX hpf hk ⟨l1,b2,l3⟩=>fun r (h:F153 l1 b2 l3=some r)=>gs ?_
 rw[F153]at h
 refine R [0,6,7,8] ?_
 refine block (Lp h (fun(i5,l6)=>⟨sl [(0,.ref 0 0),(6,vWo l1),(7,ai (l1.length:Int)),(8,ai i5)],19,[.prn 5 l6 51 9 (List.map Redir.pv l3)]⟩) ?_)
 clear h
 rintro⟨i5,l6⟩ m9 h
 rw[X2v]at h
 try dsimp only at h
 refine AW.st (R [0,6,7,8,9] ?_)
 refine seq (iz h (fun h=>?_) fun h=>?_)
 ·obtain⟨u11,f13,h⟩:=oc h fun _=>Q0j
  refine skip (seq ?_)
  refine block (seq ?_)
  refine rg hS [0,5,6,7,8] (di1 (an f13.1 f13.2.1)) ?_
  refine seq (Ua1 h [0,5,6,7,8] (Z3 hk 0 rfl) fun o14 h=>?_)
  refine Ua1 h [0,6,7,8] (Z3 hk 1 rfl) fun o18 h=>?_
  refine G [0,6,7,8] ?_
  exact nx h
 exact ex h
theorem K6h{w66:Y5}(c:AllG env [S104 w66,S66 w66,S103,S153]):Q0a env (S107 w66):=by
 refine hd c V1b 107 fun O X hS hX hpf hk ⟨c1,b2,l3⟩=>fun r (h:F107 w66 c1 b2 l3=some r)=>gs ?_
 rw[F107]at h
 refine R [0,3] ?_
 refine R [0,3,5] ?_
 refine block (R [0,3,5,6] ?_)
 refine iz h (fun h=>?_) fun h=>?_
 ·cases h
 refine R [0,3,5,30] ?_
 refine iz h (fun h=>?_) fun h=>?_
 ·obtain⟨u8,f10,h⟩:=oc h fun _=>Q0j
  try simp only[NRM,Int.reduceToNat]at f10
  obtain⟨⟨o11,m12⟩,f14,h⟩:=oc h (Z5 hk 0 rfl)
  replace f14:=cb f14
  try simp only[PVE]at f14
  refine seq (rg hS [0,3] (di1 (an f10.1 (an f10.2.1 f14))) ?_)
  obtain⟨u16,f18,h⟩:=oc h fun _=>Q0j
  try simp only[NRM,Int.reduceToNat]at f18
  obtain⟨⟨r19,r20⟩,f22,h⟩:=oc h (Z3 hk 1 rfl)
  refine rg hS [] (di1 (an f18.1 (an f18.2.1 (cb f22)))) ?_
  cases h
  exact fin
 refine R [0,3,5,45] ?_
 refine iz h (fun h=>?_) fun h=>?_
 ·cases h
 refine R [0,3,5,60] ?_
 refine iz h (fun h=>?_) fun h=>?_
 ·cases h
 refine R [0,3,5,78] ?_
 refine iz h (fun h=>?_) fun h=>?_
 ·cases h
 refine R [0,3,5,83] ?_
 refine iz h (fun h=>?_) fun h=>?_
 ·cases h
 refine R [0,3,98] ?_
 refine iz h (fun h=>?_) fun h=>?_
 ·refine seq (Ua1 h [0,3] (Z3 hk 2 rfl) fun o29 h=>?_)
  refine Ua1 h [] (Z3 hk 3 rfl) fun o33 h=>?_
  cases h
  exact fin
 cases h
theorem V5t{w66:Y5}(c:AllG env [S104 w66,S105,S106,S107 w66]):Q0a env (S66 (F66 w66)):=by
 refine hd c K6z 78 fun O X hS hX hpf hk ⟨c1,b2,l3⟩=>fun r (h:F66 w66 c1 b2 l3=some r)=>gs ?_
 rw[F66]at h
 refine R [0,3] ?_
 refine R [0,3,5] ?_
 refine block (R [0,3,5,9] ?_)
 refine iz h (fun h=>?_) fun h=>?_
 ·cases h
 refine R [0,3,5,18] ?_
 refine iz h (fun h=>?_) fun h=>?_
 ·cases h
 refine R [0,3,5,24] ?_
 refine iz h (fun h=>?_) fun h=>?_
 ·cases h
 refine R [0,3,5,30] ?_
 refine iz h (fun h=>?_) fun h=>?_
 ·cases h
 refine R [0,3,5,36] ?_
 refine iz h (fun h=>?_) fun h=>?_
 ·cases h
 refine R [0,3,5,45] ?_
 refine iz h (fun h=>?_) fun h=>?_
 ·cases h
 refine R [0,3,5,54] ?_
 refine iz h (fun h=>?_) fun h=>?_
 ·cases h
 refine R [0,3,5,63] ?_
 refine iz h (fun h=>?_) fun h=>?_
 ·refine seq (Ua2 h [0,3] (Z5 hk 0 rfl) fun o14 m15 h=>?_)
  refine Ua1 h [] (Z3 hk 1 rfl) fun _ h=>?_
  cases h
  exact fin
 refine R [0,3,73] ?_
 refine iz h (fun h=>?_) fun h=>?_
 ·refine Ua1 h [] (Z3 hk 2 rfl) fun o23 h=>?_
  cases h
  exact fin
 refine Ua2 h [] (Z3 hk 3 rfl) fun o27 m28 h=>?_
 cases h
 exact fin
theorem V6x(c:AllG env [S13,S35 (K66 BIG),S36]):Q0a env S17:=by
 refine hd c V9m 12 ?_
 rintro O X hS hX hpf hk (l1:(List Cmd)) (r:Str×Int) (h:F17 l1=some r)
 refine gs ?_
 rw[F17]at h
 refine R [0] ?_
 refine seq (seq ?_)
 refine Ua1 h [0,7] (Zt hk 0 13 l1) fun r4 h=>?_
 refine ik h (fun h=>?_) fun h=>?_
 ·cases h
 refine seq ?_
 apply rg hS [0,4]
 ·simp -implicitDefEqProofs only[RUNS,Q1b,Nat.reduceAdd,Nat.reduceLeDiff,Nat.reduceSub,reduceIte,Nat.reduceEqDiff,Nat.reduceLT,reduceCtorEq,Nat.reduceMul,Nat.reduceBEq,Int.reduceEq,Int.reduceToNat,Int.toNat_zero,Nat.sub_zero,if_true,if_false,eq_self,ne_eq,Q3h,Q2m,Q2b,TYS,X6i];exact⟨rfl,rfl⟩
 obtain⟨⟨o8,m9⟩,q10,h⟩:=obs h
 dsimp only at h
 have f11:=hk 1 35 rfl
 replace f11:=f11.ret (l1,([]:Str),(([]:List Redir):List Redir)) q10 rfl rfl
 try simp only[PVE]at f11
 have e12:Q0v O [.prn 5 [] 51 9 (List.map Redir.pv ([]:List Redir))] 35 [.ref 0 0,vC l1]=some (Q1a [],[.prn 5 o8 51 9 (List.map Redir.pv m9)]):=Q0i rfl rfl rfl f11 rfl rfl rfl
 try simp only[List.length_nil,List.map_nil]at e12
 refine seq (rg hS [4] (di1 (ap0 35 hpf e12)) ?_)
 refine seq (Ua1 h [2,3] (Z2 hk 2 rfl) fun r13 h=>?_)
 exact Rf h
theorem g_F7(c:AllG env [S8,S15 (K15 BIG),S13,S17]):Q0a env (S7 F7):=by
 refine hd c fn_7 71 ?_
 rintro O X hS hX hpf hk ⟨⟩ (r:Bool) (h:F7=some r)
 have pf_15:O.pf 15=true:=pft hpf 15 rfl
 refine gs ?_
 rw[F7]at h
 refine R [] ?_
 refine seq (Ua3 h [1,2,3] (Zt hk 0 8 ([105,102,40,126,32,36,120,32,97,41,123,101,99,104,111,32,39,98,32,99,39,125]:Str)) fun r2 r3 r4 h=>?_)
 obtain⟨u7,f9,h⟩:=oc h fun _ q=>J4e (Q0d q)
 try simp only[NRM,Int.reduceToNat]at f9
 obtain⟨r10,q11,h⟩:=obs h
 have f12:=hk 1 15 rfl
 replace q11:=Q0d q11
 replace f12:=fun hg=>f12.ret r2 (q11 hg) rfl rfl
 obtain⟨r13,q14,h⟩:=obs h
 replace q14:=Q0d q14
 have f15:=fun hg=>(hk 2 13 rfl).ret r2 (q14 hg) rfl rfl
 refine seq (seq ?_)
 refine reg hS [(1,vC r2),(48,ab ((((((!decide (r4=0)||!decide (r3=0))||!decide ((r2.length:Int)=1))||!decide (u7.kind_=8))||!decide ((u7.kids_.length:Int)=2))||!decide (r10=9))||!r13))] [] ?_ ?_
 ·clear h hk hS hX c
  exact dh1 (an f9.1 (an f9.2.1 (an pf_15 (an f12 (ap1 13 hpf f15)))))
 refine ik h (fun h=>?_) fun h=>?_
 ·exact Rt h [0]
 refine seq (seq ?_)
 refine Ua3 h [1,5,6] (Zt hk 0 8 ([97,32,124,32,124,32,98]:Str)) fun r17 r18 r19 h=>?_
 refine seq (reg hS [(1,vC r2),(59,ab (!decide (r18=4)||!decide (r19=47)))] [] ?_ ?_)
 ·clear h hk hS hX c
  exact dh
 refine ik h (fun h=>?_) fun h=>?_
 ·exact Rt h [0]
 refine seq (Ua2 h [3,7] (Zt hk 3 17 r2) fun r23 r24 h=>?_)
 refine seq (reg hS [(0,ab (decide (r23=[105,102,40,10,126,32,36,120,32,97,10,41,32,123,10,101,99,104,111,32,39,98,32,99,39,10,125,10])&&decide (r24=0)))] [] ?_ ?_)
 ·clear h hk hS hX c
  exact dh
 exact Rf h
theorem K5t(c:AllG env []):Q0a env S135:=by
 refine hd c V0h 33 ?_
 rintro O X hS hX hpf hk (c1:Int) (r:Bool) (h:F135 c1=some r)
 refine gs ?_
 rw[F135]at h
 refine R [0] ?_
 refine seq (reg hS [(2,ab (((((decide (97≤c1)&&decide (c1≤122))||(decide (65≤c1)&&decide (c1≤90)))||(decide (48≤c1)&&decide (c1≤57)))||decide (c1=95))||decide (c1=42)))] [] ?_ ?_)
 ·clear h hk hS hX c
  exact dh
 exact Rf h
theorem V6b(c:AllG env []):Q0a env S53:=by
 refine hd c V8q 15 fun O X hS hX hpf hk ⟨xat1,xend2,xname3,xe4,xoff5,e6,off7,l8,l9⟩=>fun r (h:F53 xat1 xend2 xname3 xe4 xoff5 e6 off7 l8 l9=some r)=>gs ?_
 rw[F53]at h
 refine R [1,2,3,6] ?_
 refine seqM ⟨sl [(3,.ref 2 0),(6,.ref 3 0)],15,[rTo l8,rSt l9,V22 xat1 l8.length xend2 xname3 l9.length (bif decide (xe4=0)then e6 else xe4) (bif decide (xe4=0)then off7 else xoff5),V23 0 0 false 0 0]⟩ ?_ ?_
 ·refine R [1,2,3,6,9] ?_
  refine cond (b:=decide (xe4=0)) rfl (fun hb15=>?_) (fun hb15=>?_)
  ·refine R [2,3,6] ?_
   refine G [3,6] ?_
   exact Weak.of_eq (Weak.slots (L:=[(3,.ref 2 0),(6,.ref 3 0)]) kp) (wq hb15)
  exact skip (Weak.of_eq (Weak.slots (L:=[(3,.ref 2 0),(6,.ref 3 0)]) kp) (wq hb15))
 exact Rt h [6]
theorem V5d(c:AllG env [S53]):Q0a env S89:=by
 refine hd c V7p 20 fun O X hS hX hpf hk ⟨xat1,xend2,xname3,xe4,xoff5,t6,l7,l8⟩=>fun r (h:F89 xat1 xend2 xname3 xe4 xoff5 t6 l7 l8=some r)=>gs ?_
 rw[F89]at h
 refine R [2,3,4] ?_
 refine seq (R [2,3,4,8] ?_)
 refine ik h (fun h=>?_) fun h=>?_
 ·obtain⟨⟨at16,end17,name18,e19,off20⟩,q21,h⟩:=obs h
  dsimp only at h
  have f22:=(hk 0 53 rfl).ret (xat1,xend2,xname3,xe4,xoff5,4,t6.at_,l7,l8) q21 rfl rfl
  have e23:Q0v O [rTo l7,rSt l8,V22 xat1 l7.length xend2 xname3 l8.length xe4 xoff5,V1 t6,V23 0 0 false 0 0] 53 [.agg [ai xat1,.vec 0 (List.length l7),ai xend2,ab xname3,.vec 1 (List.length l8),ai xe4,ai xoff5],ai 4,ai t6.at_]=some (Q1a [.agg [ai at16,.vec 0 (List.length l7),ai end17,ab name18,.vec 1 (List.length l8),ai e19,ai off20]],[rTo l7,rSt l8,V22 xat1 l7.length xend2 xname3 l8.length xe4 xoff5,V1 t6,V23 0 0 false 0 0]):=Q0i rfl rfl rfl f22 rfl rfl rfl
  refine seq (rg hS [4] (di1 (ap0 53 hpf e23)) ?_)
  exact Rf h
 replace h:=ap Token.pv h;obtain⟨out24,f26,h⟩:=h
 refine seq (rg hS [2,4] (di1 f26) ?_)
 exact Rt h [4]
theorem V5f(c:AllG env [S135,S53,S89]):Q0a env S87:=by
 refine hd c V7r 48 fun O X hS hX hpf hk ⟨s1,xat2,xend3,xname4,xe5,xoff6,l7,l8⟩=>fun r (h:F87 s1 xat2 xend3 xname4 xe5 xoff6 l7 l8=some r)=>gs ?_
 rw[F87]at h
 refine R [0,3,4] ?_
 refine R [0,3,4,5] ?_
 refine R [0,3,4,5,6] ?_
 refine seq (block ?_)
 refine Lp h (fun(to15,marks16)=>⟨sl [(0,as_ s1),(3,.ref 2 0),(4,.ref 3 0),(5,ai to15),(6,as_ marks16)],48,[rTo l7,rSt l8,V22 xat2 l7.length xend3 xname4 l8.length xe5 xoff6,V23 0 0 false 0 0]⟩) ?_
 clear h
 rintro⟨to15,marks16⟩ m19 h
 rw[X7e]at h
 try dsimp only at h
 obtain⟨c20,f22,h⟩:=oc h fun _ q=>Q1s (Q0d q)
 obtain⟨r23,q24,h⟩:=obs h
 replace q24:=Q0d q24
 have f25:=fun hg=>(hk 0 135 rfl).ret c20 (q24 hg) rfl rfl
 refine AW.st (seq ?_)
 refine seq (reg hS [(0,as_ s1),(3,.ref 2 0),(4,.ref 3 0),(5,ai to15),(6,as_ marks16),(18,ab (decide (to15<(s1.length:Int))&&r23))] [rTo l7,rSt l8,V22 xat2 l7.length xend3 xname4 l8.length xe5 xoff6,V23 0 0 false 0 0] ?_ ?_)
 ·clear h hk hS hX c
  exact dh1 (an f22.1 (an f22.2.1 (an f22.2.2 (ap1 135 hpf f25))))
 refine iz h (fun h=>?_) fun h=>?_
 ·refine skip (block ?_)
  refine R [0,3,4,5,6] ?_
  obtain⟨s27,f29,h⟩:=oc h fun _=>Q5z
  try simp only[LNS,List.length_replicate,Nat.reduceAdd,Nat.reduceLeDiff,Nat.add_zero,Nat.reduceMul]at f29
  refine rg hS [0,3,4,5,6] (di1 (an f29.1 f29.2)) ?_
  exact nx h
 refine exit (seq ?_)
 refine R [0,3,4,5,6,26] ?_
 refine ik h (fun h=>?_) fun h=>?_
 ·obtain⟨⟨at31,end32,name33,e34,off35⟩,q36,h⟩:=obs h
  dsimp only at h
  have f37:=(hk 1 53 rfl).ret (xat2,xend3,xname4,xe5,xoff6,47,xat2,l7,l8) q36 rfl rfl
  have e38:Q0v O [rTo l7,rSt l8,V22 xat2 l7.length xend3 xname4 l8.length xe5 xoff6,V23 0 0 false 0 0] 53 [.agg [ai xat2,.vec 0 (List.length l7),ai xend3,ab xname4,.vec 1 (List.length l8),ai xe5,ai xoff6],ai 47,ai xat2]=some (Q1a [.agg [ai at31,.vec 0 (List.length l7),ai end32,ab name33,.vec 1 (List.length l8),ai e34,ai off35]],[rTo l7,rSt l8,V22 xat2 l7.length xend3 xname4 l8.length xe5 xoff6,V23 0 0 false 0 0]):=Q0i rfl rfl rfl f37 rfl rfl rfl
  refine seq (rg hS [4] (di1 (ap0 53 hpf e38)) ?_)
  exact Rf h
 refine seq ?_
 obtain⟨t39,f41,h⟩:=oc h fun _=>Q0p
 try simp only[NRM,Int.reduceToNat]at f41
 have f41e:=f41.2.2.2.2
 try simp only[NRM,Int.reduceToNat]at f41e
 have f41l:=f41.2.2.1
 try simp only[NRM,Int.reduceToNat]at f41l
 obtain⟨⟨at42,end43,name44,e45,off46,o47⟩,q48,h⟩:=obs h
 dsimp only at h
 have f49:=(hk 2 89 rfl).ret (xat2,xend3,xname4,xe5,xoff6,Token.mk 1 xat2 t39 marks16,l7,l8) q48 rfl rfl
 have e50:Q0v O [rTo l7,rSt l8,V22 xat2 l7.length xend3 xname4 l8.length xe5 xoff6,V23 0 0 false 0 0] 89 [.agg [ai xat2,.vec 0 (List.length l7),ai xend3,ab xname4,.vec 1 (List.length l8),ai xe5,ai xoff6],.pv (V2 1 xat2 t39 marks16)]=some (Q1a [.agg [ai at42,.vec 0 (List.length o47),ai end43,ab name44,.vec 1 (List.length l8),ai e45,ai off46]],[rTo o47,rSt l8,V22 xat2 l7.length xend3 xname4 l8.length xe5 xoff6,V23 0 0 false 0 0]):=Q0i rfl rfl rfl f49 rfl rfl rfl
 apply dgB mixed hS [(3,some 2),(32,some 2),(35,some 2)] [3,4,5] rfl (ordB hpf (B:=[(3,some 2),(32,some 2),(35,some 2)]) (by kernel_rfl))
 ·exact di1 (an f41.1 (an f41.2.1 (an f41l (an f41.2.2.2.1 (an f41e (ap0 89 hpf e50))))))
 refine R [3,4,5] ?_
 refine R [3,4] ?_
 refine R [3,4] ?_
 exact Rt h [4]
end Go.Abs.U48
