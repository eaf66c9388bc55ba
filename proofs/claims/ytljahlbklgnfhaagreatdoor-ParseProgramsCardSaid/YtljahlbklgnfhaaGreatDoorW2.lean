import Derived.Test.YtljahlbklgnfhaaGreatDoorD1
set_option linter.unusedVariables false
set_option linter.unusedSimpArgs false
set_option linter.defProp false
set_option maxRecDepth 8000
set_option maxHeartbeats 4000000
namespace Go.Abs.U48
open Go.RowKit Go.Proofs AW
theorem V5n(c:AllG env [Q0x,J7o]):Q0a env S78:=by
 refine hd c V7y 43 fun O X hS hX hpf hk ⟨t1,touches2,x3,x4,x5,x6,x7,l8,l9⟩=>fun r (h:F78 t1 touches2 x3 x4 x5 x6 x7 l8 l9=some r)=>gs ?_
 rw[F78]at h
 refine R [0,2,4] ?_
 obtain⟨c14,f16,h⟩:=oc h fun _ q=>Q1s (Q0d q)
 try simp only[NRM,Int.reduceToNat]at f16
 obtain⟨n17,q18,h⟩:=obs h
 replace q18:=Q0d q18
 have f19:=fun hg=>(hk 0 40 rfl).ret (([36,96]:Str),c14) (q18 hg) rfl rfl
 try simp only[PVE]at f19
 refine seq (reg hS [(0,.ref 0 0),(2,ab touches2),(4,.ref 3 0),(7,ab (decide (t1.kind_=1)||((decide (t1.kind_=2)&&!decide (t1.text_=[]))&&decide (0≤n17))))] [V0 x3 x4 l8.length l9.length x5 x6 x7,rTo l8,rSt l9,V1 t1] ?_ ?_)
 ·clear h hk hS hX c
  exact dh1 (an f16.1 (an f16.2.1 (an f16.2.2 (ap1 40 hpf f19))))
 refine seq (seq ?_)
 rcases bs h with⟨hsp3,h⟩|⟨hsp3,h⟩
 ·try simp only[Bool.and_eq_true,Bool.or_eq_false_iff]at hsp3
  obtain⟨⟨r20,x21,x22,o23⟩,f25,h⟩:=oc h (Z8 hk 1 rfl)
  replace f25:=cd f25
  try simp only[PVE]at f25
  refine reg hS [(0,.ref 0 0),(4,.ref 3 0),(39,ab (!r20))] [V0 x3 x4 o23.length l9.length x5 x21 x22,rTo o23,rSt l9,V1 t1] ?_ ?_
  ·clear h hk hS hX c
   exact dh1 (an hsp3 f25)
  refine ik h (fun h=>?_) fun h=>?_
  ·exact Rt h [6]
  refine seq (Ua4 h [6] (Z8 hk 1 rfl) fun r28 x29 x30 o31 h=>?_)
  exact Rf h
 try simp only[Bool.and_eq_true,Bool.or_eq_false_iff]at hsp3
 refine reg hS [(0,.ref 0 0),(4,.ref 3 0),(39,ab false)] [V0 x3 x4 l8.length l9.length x5 x6 x7,rTo l8,rSt l9,V1 t1] ?_ ?_
 ·clear h hk hS hX c
  exact dh1 hsp3
 refine cF (skip (seq ?_))
 refine Ua4 h [6] (Z8 hk 1 rfl) fun r21 x22 x23 o24 h=>?_
 exact Rf h
theorem K6b(c:AllG env []):Q0a env S126:=by
 refine hd c V0q 33 ?_
 rintro O X hS hX hpf hk (c1:Int) (r:Bool) (h:F126 c1=some r)
 refine gs ?_
 rw[F126]at h
 refine R [0] ?_
 refine seq (reg hS [(2,ab (((((decide (97≤c1)&&decide (c1≤122))||(decide (65≤c1)&&decide (c1≤90)))||(decide (48≤c1)&&decide (c1≤57)))||decide (c1=95))||decide (c1=42)))] [] ?_ ?_)
 ·clear h hk hS hX c
  exact dh
 exact Rf h
theorem V5m(c:AllG env [S126,J1a,Z0q,J7o]):Q0a env S79:=by
 refine hd c V7x 65 fun O X hS hX hpf hk ⟨x1,x2,x3,x4,x5,l6,l7⟩=>fun r (h:F79 x1 x2 x3 x4 x5 l6 l7=some r)=>gs ?_
 rw[F79]at h
 refine R [0] ?_
 refine R [0,3] ?_
 refine seq (block ?_)
 refine Lp h (fun x13=>⟨sl [(0,.ref 0 0),(3,ai x2)],65,[V0 x1 x13 l6.length l7.length x3 x4 x5,rTo l6,rSt l7]⟩) ?_
 clear h
 rintro x13 m16 h
 rw[X7f]at h
 try dsimp only at h
 obtain⟨c17,f19,h⟩:=oc h fun _ q=>Q1s (Q0d q)
 obtain⟨r20,q21,h⟩:=obs h
 replace q21:=Q0d q21
 have f22:=fun hg=>(hk 0 126 rfl).ret c17 (q21 hg) rfl rfl
 refine AW.st (seq ?_)
 refine seq (dreg mixed hS (ordp hpf (by kernel_rfl)) [(0,.ref 0 0),(3,ai x2),(30,ab (decide (x13<(x1.length:Int))&&r20))] [V0 x1 x13 l6.length l7.length x3 x4 x5,rTo l6,rSt l7] ?_ ?_)
 ·clear h hk hS hX c
  exact dh1 (an f19.1 (an f19.2.1 (an f19.2.2 (ap1 126 hpf f22))))
 refine iz h (fun h=>?_) fun h=>?_
 ·refine skip (block ?_)
  refine G [0,3] ?_
  exact nx h
 refine exit (seq ?_)
 refine R [0,3,43] ?_
 refine ik h (fun h=>?_) fun h=>?_
 ·refine seq (Ua3 h [2] (Z9 hk 1 rfl) fun r25 x26 x27 h=>?_)
  exact Rf h
 refine seq ?_
 obtain⟨t31,f33,h⟩:=oc h fun _=>Q0p
 try simp only[NRM,Int.reduceToNat]at f33
 have f33e:=f33.2.2.2.2
 try simp only[NRM,Int.reduceToNat]at f33e
 have f33l:=f33.2.2.1
 try simp only[NRM,Int.reduceToNat]at f33l
 apply dgk mixed hS [0,3,4] (ordp hpf (by kernel_rfl))
 ·exact di1 (an f33.1 (an f33.2.1 (an f33l (an f33.2.2.2.1 f33e))))
 obtain⟨t34,f36,h⟩:=oc h (Zt2 hk 2 rfl)
 replace f36:=ca f36
 try simp only[PVE]at f36
 obtain⟨⟨r37,x38,x39,o40⟩,f42,h⟩:=oc h (Z8 hk 3 rfl)
 refine seq (rg hS [2] (di1 (an f36 (cd f42))) ?_)
 exact Rf h
theorem V6i(c:AllG env [S76,S77,S78,S79,X5b]):Q0a env S44:=by
 refine hd c V8w 64 fun O X hS hX hpf hk ⟨x1,x2,x3,x4,x5,l6,l7⟩=>fun r (h:F44 x1 x2 x3 x4 x5 l6 l7=some r)=>gs ?_
 rw[F44]at h
 refine R [0] ?_
 refine R [0,3] ?_
 refine seq (Ua1 h [0,3,4] (Z7 hk 0 rfl) fun r13 h=>?_)
 refine seq (Ua4 h [0,3,4,5,6] (Z7 hk 1 rfl) fun r17 r18 x19 x20 h=>?_)
 refine seq (R [0,3,4,5,21] ?_)
 refine ik h (fun h=>?_) fun h=>?_
 ·exact Rt h [2]
 refine seq (R [0,3,4,5,23] ?_)
 refine ik h (fun h=>?_) fun h=>?_
 ·refine R [0,3,4,5] ?_
  refine seq (seq ?_)
  refine Ua4 h [0,5,39] (Z9 hk 2 rfl) fun r26 x27 x28 o29 h=>?_
  refine ik h (fun h=>?_) fun h=>?_
  ·exact Rt h [2]
  refine seq (seq ?_)
  refine reg hS [(0,.ref 0 0),(45,ab (decide (r17=[36])||decide (r17=[36,35])))] [V0 x1 (IntKind.wrap .i64 (x2+(r17.length:Int))) o29.length l7.length x3 x27 x28,rTo o29,rSt l7] ?_ ?_
  ·clear h hk hS hX c
   exact dh
  refine ik h (fun h=>?_) fun h=>?_
  ·refine seq (Ua5 h [2] (Z7 hk 3 rfl) fun r35 x36 x37 x38 o39 h=>?_)
   exact Rf h
  exact Rt h [2]
 refine seq (Ua6 h [0,3,4,6,7,8] (Z7 hk 4 rfl) fun r43 r44 r45 x46 x47 x48 h=>?_)
 refine seq ?_
 rcases bs h with⟨hsp5,h⟩|⟨hsp5,h⟩
 ·obtain⟨⟨r52,x53,x54,o55⟩,f57,h⟩:=oc h (Z9 hk 2 rfl)
  exact rg hS [2] (di1 (an hsp5 (cd f57))) (Rf h)
 exact rg hS [2] (di1 hsp5) (Rf h)
theorem V6w(c:AllG env [X5d,J1b,Q0x,K0j,S42,K0i,S44]):Q0a env S19:=by
 refine hd c V9l 94 ?_
 rintro O X hS hX hpf hk (s1:Str) (r:(List Token)×Int×Int) (h:F19 s1=some r)
 refine gs ?_
 rw[F19]at h
 refine R [0] ?_
 refine seq (R [0,10] ?_)
 refine ik h (fun h=>?_) fun h=>?_
 ·exact Rt h [2,3,4]
 refine seq (AW.after ?_)
 refine rg hS [0,5] di ?_
 refine o2 (oC Token.pv 0 2 87 4 ?_)
 refine oC PV.str 0 3 9 1 ?_
 refine seq (block ?_)
 refine Lp h (fun(x6,x7,x8,x9,l10,l11)=>⟨sl [(0,as_ s1),(5,.ref 0 0)],94,[V0 s1 x6 l10.length l11.length x7 x8 x9,rTo l10,rSt l11]⟩) ?_
 clear h
 rintro⟨x6,x7,x8,x9,l10,l11⟩ m14 h
 rw[X7p]at h
 try dsimp only at h
 refine AW.st (seq ?_)
 refine R [0,5,18] ?_
 refine iz h (fun h=>?_) fun h=>?_
 ·refine skip (block ?_)
  refine R [0,5] ?_
  refine seq (Ua1 h [0,5] (Z7 hk 0 rfl) fun x16 h=>?_)
  refine seq (Ua1 h [0,5,6] (Z7 hk 1 rfl) fun r20 h=>?_)
  refine block (R [0,5,6,32] ?_)
  refine iz h (fun h=>?_) fun h=>?_
  ·refine seq (R [0,5,40] ?_)
   refine ik h (fun h=>?_) fun h=>?_
   ·exact Rt h [2,3,4]
   exact Rt h [2,3,4]
  obtain⟨c26,f28,h⟩:=oc h fun _=>Q1t
  try simp only[NRM,Int.reduceToNat]at f28
  refine seq (rg hS [0,5,6,47] (di1 (an f28.1 (an f28.2.1 f28.2.2))) ?_)
  refine iz h (fun h=>?_) fun h=>?_
  ·refine R [0,5,6] ?_
   refine seq (Ua1 h [0,5,6,7] (Zt2 hk 2 rfl) fun n30 h=>?_)
   refine R [0,5,6,7,63] ?_
   refine ik h (fun h=>?_) fun h=>?_
   ·refine G [0,5] ?_
    exact nx h
   exact nx h
  refine srg hS [0,5,6,75] (di1 (an f28.1 (an f28.2.1 f28.2.2))) ?_
  refine iz h (fun h=>?_) fun h=>?_
  ·obtain⟨⟨tag35,r36,x37,x38,x39,o40⟩,q41,h⟩:=obs h
   dsimp only at h
   refine AW.cases (tag35) (fun hsp8=>?_) (fun hsp8=>?_)
   ·subst hsp8
    replace h:=K0b rfl h
    have f42:=(hk 3 41 rfl).ret (s1,x16,x6,x8,x9,l10,l11) q41 rfl rfl
    simp only[cond_true,cond_false]at f42
    have e43:Q0v O [V0 s1 x16 l10.length l11.length x6 x8 x9,rTo l10,rSt l11] 41 [.ref 0 0]=some (Q1a [ab r36],[V3 s1 x37 o40.length x6 x38 x39,rTo o40,rSt l11]):=Q0i rfl rfl rfl f42 rfl rfl rfl
    refine AW.after ?_
    refine rg hS [0,5] (di1 (ap0 41 hpf e43)) ?_
    refine oC PV.str 0 3 9 1 ?_
    exact nx h (Weak.sel [0,1,3] (L:=[(0,as_ s1),(5,.ref 0 0)]) ⟨rfl,rfl,trivial⟩ (by decide) rfl rfl)
   subst hsp8
   replace h:=K0c rfl h
   have f42:=(hk 3 41 rfl).ret (s1,x16,x6,x8,x9,l10,l11) q41 rfl rfl
   simp only[cond_true,cond_false]at f42
   have e43:Q0v O [V0 s1 x16 l10.length l11.length x6 x8 x9,rTo l10,rSt l11] 41 [.ref 0 0]=some (Q1a [ab r36],[V0 s1 x37 o40.length l11.length x6 x38 x39,rTo o40,rSt l11]):=Q0i rfl rfl rfl f42 rfl rfl rfl
   refine rg hS [0,5] (di1 (ap0 41 hpf e43)) ?_
   exact nx h
  refine seq (Ua1 h [0,5,81] (Zt2 hk 4 rfl) fun r44 h=>?_)
  refine iz h (fun h=>?_) fun h=>?_
  ·refine Ua6 h [0,5] (Z7 hk 5 rfl) fun r48 x49 x50 x51 o52 o53 h=>?_
   exact nx h
  refine Ua5 h [0,5] (Z7 hk 6 rfl) fun r57 x58 x59 x60 o61 h=>?_
  exact nx h
 refine exit (seq ?_)
 apply dgk mixed hS [2,3,4] (ordp hpf (by kernel_rfl))
 ·exact di
 exact Rf h
theorem V6h(c:AllG env [S72]):Q0a env S46:=by
 refine hd c V8v 59 ?_
 rintro O X hS hX hpf hk ⟨s1,tokens2⟩ (r:(List Str)) (h:F46 s1 tokens2=some r)
 refine gs ?_
 rw[F46]at h
 refine R [0,1] ?_
 obtain⟨u4,f6,h⟩:=oc h fun _=>K2b
 have f6m:=Q8u (H:=[]) (k1:=.i64) (k2:=.i64) T_42 T_9 (of_eq_true f6.1) (of_eq_true f6.2) (by decide)
 refine seq (reg hS [(0,as_ s1),(1,vTo tokens2),(5,.vec 0 (List.length (List.replicate (Int.toNat (tokens2.length:Int)) ([]:Str))))] [.row 9 1 (List.map PV.str (List.replicate (Int.toNat (tokens2.length:Int)) ([]:Str))) false] ?_ ?_)
 ·simp -implicitDefEqProofs only[RUNS,Q1b,Nat.reduceAdd,Nat.reduceLeDiff,Nat.reduceSub,reduceIte,Nat.reduceEqDiff,Nat.reduceLT,reduceCtorEq,Nat.reduceMul,Nat.reduceBEq,Int.reduceEq,Int.reduceToNat,Int.toNat_zero,Nat.sub_zero,if_true,if_false,eq_self,ne_eq,TYS,f6m,List.length_replicate,List.map_replicate]<;>(try simp only[List.length_take,List.length_drop,List.length_map])
 refine seq (rg hS [0,1,5,6] di ?_)
 refine weak (Weak.own 6 3 1 (by decide) rfl) ?_
 refine weak (Weak.slots (L:=[(0,as_ s1),(1,vTo tokens2),(5,.vec 0 (List.length (List.replicate (Int.toNat (tokens2.length:Int)) ([]:Str)))),(6,.vec 1 (List.length ([]:List Int)))]) ⟨rfl,rfl,rfl,rfl,trivial⟩) ?_
 refine seq (R [0,1,5,6,15,16,17] ?_)
 refine block (Lp h (fun(i7,l8,l9)=>⟨sl [(0,as_ s1),(1,vTo tokens2),(5,.vec 0 (List.length l8)),(6,.vec 1 (List.length l9)),(15,vTo tokens2),(16,ai (tokens2.length:Int)),(17,ai i7)],59,[.row 9 1 (List.map PV.str l8) false,.row 3 1 (List.map (PV.int .i64) l9) true]⟩) ?_)
 clear h
 rintro⟨i7,l8,l9⟩ m12 h
 rw[Q7y]at h
 try dsimp only at h
 refine AW.st (R [0,1,5,6,15,16,17,18] ?_)
 refine seq (iz h (fun h=>?_) fun h=>?_)
 ·obtain⟨u14,f16,h⟩:=oc h fun _=>Q0j
  refine skip (seq ?_)
  refine block (seq ?_)
  refine rg hS [0,1,5,6,7,8,15,16,17] (di1 (an f16.1 f16.2.1)) ?_
  refine R [0,1,5,6,7,8,15,16,17,23] ?_
  refine block (R [0,1,5,6,7,8,15,16,17,23,24] ?_)
  refine iz h (fun h=>?_) fun h=>?_
  ·replace h:=ap (PV.int .i64) h;obtain⟨out18,f20,h⟩:=h
   refine rg hS [0,1,5,6,15,16,17] (di1 f20) ?_
   refine G [0,1,5,6,15,16,17] ?_
   exact nx h
  refine R [0,1,5,6,8,15,16,17,30] ?_
  refine ik h (fun h=>?_) fun h=>?_
  ·refine R [0,1,5,6,9,15,16,17] ?_
   refine seq (R [0,1,5,9,15,16,17,35,36,37] ?_)
   refine block (Lp h (fun(at22,i23,l24)=>⟨sl [(0,as_ s1),(1,vTo tokens2),(5,.vec 0 (List.length l24)),(9,ai at22),(15,vTo tokens2),(16,ai (tokens2.length:Int)),(17,ai i7),(35,.vec 1 (List.length l9)),(36,ai (l9.length:Int)),(37,ai i23)],59,[.row 9 1 (List.map PV.str l24) false,.row 3 1 (List.map (PV.int .i64) l9) true,V1 u14]⟩) ?_)
   clear h
   rintro⟨at22,i23,l24⟩ m27 h
   rw[Z2l]at h
   try dsimp only at h
   refine AW.st (R [0,1,5,9,15,16,17,35,36,37,38] ?_)
   refine seq (iz h (fun h=>?_) fun h=>?_)
   ·obtain⟨n29,f31,h⟩:=oc h fun _=>Q0j
    refine skip (seq ?_)
    refine block (seq ?_)
    refine rg hS [0,1,5,9,11,15,16,17,35,36,37] (di1 (an f31.1 (an f31.2.1 f31.2.2))) ?_
    obtain⟨u32,f34,h⟩:=oc h fun _=>Q0j
    obtain⟨⟨r35,r36,r37⟩,f39,h⟩:=oc h (Zt3 hk 0 rfl)
    obtain⟨w40,f42,h⟩:=oc h fun _=>Q0j
    refine rg hS [0,1,5,9,15,16,17,35,36,37] (di1 (an f34.1 (an f34.2.1 (an (ca f39) (an f42.1 (an f42.2.1 f42.2.2)))))) ?_
    refine G [0,1,5,9,15,16,17,35,36,37] ?_
    exact nx h
   refine exit (rg hS [0,1,5,6,15,16,17] di ?_)
   refine weak (Weak.own 6 3 1 (by decide) rfl) ?_
   refine weak (Weak.slots (L:=[(0,as_ s1),(1,vTo tokens2),(5,.vec 0 (List.length l24)),(6,.vec 3 (List.length ([]:List Int))),(15,vTo tokens2),(16,ai (tokens2.length:Int)),(17,ai i7)]) ⟨rfl,rfl,rfl,rfl,rfl,rfl,rfl,trivial⟩) ?_
   refine G [0,1,5,6,15,16,17] ?_
   exact nx h (Weak.sel [0,3] (L:=[(0,as_ s1),(1,vTo tokens2),(5,.vec 0 (List.length l24)),(6,.vec 3 (List.length ([]:List Int))),(15,vTo tokens2),(16,ai (tokens2.length:Int)),(17,ai (IntKind.wrap .i64 (i7+1)))]) ⟨rfl,rfl,rfl,rfl,rfl,rfl,rfl,trivial⟩ (by decide) rfl rfl)
  refine G [0,1,5,6,15,16,17] ?_
  exact nx h
 refine exit (R [4] ?_)
 refine weak (Weak.freeze 0 rfl) ?_
 refine weak (σ':=⟨sl [(4,.vec 0 (List.length l8))],59,[rSt l8,.row 3 1 (List.map (PV.int .i64) l9) true]⟩) (Weak.slots ⟨rfl,trivial⟩) ?_
 exact Rf h
theorem V5i(c:AllG env []):Q0a env S84:=by
 refine hd c V7s 30 fun O X hS hX hpf hk ⟨ahead1,x2,x3,x4,x5⟩=>fun r (h:F84 ahead1 x2 x3 x4 x5=some r)=>gs ?_
 rw[F84]at h
 refine R [0,1,4] ?_
 refine seq (seq ?_)
 apply dgk mixed hS [0,1,4,16] (ordp hpf (by kernel_rfl))
 ·exact di
 refine ik h (fun h=>?_) fun h=>?_
 ·exact Rt h [4]
 refine seq ?_
 obtain⟨u8,f10,h⟩:=oc h fun _=>Q0j
 apply dgB mixed hS [(4,some 1),(28,none)] [4] rfl (ordB hpf (B:=[(4,some 1),(28,none)]) (by kernel_rfl))
 ·exact di1 (an f10.1 f10.2.1)
 exact Rf h
theorem K5z(c:AllG env []):Q0a env S128:=by
 refine hd c V0o 14 fun O X hS hX hpf hk ⟨t1,symbol2⟩=>fun r (h:F128 t1 symbol2=some r)=>gs ?_
 rw[F128]at h
 refine R [1,2] ?_
 refine seq (reg hS [(4,ab (decide (t1.kind_=2)&&decide (t1.text_=symbol2)))] [V1 t1] ?_ ?_)
 ·clear h hk hS hX c
  exact dh
 exact Rf h
theorem K6a(c:AllG env [S84,S128]):Q0a env S127:=by
 refine hd c V0p 9 fun O X hS hX hpf hk ⟨symbol1,x2,x3,x4,x5⟩=>fun r (h:F127 symbol1 x2 x3 x4 x5=some r)=>gs ?_
 rw[F127]at h
 refine R [0,1] ?_
 obtain⟨r7,f9,h⟩:=oc h (Z5 hk 0 rfl)
 obtain⟨r11,f13,h⟩:=oc h (Zt2 hk 1 rfl)
 refine seq (rg hS [4] (di1 (an (cb f9) (ca f13))) ?_)
 exact Rf h
theorem V5l(c:AllG env [S84,S127]):Q0a env S80:=by
 refine hd c V7w 29 fun O X hS hX hpf hk ⟨x1,x2,x3,x4⟩=>fun r (h:F80 x1 x2 x3 x4=some r)=>gs ?_
 rw[F80]at h
 refine R [0] ?_
 refine R [0,3] ?_
 refine seq (block ?_)
 refine Lp h (fun x7=>⟨sl [(0,.ref 0 0),(3,ai x4)],29,[V4 x1 x2 x3 x7]⟩) ?_
 clear h
 rintro x7 m10 h
 rw[Z5a]at h
 try dsimp only at h
 obtain⟨r11,f13,h⟩:=oc h (Z5 hk 0 rfl)
 refine AW.st (seq ?_)
 refine seq ?_
 rcases bs h with⟨hsp12,h⟩|⟨hsp12,h⟩
 ·refine rg hS [0,3,15] (di1 (an (cb f13) hsp12)) ?_
  refine cond (b:=true) rfl (fun _=>?_) (fun hb=>absurd hb (by decide))
  refine skip (block ?_)
  refine G [0,3] ?_
  exact nx h
 obtain⟨r15,f17,h⟩:=oc h (Z5 hk 1 rfl)
 replace f17:=cb f17
 try simp only[PVE]at f17
 refine rg hS [0,3,15] (di1 (an (cb f13) (an hsp12 f17))) ?_
 refine iz h (fun h=>?_) fun h=>?_
 ·refine skip (block ?_)
  refine G [0,3] ?_
  exact nx h
 exact exit (Rt h [2])
theorem K5v(c:AllG env [Q0x]):Q0a env S133:=by
 refine hd c V0j 12 ?_
 rintro O X hS hX hpf hk (t1:Token) (r:Bool) (h:F133 t1=some r)
 refine gs ?_
 rw[F133]at h
 refine R [1] ?_
 obtain⟨n3,q4,h⟩:=obs h
 replace q4:=Q0d q4
 have f5:=fun hg=>(hk 0 40 rfl).ret (t1.quoted_,49) (q4 hg) rfl rfl
 refine seq (reg hS [(2,ab (decide (t1.kind_=1)&&decide (n3<0)))] [V1 t1] ?_ ?_)
 ·clear h hk hS hX c
  exact dh1 (ap1 40 hpf f5)
 exact Rf h
theorem K5u(c:AllG env [Q0x,Z2i]):Q0a env S134:=by
 refine hd c V0i 16 ?_
 rintro O X hS hX hpf hk (s1:Str) (r:Bool) (h:F134 s1=some r)
 have pf_40:O.pf 40=true:=pft hpf 40 rfl
 refine gs ?_
 rw[F134]at h
 refine R [0] ?_
 obtain⟨n3,q4,h⟩:=obs h
 replace q4:=Q0d q4
 have f5:=fun hg=>(hk 0 40 rfl).ret (s1,32) (q4 hg) rfl rfl
 obtain⟨s6,f8,h⟩:=oc h fun _ q=>X6k (Q0d q)
 try simp only[LNS,List.length_replicate,Nat.reduceAdd,Nat.reduceLeDiff,Nat.add_zero,Nat.reduceMul]at f8
 obtain⟨s9,f11,h⟩:=oc h fun _ q=>X6k (Q0d q)
 try simp only[LNS,List.length_replicate,Nat.reduceAdd,Nat.reduceLeDiff,Nat.add_zero,Nat.reduceMul]at f11
 obtain⟨ok12,q13,h⟩:=obs h
 replace q13:=Q0d q13
 have f14:=fun hg=>(hk 1 169 rfl).ret (([32,105,102,32,110,111,116,32,119,104,105,108,101,32,102,111,114,32,105,110,32,115,119,105,116,99,104,32,99,97,115,101,32,102,110,32,126,32]:Str),s9) (q13 hg) rfl rfl
 try simp only[PVE]at f14
 refine seq (reg hS [(2,ab ((!decide (s1=[])&&decide (n3<0))&&ok12))] [] ?_ ?_)
 ·clear h hk hS hX c
  exact dh1 (an pf_40 (an f5 (an f8.1 (an f8.2 (an f11.1 (an f11.2 (ap1 169 hpf f14)))))))
 exact Rf h
theorem V5j(c:AllG env [S133,S134]):Q0a env S83:=by
 refine hd c V7t 12 ?_
 rintro O X hS hX hpf hk (t1:Token) (r:Str) (h:F83 t1=some r)
 refine gs ?_
 rw[F83]at h
 refine R [1] ?_
 obtain⟨r3,f5,h⟩:=oc h (Zt hk 0 133 t1)
 obtain⟨r6,q7,h⟩:=obs h
 replace q7:=Q0d q7
 have f8:=fun hg=>(hk 1 134 rfl).ret t1.text_ (q7 hg) rfl rfl
 refine seq (seq ?_)
 refine reg hS [(1,.ref 0 0),(9,ab (r3&&r6))] [V1 t1] ?_ ?_
 ·clear h hk hS hX c
  exact dh1 (an (ca f5) (ap1 134 hpf f8))
 refine ik h (fun h=>?_) fun h=>?_
 ·exact Rt h [2]
 exact Rt h [2]
theorem K5y(c:AllG env [S128]):Q0a env S129:=by
 refine hd c V0n 20 ?_
 rintro O X hS hX hpf hk (t1:Token) (r:Bool) (h:F129 t1=some r)
 have pf_128:O.pf 128=true:=pft hpf 128 rfl
 refine gs ?_
 rw[F129]at h
 refine R [1] ?_
 refine seq (R [1,5] ?_)
 refine ik h (fun h=>?_) fun h=>?_
 ·exact Rt h [2]
 obtain⟨r4,f6,h⟩:=oc h (Zt2 hk 0 rfl)
 replace f6:=ca f6
 try simp only[PVE]at f6
 obtain⟨r7,q8,h⟩:=obs h
 replace q8:=Q0d q8
 have f9:=fun hg=>(hk 0 128 rfl).ret (t1,([36,35]:Str)) (q8 hg) rfl rfl
 try simp only[PVE]at f9
 obtain⟨r10,q11,h⟩:=obs h
 replace q11:=Q0d q11
 have f12:=fun hg=>(hk 0 128 rfl).ret (t1,([40]:Str)) (q11 hg) rfl rfl
 try simp only[PVE]at f12
 obtain⟨r13,q14,h⟩:=obs h
 replace q14:=Q0d q14
 have f15:=fun hg=>(hk 0 128 rfl).ret (t1,([96]:Str)) (q14 hg) rfl rfl
 try simp only[PVE]at f15
 refine seq (reg hS [(2,ab (((r4||r7)||r10)||r13))] [V1 t1] ?_ ?_)
 ·clear h hk hS hX c
  exact dh1 (an pf_128 (an f6 (an f9 (an f12 f15))))
 exact Rf h
theorem K5x(c:AllG env []):Q0a env S130:=by
 refine hd c V0m 23 ?_
 rintro O X hS hX hpf hk (t1:Token) (r:Bool) (h:F130 t1=some r)
 refine gs ?_
 rw[F130]at h
 refine R [1] ?_
 obtain⟨c3,f5,h⟩:=oc h fun _ q=>Q1s (Q0d q)
 try simp only[NRM,Int.reduceToNat]at f5
 refine seq (reg hS [(2,ab (decide (t1.kind_=4)||(decide (t1.kind_=2)&&(decide (c3=60)||decide (c3=62)))))] [V1 t1] ?_ ?_)
 ·clear h hk hS hX c
  exact dh1 (an f5.1 (an f5.2.1 f5.2.2))
 exact Rf h
theorem V5k(c:AllG env [S84,S83,S128,S129,S130]):Q0a env S81:=by
 refine hd c V7v 38 fun O X hS hX hpf hk ⟨inCase1,x2,x3,x4,x5⟩=>fun r (h:F81 inCase1 x2 x3 x4 x5=some r)=>?_
 have pf_83:O.pf 83=true:=pft hpf 83 rfl
 have pf_128:O.pf 128=true:=pft hpf 128 rfl
 have pf_130:O.pf 130=true:=pft hpf 130 rfl
 refine gs ?_
 rw[F81]at h
 refine R [0,1] ?_
 refine seq (Ua1 h [0,1,5] (Z5 hk 0 rfl) fun r7 h=>?_)
 obtain⟨r11,q12,h⟩:=obs h
 replace q12:=Q0d q12
 have f13:=fun hg=>(hk 1 83 rfl).ret r7 (q12 hg) rfl rfl
 refine seq (seq ?_)
 rcases bs h with⟨hsp14,h⟩|⟨hsp14,h⟩
 ·try simp only[Bool.and_eq_true,Bool.or_eq_false_iff]at hsp14
  obtain⟨r14,f16,h⟩:=oc h (Z5 hk 0 rfl)
  obtain⟨r18,q19,h⟩:=obs h
  have f20:=(hk 2 128 rfl).ret (r14,([61]:Str)) q19 rfl rfl
  try simp only[PVE]at f20
  refine reg hS [(5,.ref 1 0),(19,ab (!r18))] [V4 x2 x3 x4 x5,V1 r7] ?_ ?_
  ·clear h hk hS hX c
   exact dh1 (an pf_83 (an f13 (an hsp14 (an (cb f16) (ap1 128 hpf f20)))))
  refine ik h (fun h=>?_) fun h=>?_
  ·exact Rt h [4]
  obtain⟨r22,f24,h⟩:=oc h (Zt hk 3 129 r7)
  obtain⟨r25,q26,h⟩:=obs h
  replace q26:=Q0d q26
  have f27:=fun hg=>(hk 4 130 rfl).ret r7 (q26 hg) rfl rfl
  obtain⟨r28,q29,h⟩:=obs h
  replace q29:=Q0d q29
  have f30:=fun hg=>(hk 2 128 rfl).ret (r7,([33]:Str)) (q29 hg) rfl rfl
  try simp only[PVE]at f30
  obtain⟨r31,q32,h⟩:=obs h
  replace q32:=Q0d q32
  have f33:=fun hg=>(hk 2 128 rfl).ret (r7,([64]:Str)) (q32 hg) rfl rfl
  try simp only[PVE]at f33
  obtain⟨r34,q35,h⟩:=obs h
  replace q35:=Q0d q35
  have f36:=fun hg=>(hk 2 128 rfl).ret (r7,([123]:Str)) (q35 hg) rfl rfl
  try simp only[PVE]at f36
  refine seq (reg hS [(4,ab ((((r22||r25)||r28)||r31)||r34))] [V4 x2 x3 x4 x5,V1 r7] ?_ ?_)
  ·clear h hk hS hX c
   exact dh1 (an (ca f24) (an pf_130 (an f27 (an pf_128 (an f30 (an f33 f36))))))
  exact Rf h
 try simp only[Bool.and_eq_true,Bool.or_eq_false_iff]at hsp14
 refine reg hS [(5,.ref 1 0),(19,ab false)] [V4 x2 x3 x4 x5,V1 r7] ?_ ?_
 ·clear h hk hS hX c
  exact dh1 (an pf_83 (an f13 hsp14))
 refine cF ?_
 obtain⟨r15,f17,h⟩:=oc h (Zt hk 3 129 r7)
 obtain⟨r18,q19,h⟩:=obs h
 replace q19:=Q0d q19
 have f20:=fun hg=>(hk 4 130 rfl).ret r7 (q19 hg) rfl rfl
 obtain⟨r21,q22,h⟩:=obs h
 replace q22:=Q0d q22
 have f23:=fun hg=>(hk 2 128 rfl).ret (r7,([33]:Str)) (q22 hg) rfl rfl
 try simp only[PVE]at f23
 obtain⟨r24,q25,h⟩:=obs h
 replace q25:=Q0d q25
 have f26:=fun hg=>(hk 2 128 rfl).ret (r7,([64]:Str)) (q25 hg) rfl rfl
 try simp only[PVE]at f26
 obtain⟨r27,q28,h⟩:=obs h
 replace q28:=Q0d q28
 have f29:=fun hg=>(hk 2 128 rfl).ret (r7,([123]:Str)) (q28 hg) rfl rfl
 try simp only[PVE]at f29
 refine skip (seq ?_)
 refine reg hS [(4,ab ((((r15||r18)||r21)||r24)||r27))] [V4 x2 x3 x4 x5,V1 r7] ?_ ?_
 ·clear h hk hS hX c
  exact dh1 (an (ca f17) (an pf_130 (an f20 (an pf_128 (an f23 (an f26 f29))))))
 exact Rf h
theorem K5w(c:AllG env [S127]):Q0a env S132:=by
 refine hd c V0k 18 fun O X hS hX hpf hk ⟨symbol1,x2,x3,x4,x5⟩=>fun r (h:F132 symbol1 x2 x3 x4 x5=some r)=>gs ?_
 rw[F132]at h
 refine R [0,1] ?_
 refine seq (Ua1 h [0,5] (Z5 hk 0 rfl) fun r8 h=>?_)
 refine seqM ⟨sl [(5,ab r8)],18,[V4 x2 x3 x4 (bif r8 then IntKind.wrap .i64 (x5+1)else x5)]⟩ ?_ ?_
 ·refine R [0,5,9] ?_
  refine cond (b:=r8) rfl (fun hb12=>?_) (fun hb12=>?_)
  ·refine G [5] ?_
   exact Weak.of_eq (Weak.slots (L:=[(5,ab r8)]) kp) (wq hb12)
  exact skip (Weak.of_eq (Weak.slots (L:=[(5,ab r8)]) kp) (wq hb12))
 exact Rt h [4]
theorem K5e(c:AllG env [S84]):Q0a env S168:=by
 refine hd c K9p 13 fun O X hS hX hpf hk ⟨x1,x2,x3,x4⟩=>fun r (h:F168 x1 x2 x3 x4=some r)=>gs ?_
 rw[F168]at h
 refine block (Lp h (fun x6=>⟨sl [(0,.ref 0 0)],13,[V4 x1 x2 x3 x6]⟩) ?_)
 clear h
 rintro x6 m9 h
 rw[Q3t]at h
 try dsimp only at h
 refine AW.st (seq ?_)
 refine seq (Ua1 h [0,5] (Z5 hk 0 rfl) fun r10 h=>?_)
 refine iz h (fun h=>?_) fun h=>?_
 ·refine skip (block ?_)
  refine G [0] ?_
  exact nx h
 exact ex h
theorem X6a{w200:Y0}(c:AllG env [S200 w200,S132,S168]):Q0a env (S167 w200):=by
 refine hd c K9q 32 fun O X hS hX hpf hk ⟨inCase1,x2,x3,x4,x5⟩=>fun r (h:F167 w200 inCase1 x2 x3 x4 x5=some r)=>gs ?_
 rw[F167]at h
 refine R [0,1,4] ?_
 refine seq (xb h (Z5 hk 0 rfl) 2 ?_)
 rintro⟨r8,r9⟩ f11 h
 refine rg hS [0,1,4,5] (di1 (cb f11)) ?_
 refine seq (block ?_)
 refine Lq r (Q9p x2 x3 x4 w200 inCase1) (fun(x16,l17)=>⟨sl [(0,.ref 0 0),(1,ab inCase1),(4,.ref 1 0),(5,.vec 2 (List.length l17))],32,[V4 x2 x3 x4 x16,V5 0 0 [],rCm l17]⟩) ?_ ?_
 ·refine seq (seq ?_)
  refine Ua2 h [0,1,4,5,11] (Z5 hk 1 rfl) fun r50 x51 h=>?_
  refine iz h (fun h=>?_) fun h=>?_
  ·refine skip (block ?_)
   refine seq (Ua1 h [0,1,4,5] (Z4 hk 2 rfl) fun x56 h=>?_)
   refine xb h (Z5 hk 0 rfl) 3 ?_
   rintro⟨r60,r61⟩ f63 h
   replace h:=ap Cmd.pv h;obtain⟨out68,f70,h⟩:=h
   refine reg hS [(0,.ref 0 0),(1,ab inCase1),(4,.ref 1 0),(5,.vec 2 (List.length out68))] [V4 x2 x3 x4 r61,V5 0 0 [],rCm out68] (dk1 (an (cb f63) f70)) ?_
   exact ny h
  refine exit (seq ?_)
  refine R [4,5,22] ?_
  refine ik h (fun h=>?_) fun h=>?_
  ·exact Rt h [4]
  exact Rt h [4]
 clear h
 rintro⟨x16,l17⟩ m20 h
 unfold Q9p at h
 try dsimp only at h
 refine AW.st (seq ?_)
 refine seq (Ua2 h [0,1,4,5,11] (Z5 hk 1 rfl) fun r21 x22 h=>?_)
 refine iz h (fun h=>?_) fun h=>?_
 ·refine skip (block ?_)
  refine seq (Ua1 h [0,1,4,5] (Z4 hk 2 rfl) fun x27 h=>?_)
  refine xb h (Z5 hk 0 rfl) 3 ?_
  rintro⟨r31,r32⟩ f34 h
  replace h:=ap Cmd.pv h;obtain⟨out39,f41,h⟩:=h
  refine rg hS [0,1,4,5] (di1 (an (cb f34) f41)) ?_
  exact nx h
 refine exit (seq ?_)
 refine R [4,5,22] ?_
 refine ik h (fun h=>?_) fun h=>?_
 ·obtain⟨u43,f45,h⟩:=oc h fun _=>Q0j
  try simp only[NRM,Int.reduceToNat]at f45
  refine seq (rg hS [4] (di1 (an f45.1 (an f45.2.1 f45.2.2))) ?_)
  exact Rf h
 obtain⟨u46,f48,h⟩:=oc h fun _=>Q0j
 try simp only[NRM,Int.reduceToNat]at f48
 refine seq (rg hS [4] (di1 (an f48.1 (an f48.2.1 f48.2.2))) ?_)
 exact Rf h
end Go.Abs.U48
