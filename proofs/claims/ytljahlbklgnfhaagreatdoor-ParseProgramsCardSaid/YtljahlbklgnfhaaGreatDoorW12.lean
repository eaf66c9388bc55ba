import Derived.Test.YtljahlbklgnfhaaGreatDoorD1
set_option linter.unusedVariables false
set_option linter.unusedSimpArgs false
set_option linter.defProp false
set_option maxRecDepth 8000
set_option maxHeartbeats 4000000
namespace Go.Abs.U48
open Go.RowKit Go.Proofs AW
theorem K4m{w142:Y3}{w175:Y2}(c:AllG env [S59,S58,S173,S97,S60,S205 w175,S177 w142]):Q0a env (S202 w142 w175):=by
 refine hd c K8w 122 fun O X hS hX hpf hk ⟨x1,x2,x3,x4,x5,x6⟩=>fun r (h:F202 w142 w175 x1 x2 x3 x4 x5 x6=some r)=>gs ?_
 rw[F202]at h
 refine R [0,2] ?_
 refine seq (Ua1 h [0,2,3] (Z6 hk 0 rfl) fun r11 h=>?_)
 refine seq (block ?_)
 refine R [0,2,3,8] ?_
 refine iz h (fun h=>?_) fun h=>?_
 ·refine R [2,3] ?_
  exact Rt h [2]
 refine seq (Ua1 h [0,2,24] (Z7 hk 1 rfl) fun r16 h=>?_)
 refine iz h (fun h=>?_) fun h=>?_
 ·refine R [0,2] ?_
  refine seq (Ua4 h [2] (Z6 hk 2 rfl) fun r21 x22 x23 x24 h=>?_)
  exact Rf h
 refine seq (Ua1 h [0,2,37] (Z7 hk 1 rfl) fun r28 h=>?_)
 refine iz h (fun h=>?_) fun h=>?_
 ·refine R [0,2] ?_
  obtain⟨r33,f35,h⟩:=oc h (Z6 hk 0 rfl)
  refine seq (rg hS [0,2,4] (di1 (an (cb f35) (cb f35))) ?_)
  refine seq (Ua4 h [0,2,4,5] (Z6 hk 2 rfl) fun r38 x39 x40 x41 h=>?_)
  refine seq (seq ?_)
  rcases bs h with⟨hsp207,h⟩|⟨hsp207,h⟩
  ·obtain⟨r45,f47,h⟩:=oc h (Z7 hk 1 rfl)
   replace f47:=cb f47
   try simp only[PVE]at f47
   rcases bs h with⟨hsp208,h⟩|⟨hsp208,h⟩
   ·obtain⟨r49,f51,h⟩:=oc h (Z6 hk 0 rfl)
    refine rg hS [0,2,5,73] (di1 (an hsp207 (an f47 (an hsp208 (cb f51))))) ?_
    refine ik h (fun h=>?_) fun h=>?_
    ·refine R [0,2,5] ?_
     refine R [0,2,5] ?_
     refine seq (Ua1 h [0,2,5] (Z6 hk 3 rfl) fun x54 h=>?_)
     refine seqJ (α:=Int×Int) (fun(x58,x59)=>⟨sl [(0,.ref 0 0),(2,.ref 1 0),(5,.ref 3 0)],122,[V27 x1 x2 x3 x54 x58 x59,V18 0 [] [],V1 r11,V19 7 r38 [] [] []]⟩) (fun x=>Q4r w175 x1 x2 x3 x54 r38 x=some r) ?_ ?_
     ·intro⟨x58,x59⟩ h
      rw[Q4r]at h
      try dsimp only at h
      refine AW.st (Ua4 h [2,5] (Z6 hk 5 rfl) fun r60 x61 x62 x63 h=>?_)
      exact Rt h [2]
     refine seq (Ua1 h [0,2,5,85] (Z7 hk 1 rfl) fun r67 h=>?_)
     refine ik h (fun h=>?_) fun h=>?_
     ·refine Ua2 h [0,2,5] (Z6 hk 4 rfl) fun x72 x73 h=>?_
      exact jn h
     exact jn h
    exact Rt h [2]
   refine rg hS [0,2,5,73] (di1 (an hsp207 (an f47 hsp208))) ?_
   exact cF (skip (Rt h [2]))
  refine rg hS [0,2,5,73] (di1 hsp207) ?_
  exact cF (skip (Rt h [2]))
 refine seq (Ua1 h [0,2,92] (Z7 hk 1 rfl) fun r77 h=>?_)
 refine iz h (fun h=>?_) fun h=>?_
 ·refine R [0,2] ?_
  refine seq (Ua4 h [2] (Z6 hk 5 rfl) fun r82 x83 x84 x85 h=>?_)
  exact Rf h
 refine seq (Ua1 h [0,2,105] (Z7 hk 1 rfl) fun r89 h=>?_)
 refine ik h (fun h=>?_) fun h=>?_
 ·refine R [0,2] ?_
  obtain⟨⟨kind94,at95,name96,kids97,x98,x99,x100⟩,q101,h⟩:=obs h
  dsimp only at h
  have f102:=(hk 6 177 rfl).ret (([123]:Str),([125]:Str),x1,x2,x3,IntKind.wrap .i64 (x4+1),x5,x6) q101 rfl rfl
  try simp only[PVE]at f102
  have e103:Q0v O [V27 x1 x2 x3 (IntKind.wrap .i64 (x4+1)) x5 x6,V18 0 [] [],V1 r11] 177 [.ref 0 0,as_ [123],as_ [125]]=some (Q1a [.agg [ai kind94,ai at95,as_ name96,.nils,.nils,vC kids97]],[V27 x1 x2 x3 x98 x99 x100,V18 0 [] [],V1 r11]):=Q0i rfl rfl rfl f102 rfl rfl rfl
  refine seq (rg hS [2] (di1 (ap0 177 hpf e103)) ?_)
  exact Rf h
 refine seq (Ua2 h [2] (Z6 hk 4 rfl) fun x104 x105 h=>?_)
 exact Rt h [2]
theorem K4y{w142:Y3}{w175:Y2}(c:AllG env [S202 w142 w175,S58]):Q0a env (S175 (F175 w142 w175)):=by
 refine hd c X6f 36 fun O X hS hX hpf hk ⟨x1,x2,x3,x4,x5,x6⟩=>fun r (h:F175 w142 w175 x1 x2 x3 x4 x5 x6=some r)=>gs ?_
 rw[F175]at h
 refine R [0,2] ?_
 obtain⟨⟨r11,x12,x13,x14⟩,f16,h⟩:=oc h (Z6 hk 0 rfl)
 refine seq (rg hS [0,2,3] (di1 (cb f16)) ?_)
 refine seq (block ?_)
 refine Lq r (Q4s x1 x2 x3 w142 w175) (fun(x18,x19,x20,l21)=>⟨sl [(0,.ref 0 0),(2,.ref 1 0),(3,.vec 2 (List.length l21))],36,[V27 x1 x2 x3 x18 x19 x20,V18 0 [] [],rWo l21]⟩) ?_ ?_
 ·refine seq (seq ?_)
  rcases bs h with⟨hsp218,h⟩|⟨hsp218,h⟩
  ·obtain⟨r45,f47,h⟩:=oc h (Z7 hk 1 rfl)
   replace f47:=cb f47
   try simp only[PVE]at f47
   refine rg hS [0,2,3,15] (di1 (an hsp218 f47)) ?_
   refine iz h (fun h=>?_) fun h=>?_
   ·refine skip (block ?_)
    refine R [0,2,3] ?_
    obtain⟨⟨r50,x51,x52,x53⟩,f55,h⟩:=oc h (Z6 hk 0 rfl)
    replace h:=ap Word.pv h;obtain⟨out57,f59,h⟩:=h
    refine reg hS [(0,.ref 0 0),(2,.ref 1 0),(3,.vec 2 (List.length out57))] [V27 x1 x2 x3 x51 x52 x53,V18 0 [] [],rWo out57] (dk1 (an (cb f55) f59)) ?_
    exact ny h
   refine exit (seq ?_)
   refine R [2,3,30] ?_
   refine ik h (fun h=>?_) fun h=>?_
   ·exact Rt h [2]
   exact Rt h [2]
  refine rg hS [0,2,3,15] (di1 hsp218) ?_
  refine cF (exit (seq ?_))
  refine R [2,3,30] ?_
  refine ik h (fun h=>?_) fun h=>?_
  ·exact Rt h [2]
  exact Rt h [2]
 clear h
 rintro⟨x18,x19,x20,l21⟩ m24 h
 unfold Q4s at h
 try dsimp only at h
 refine AW.st (seq ?_)
 refine seq ?_
 rcases bs h with⟨hsp217,h⟩|⟨hsp217,h⟩
 ·obtain⟨r25,f27,h⟩:=oc h (Z7 hk 1 rfl)
  replace f27:=cb f27
  try simp only[PVE]at f27
  refine rg hS [0,2,3,15] (di1 (an hsp217 f27)) ?_
  refine iz h (fun h=>?_) fun h=>?_
  ·refine skip (block ?_)
   refine R [0,2,3] ?_
   obtain⟨⟨r30,x31,x32,x33⟩,f35,h⟩:=oc h (Z6 hk 0 rfl)
   replace h:=ap Word.pv h;obtain⟨out37,f39,h⟩:=h
   refine rg hS [0,2,3] (di1 (an (cb f35) f39)) ?_
   exact nx h
  refine exit (seq ?_)
  refine R [2,3,30] ?_
  refine ik h (fun h=>?_) fun h=>?_
  ·obtain⟨u41,f43,h⟩:=oc h fun _=>Q0j
   try simp only[NRM,Int.reduceToNat]at f43
   refine seq (rg hS [2] (di1 (an f43.1 (an f43.2.1 f43.2.2))) ?_)
   exact Rf h
  exact Rt h [2]
 refine rg hS [0,2,3,15] (di1 hsp217) ?_
 refine cF (exit (seq ?_))
 refine R [2,3,30] ?_
 refine ik h (fun h=>?_) fun h=>?_
 ·obtain⟨u27,f29,h⟩:=oc h fun _=>Q0j
  try simp only[NRM,Int.reduceToNat]at f29
  refine seq (rg hS [2] (di1 (an f29.1 (an f29.2.1 f29.2.2))) ?_)
  exact Rf h
 exact Rt h [2]
theorem V6l(c:AllG env []):Q0a env S34:=by
 refine hd c V9e 14 ?_
 rintro O X hS hX hpf hk (d1:Redir) (r:(List Word)) (h:F34 d1=some r)
 refine gs ?_
 rw[F34]at h
 refine R [1] ?_
 refine seq (seq ?_)
 refine reg hS [(1,.ref 0 0),(10,ab (decide (d1.kind_=5)||decide (d1.kind_=6)))] [V20 d1] ?_ ?_
 ·clear h hk hS hX c
  exact dh
 refine ik h (fun h=>?_) fun h=>?_
 ·exact Rt h [2]
 exact seq (rg hS [2] di (Rf h))
theorem V6y{w16:Y7}{w33:Y9}(c:AllG env [S33 w33,S16 w16,S34]):Q0a env (S16 (F16 w16 w33)):=by
 refine hd c K9u 59 ?_
 rintro O X hS hX hpf hk (l1:(List Cmd)) (r:Int) (h:F16 w16 w33 l1=some r)
 refine gs ?_
 rw[F16]at h
 refine R [0] ?_
 refine R [0,3] ?_
 refine seq (R [0,3,4] ?_)
 refine block (Lp h (fun(n3,i4)=>⟨sl [(0,vC l1),(3,ai n3),(4,ai i4)],59,[]⟩) ?_)
 clear h
 rintro⟨n3,i4⟩ m7 h
 rw[Z7g]at h
 try dsimp only at h
 refine AW.st (seq ?_)
 refine R [0,3,4,11] ?_
 refine iz h (fun h=>?_) fun h=>?_
 ·refine skip (seq ?_)
  refine block (seq ?_)
  obtain⟨u9,f11,h⟩:=oc h fun _=>Q0j
  obtain⟨r12,f14,h⟩:=oc h (Zt hk 0 33 u9.words_)
  obtain⟨r15,f17,h⟩:=oc h (Zt hk 1 16 u9.kids_)
  apply dgk mixed hS [0,3,4] (ordp hpf (by kernel_rfl))
  ·exact di1 (an f11.1 (an f11.2.1 (an (ca f14) (ca f17))))
  refine R [0,3,4,5] ?_
  refine block (Lp h (fun(n18,k19)=>⟨sl [(0,vC l1),(3,ai n18),(4,ai i4),(5,ai k19)],59,[]⟩) ?_)
  clear h
  rintro⟨n18,k19⟩ m22 h
  rw[J5o]at h
  try dsimp only at h
  refine AW.st (seq ?_)
  refine srg hS [0,3,4,5,43] (di1 (an f11.1 f11.2.1)) ?_
  refine iz h (fun h=>?_) fun h=>?_
  ·obtain⟨u24,f26,h⟩:=oc h fun _=>Q0j
   obtain⟨r27,f29,h⟩:=oc h (Zt hk 2 34 u24)
   obtain⟨r30,f32,h⟩:=oc h (Zt hk 0 33 r27)
   refine skip (seq ?_)
   refine block (rg hS [0,3,4,5] (di1 (an f11.1 (an f11.2.1 (an f26.1 (an f26.2.1 (an (ca f29) (ca f32))))))) ?_)
   refine G [0,3,4,5] ?_
   exact nx h
  refine exit (G [0,3,4] ?_)
  exact nx h
 exact exit (Rt h [2])
theorem V6m{w16:Y7}{w33:Y9}(c:AllG env [S33 w33,S16 w16]):Q0a env (S33 (F33 w16 w33)):=by
 refine hd c K7d 29 ?_
 rintro O X hS hX hpf hk (l1:(List Word)) (r:Int) (h:F33 w16 w33 l1=some r)
 refine gs ?_
 rw[F33]at h
 refine R [0] ?_
 refine R [0,3] ?_
 refine seq (R [0,3,4] ?_)
 refine block (Lp h (fun(n3,i4)=>⟨sl [(0,vWo l1),(3,ai n3),(4,ai i4)],29,[]⟩) ?_)
 clear h
 rintro⟨n3,i4⟩ m7 h
 rw[X2f]at h
 try dsimp only at h
 refine AW.st (seq ?_)
 refine R [0,3,4,10] ?_
 refine iz h (fun h=>?_) fun h=>?_
 ·refine skip (seq ?_)
  refine block ?_
  obtain⟨u9,f11,h⟩:=oc h fun _=>Q0j
  obtain⟨r12,f14,h⟩:=oc h (Zt hk 0 33 u9.words_)
  obtain⟨r15,f17,h⟩:=oc h (Zt hk 1 16 u9.cmd_)
  apply dgk mixed hS [0,3,4] (ordp hpf (by kernel_rfl))
  ·exact di1 (an f11.1 (an f11.2.1 (an (ca f14) (ca f17))))
  refine G [0,3,4] ?_
  exact nx h
 exact exit (Rt h [2])
theorem V6r{w25:Y7}{w61:Y9}(c:AllG env [S61 w61,S25 w25,S34]):Q0a env (S25 (F25 w25 w61)):=by
 refine hd c K7z 53 ?_
 rintro O X hS hX hpf hk (l1:(List Cmd)) (r:Int) (h:F25 w25 w61 l1=some r)
 refine gs ?_
 rw[F25]at h
 refine R [0] ?_
 refine R [0,3] ?_
 refine seq (R [0,3,4] ?_)
 refine block (Lp h (fun(n3,i4)=>⟨sl [(0,vC l1),(3,ai n3),(4,ai i4)],53,[]⟩) ?_)
 clear h
 rintro⟨n3,i4⟩ m7 h
 rw[Z7b]at h
 try dsimp only at h
 refine AW.st (seq ?_)
 refine R [0,3,4,10] ?_
 refine iz h (fun h=>?_) fun h=>?_
 ·obtain⟨u9,f11,h⟩:=oc h fun _=>Q0j
  obtain⟨r12,f14,h⟩:=oc h (Zt hk 0 61 u9.words_)
  obtain⟨r15,f17,h⟩:=oc h (Zt hk 1 25 u9.kids_)
  refine skip (seq ?_)
  refine block (seq ?_)
  refine dreg mixed hS (ordp hpf (by kernel_rfl)) [(0,vC l1),(3,ai n3),(4,ai i4),(5,ai (imax r12 r15))] [] ?_ ?_
  ·exact dk1 (an f11.1 (an f11.2.1 (an (ca f14) (ca f17))))
  refine seq (R [0,3,4,5,6] ?_)
  refine block (Lp h (fun(d18,k19)=>⟨sl [(0,vC l1),(3,ai n3),(4,ai i4),(5,ai d18),(6,ai k19)],53,[]⟩) ?_)
  clear h
  rintro⟨d18,k19⟩ m22 h
  rw[J5i]at h
  try dsimp only at h
  refine AW.st (seq ?_)
  refine srg hS [0,3,4,5,6,33] (di1 (an f11.1 f11.2.1)) ?_
  refine iz h (fun h=>?_) fun h=>?_
  ·obtain⟨u24,f26,h⟩:=oc h fun _=>Q0j
   obtain⟨r27,f29,h⟩:=oc h (Zt hk 2 34 u24)
   obtain⟨r30,f32,h⟩:=oc h (Zt hk 0 61 r27)
   refine skip (seq ?_)
   refine block (rg hS [0,3,4,5,6] (di1 (an f11.1 (an f11.2.1 (an f26.1 (an f26.2.1 (an (ca f29) (ca f32))))))) ?_)
   refine G [0,3,4,5,6] ?_
   exact nx h
  refine exit (rg hS [0,3,4] di ?_)
  refine G [0,3,4] ?_
  exact nx h
 exact exit (Rt h [2])
theorem V5u{w25:Y7}{w61:Y9}(c:AllG env [S61 w61,S25 w25]):Q0a env (S61 (F61 w25 w61)):=by
 refine hd c K7a 28 ?_
 rintro O X hS hX hpf hk (l1:(List Word)) (r:Int) (h:F61 w25 w61 l1=some r)
 refine gs ?_
 rw[F61]at h
 refine R [0] ?_
 refine R [0,3] ?_
 refine seq (R [0,3,4] ?_)
 refine block (Lp h (fun(n3,i4)=>⟨sl [(0,vWo l1),(3,ai n3),(4,ai i4)],28,[]⟩) ?_)
 clear h
 rintro⟨n3,i4⟩ m7 h
 rw[X2c]at h
 try dsimp only at h
 refine AW.st (seq ?_)
 refine R [0,3,4,8] ?_
 refine iz h (fun h=>?_) fun h=>?_
 ·obtain⟨u9,f11,h⟩:=oc h fun _=>Q0j
  obtain⟨r12,f14,h⟩:=oc h (Zt hk 0 61 u9.words_)
  obtain⟨r15,f17,h⟩:=oc h (Zt hk 1 25 u9.cmd_)
  refine skip (seq ?_)
  refine block (dreg mixed hS (ordp hpf (by kernel_rfl)) [(0,vWo l1),(3,ai (imax n3 (IntKind.wrap .i64 (1+(imax r12 r15))))),(4,ai i4)] [] ?_ ?_)
  ·exact dk1 (an f11.1 (an f11.2.1 (an (ca f14) (ca f17))))
  refine G [0,3,4] ?_
  exact nx h
 exact exit (Rt h [2])
theorem g_F9(c:AllG env [S22,S23,S24 (K142 BIG),S16 (K16 BIG),S25 (K25 BIG)]):Q0a env S9:=by
 refine hd c fn_9 51 ?_
 rintro O X hS hX hpf hk (s1:Str) (r:(List Cmd)×Int×Int) (h:F9 s1=some r)
 have pf_16:O.pf 16=true:=pft hpf 16 rfl
 refine gs ?_
 rw[F9]at h
 refine R [0] ?_
 refine seq (Ua3 h [0,5,6,7] (Zt hk 0 22 s1) fun r5 r6 r7 h=>?_)
 refine seq (R [0,5,6,7,17] ?_)
 refine ik h (fun h=>?_) fun h=>?_
 ·exact Rt h [2,3,4]
 refine seq (Ua1 h [8] (Zt2 hk 1 rfl) fun r11 h=>?_)
 obtain⟨⟨r14,x15,x16,x17⟩,q18,h⟩:=obs h
 dsimp only at h
 have f19:=hk 2 24 rfl
 replace f19:=f19.ret (([]:Str),s1,r5,r11,0,0,0) q18 rfl rfl
 have e20:=Q2y f19 rfl rfl rfl rfl
 refine seq (rg hS [8,9] (di1 (ap0 24 hpf e20)) ?_)
 refine seq (R [8,9,33] ?_)
 refine ik h (fun h=>?_) fun h=>?_
 ·refine seq ?_
  apply dgk mixed hS [2,3,4] (ordp hpf (by kernel_rfl))
  ·exact di
  exact Rf h
 obtain⟨r22,q23,h⟩:=obs h
 have f24:=hk 3 16 rfl
 replace f24:=f24.ret r14 q23 rfl rfl
 obtain⟨r25,q26,h⟩:=obs h
 have f27:=hk 4 25 rfl
 replace q26:=Q0d q26
 replace f27:=fun hg=>f27.ret r14 (q26 hg) rfl rfl
 refine seq (seq ?_)
 refine reg hS [(9,vC r14),(49,ab (decide (1024<r22)||decide (32<r25)))] [V27 s1 r5 r11 x15 x16 x17] ?_ ?_
 ·clear h hk hS hX c
  exact dh1 (an pf_16 (an f24 (ap1 25 hpf f27)))
 refine ik h (fun h=>?_) fun h=>?_
 ·exact Rt h [2,3,4]
 exact Rt h [2,3,4]
end Go.Abs.U48
