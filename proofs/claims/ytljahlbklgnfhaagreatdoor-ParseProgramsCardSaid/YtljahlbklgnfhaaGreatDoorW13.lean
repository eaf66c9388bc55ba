import Derived.Test.YtljahlbklgnfhaaGreatDoorD1
set_option linter.unusedVariables false
set_option linter.unusedSimpArgs false
set_option linter.defProp false
set_option maxRecDepth 8000
set_option maxHeartbeats 4000000
namespace Go.Abs.U48
open Go.RowKit Go.Proofs AW
theorem V7b{w11:Y6}{w27:Y4}(c:AllG env [S11 w11,S27 w27]):Q0a env (S11 (F11 w11 w27)):=by
 refine hd c V0z 84 fun O X hS hX hpf hk ⟨a1,b2⟩=>fun r (h:F11 w11 w27 a1 b2=some r)=>?_
 have pf_11:O.pf 11=true:=pft hpf 11 rfl
 refine gs ?_
 rw[F11]at h
 refine R [0,1] ?_
 refine seq (R [0,1,8,9] ?_)
 refine block (Lp h (fun i4=>⟨sl [(0,vC a1),(1,vC b2),(8,ai (a1.length:Int)),(9,ai i4)],84,[]⟩) ?_)
 clear h
 rintro i4 m7 h
 rw[Z2o]at h
 try dsimp only at h
 refine AW.st (R [0,1,8,9,10] ?_)
 refine seq (iz h (fun h=>?_) fun h=>?_)
 ·refine skip (seq ?_)
  refine block (R [0,1,5,8,9] ?_)
  obtain⟨u9,f11,h⟩:=oc h fun _=>Q0j
  obtain⟨u12,f14,h⟩:=oc h fun _=>Q0j
  obtain⟨r15,q16,h⟩:=obs h
  replace q16:=Q0d q16
  have f17:=fun hg=>(hk 0 11 rfl).ret (u9.kids_,u12.kids_) (q16 hg) rfl rfl
  obtain⟨r18,q19,h⟩:=obs h
  replace q19:=Q0d q19
  have f20:=fun hg=>(hk 1 27 rfl).ret (u9.words_,u12.words_) (q19 hg) rfl rfl
  refine seq (seq ?_)
  refine dreg mixed hS (ordp hpf (by kernel_rfl)) [(0,vC a1),(1,vC b2),(5,ai i4),(8,ai (a1.length:Int)),(9,ai i4),(50,ab ((!decide (u9.at_=u12.at_)||!r15)||!r18))] [] ?_ ?_
  ·clear h hk hS hX c
   exact dh1 (an f11.1 (an f11.2.1 (an f14.1 (an f14.2.1 (an pf_11 (an f17 (ap1 27 hpf f20)))))))
  refine ik h (fun h=>?_) fun h=>?_
  ·exact Rt h [4]
  refine srg hS [0,1,5,8,9,56,57] (di1 (an f11.1 f11.2.1)) ?_
  refine block (Lp h (fun i22=>⟨sl [(0,vC a1),(1,vC b2),(5,ai i4),(8,ai (a1.length:Int)),(9,ai i4),(56,ai (u9.redirs_.length:Int)),(57,ai i22)],84,[]⟩) ?_)
  clear h
  rintro i22 m25 h
  rw[Z7j]at h
  try dsimp only at h
  refine AW.st (R [0,1,5,8,9,56,57,58] ?_)
  refine seq (iz h (fun h=>?_) fun h=>?_)
  ·refine skip (seq ?_)
   refine block (R [0,1,5,6,8,9,56,57] ?_)
   obtain⟨u27,f29,h⟩:=oc h fun _=>Q0j
   obtain⟨u30,f32,h⟩:=oc h fun _=>Q0j
   obtain⟨r33,f35,h⟩:=oc h (Zt2 hk 1 rfl)
   replace f35:=ca f35
   try simp only[PVE]at f35
   refine seq (dreg mixed hS (ordp hpf (by kernel_rfl)) [(0,vC a1),(1,vC b2),(5,ai i4),(8,ai (a1.length:Int)),(9,ai i4),(56,ai (u9.redirs_.length:Int)),(57,ai i22),(81,ab (!r33))] [] ?_ ?_)
   ·exact dk1 (an f11.1 (an f11.2.1 (an f29.1 (an f29.2.1 (an f14.1 (an f14.2.1 (an f32.1 (an f32.2.1 f35))))))))
   refine ik h (fun h=>?_) fun h=>?_
   ·exact Rt h [4]
   refine G [0,1,5,8,9,56,57] ?_
   exact nx h
  refine exit (G [0,1,8,9] ?_)
  exact nx h
 exact exit (Rt h [4])
theorem V6p{w11:Y6}{w27:Y4}(c:AllG env [S27 w27,S11 w11]):Q0a env (S27 (F27 w11 w27)):=by
 refine hd c K7n 38 fun O X hS hX hpf hk ⟨a1,b2⟩=>fun r (h:F27 w11 w27 a1 b2=some r)=>gs ?_
 rw[F27]at h
 refine R [0,1] ?_
 refine seq (R [0,1,7,8] ?_)
 refine block (Lp h (fun i4=>⟨sl [(0,vWo a1),(1,vWo b2),(7,ai (a1.length:Int)),(8,ai i4)],38,[]⟩) ?_)
 clear h
 rintro i4 m7 h
 rw[Z2m]at h
 try dsimp only at h
 refine AW.st (R [0,1,7,8,9] ?_)
 refine seq (iz h (fun h=>?_) fun h=>?_)
 ·refine skip (seq ?_)
  refine block (R [0,1,5,7,8] ?_)
  obtain⟨u9,f11,h⟩:=oc h fun _=>Q0j
  obtain⟨u12,f14,h⟩:=oc h fun _=>Q0j
  obtain⟨r15,f17,h⟩:=oc h (Zt2 hk 0 rfl)
  obtain⟨r18,q19,h⟩:=obs h
  replace q19:=Q0d q19
  have f20:=fun hg=>(hk 1 11 rfl).ret (u9.cmd_,u12.cmd_) (q19 hg) rfl rfl
  refine seq (dreg mixed hS (ordp hpf (by kernel_rfl)) [(0,vWo a1),(1,vWo b2),(7,ai (a1.length:Int)),(8,ai i4),(36,ab (!r15||!r18))] [] ?_ ?_)
  ·clear h hk hS hX c
   exact dh1 (an f11.1 (an f11.2.1 (an f14.1 (an f14.2.1 (an (ca f17) (ap1 11 hpf f20))))))
  refine ik h (fun h=>?_) fun h=>?_
  ·exact Rt h [4]
  refine G [0,1,7,8] ?_
  exact nx h
 exact exit (Rt h [4])
theorem g_F3(c:AllG env [S7 F7,S8,S9,S10 (K10 BIG),S11 (K11 BIG)]):Q0a env S3:=by
 refine hd c fn_3 46 ?_
 rintro O X hS hX hpf hk (s1:Str) (r:Bool) (h:F3 s1=some r)
 have pf_10:O.pf 10=true:=pft hpf 10 rfl
 have pf_11:O.pf 11=true:=pft hpf 11 rfl
 refine gs ?_
 rw[F3]at h
 refine R [0] ?_
 refine seq (R [0,11] ?_)
 refine ik h (fun h=>?_) fun h=>?_
 ·obtain⟨r4,q5,h⟩:=obs h
  have f6:=hk 0 7 rfl
  replace f6:=f6.ret () ((S7_F F7).trans q5) rfl rfl
  refine seq (rg hS [2] (di1 (ap1 7 hpf f6)) ?_)
  exact Rf h
 refine seq (Ua3 h [0,3,4,5] (Zt hk 1 8 s1) fun r7 r8 r9 h=>?_)
 refine seq (Ua3 h [3,4,5,6,7,8] (Zt hk 2 9 s1) fun r12 r13 r14 h=>?_)
 obtain⟨r17,q18,h⟩:=obs h
 have f19:=hk 3 10 rfl
 replace q18:=Q0d q18
 replace f19:=fun hg=>f19.ret (r7,r12) (q18 hg) rfl rfl
 obtain⟨r20,q21,h⟩:=obs h
 have f22:=hk 4 11 rfl
 replace q21:=Q0d q21
 replace f22:=fun hg=>f22.ret (r7,r12) (q21 hg) rfl rfl
 obtain⟨r23,q24,h⟩:=obs h
 have f25:=hk 0 7 rfl
 replace q24:=Q0d q24
 replace f25:=fun hg=>f25.ret () ((S7_F F7).trans (q24 hg)) rfl rfl
 refine seq (reg hS [(2,ab ((((decide (r8=r13)&&decide (r9=r14))&&r17)&&r20)&&r23))] [] ?_ ?_)
 ·clear h hk hS hX c
  exact dh1 (an pf_10 (an f19 (an pf_11 (an f22 (ap1 7 hpf f25)))))
 exact Rf h
end Go.Abs.U48
