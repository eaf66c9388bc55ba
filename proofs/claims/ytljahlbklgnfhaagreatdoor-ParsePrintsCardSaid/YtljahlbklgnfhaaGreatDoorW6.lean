import Derived.Test.YtljahlbklgnfhaaGreatDoorD1
set_option linter.unusedVariables false
set_option linter.unusedSimpArgs false
set_option linter.defProp false
set_option maxRecDepth 8000
set_option maxHeartbeats 4000000
namespace Go.Abs.U48
open Go.RowKit Go.Proofs AW
theorem V7h(c:AllG env [(S85 F85)]):Q0a env (S49 F49):=by
 refine hd c X4y 9 ?_
 rintro O X hS hX hpf hk (s1:(List Cmd)) (r:Bool) (h:F49 s1=some r)
 refine gs ?_
 rw[F49]at h
 refine R [0,1] ?_
 refine seq (Ua1 h [4] (Z hk 0 85 s1) fun r3 h=>?_)
 exact Rf h
theorem V7t(c:AllG env [(S15 (K15 BIG)),(S49 F49)]):Q0a env (S21 F21):=by
 refine hd c V9q 11 ?_
 rintro O X hS hX hpf hk (l1:(List Cmd)) (r:Bool) (h:F21 l1=some r)
 have pf_15:O.pf 15=true:=pft hpf 15 rfl
 refine gs ?_
 rw[F21]at h
 refine R [0] ?_
 obtain⟨r3,q4,h⟩:=obs h
 have f5:=hk 0 15 rfl
 replace f5:=f5.ret l1 q4 rfl rfl
 refine seq (AW.cases (decide (r3≤1024)) (fun hsp23=>?_) (fun hsp23=>?_))
 ·replace h:=Z2l hsp23 h
  obtain⟨r6,f8,h⟩:=oc h (Z hk 1 49 l1)
  exact reg hS [(2,ab (!r6))] [] (dk1 (an pf_15 (an f5 (an hsp23 (cc f8))))) (Rf h)
 replace h:=Z2m hsp23 h
 exact reg hS [(2,ab false)] [] (dk1 (an pf_15 (an f5 hsp23))) (Rf h)
theorem g_F8(c:AllG env [(S19 F19),(S20 F20),(S21 F21)]):Q0a env (S8 F8):=by
 refine hd c fn_8 34 ?_
 rintro O X hS hX hpf hk (s1:Str) (r:(List Cmd)×Int×Int) (h:F8 s1=some r)
 refine gs ?_
 rw[F8]at h
 refine R [0] ?_
 refine seq (Ua3 h [0,5,6,7] (Zt hk 0 19 s1) fun r5 r6 r7 h=>?_)
 refine seq (R [0,5,6,7,16] ?_)
 refine ik h (fun h=>?_) fun h=>?_
 ·exact Rt h [2,3,4]
 refine seq (Ua3 h [6,7,8] (Zt hk 1 20 (s1,r5)) fun r11 r12 r13 h=>?_)
 refine seq (R [6,7,8,27] ?_)
 refine ik h (fun h=>?_) fun h=>?_
 ·exact Rt h [2,3,4]
 refine seq (seq ?_)
 refine Ua1 h [8,32] (Zt hk 2 21 r11) fun r17 h=>?_
 refine ik h (fun h=>?_) fun h=>?_
 ·exact Rt h [2,3,4]
 exact Rt h [2,3,4]
theorem V6l(c:AllG env [(S144 F144)]):Q0a env (S99 F99):=by
 refine hd c V8f 39 ?_
 rintro O X hS hX hpf hk ⟨c1,s2⟩ (r:Bool) (h:F99 c1 s2=some r)
 refine gs ?_
 rw[F99]at h
 refine R [2,3] ?_
 obtain⟨r4,f6,h⟩:=oc h (Zt hk 0 144 c1.name_)
 refine seq (seq ?_)
 refine dreg mixed hS (ordp hpf (by kernel_rfl)) [(2,.ref 0 0),(3,.ref 1 0),(20,ab (!(s2.name_==r4)||(!s2.name_&&!decide (c1.name_=[]))))] [V6 c1,.var [ab s2.name_,ab s2.words_,ab s2.redirs_]] ?_ ?_
 ·clear h hk hS hX c
  exact dh1 (ca f6)
 refine ik h (fun h=>?_) fun h=>?_
 ·exact Rt h [4]
 refine seq (reg hS [(4,ab ((s2.words_||decide ((c1.words_.length:Int)=0))&&(s2.redirs_||decide ((c1.redirs_.length:Int)=0))))] [V6 c1,.var [ab s2.name_,ab s2.words_,ab s2.redirs_]] ?_ ?_)
 ·clear h hk hS hX c
  exact dh
 exact Rf h
theorem K3s{w98:Y4}(c:AllG env [(S98 w98),(S99 F99)]):Q0a env (S64 (F64 w98)):=by
 refine hd c V8x 24 ?_
 rintro O X hS hX hpf hk (c1:Cmd) (r:Bool) (h:F64 w98 c1=some r)
 have pf_99:O.pf 99=true:=pft hpf 99 rfl
 refine gs ?_
 rw[F64]at h
 refine R [1] ?_
 refine seq (R [1,5] ?_)
 refine ik h (fun h=>?_) fun h=>?_
 ·refine seq (Ua1 h [2] (Zt hk 0 98 c1) fun r4 h=>?_)
  exact Rf h
 obtain⟨r7,f9,h⟩:=oc h (Zt hk 1 99 (c1,Shape.mk false false false))
 obtain⟨u10,f12,h⟩:=oc h fun _ q=>Q6y (Q0b q)
 try simp only[NRM,Int.reduceToNat]at f12
 obtain⟨r13,q14,h⟩:=obs h
 replace q14:=Q0b q14
 have f15:=fun hg=>(hk 0 98 rfl).ret u10 (q14 hg) rfl rfl
 refine seq (reg hS [(2,ab ((r7&&decide ((c1.kids_.length:Int)=1))&&r13))] [V6 c1] ?_ ?_)
 ·clear h hk hS hX c
  exact dh1 (an pf_99 (an (ca f9) (an f12.1 (an f12.2.1 (ap1 98 hpf f15)))))
 exact Rf h
theorem K3t{w98:Y4}(c:AllG env [(S64 (F64 w98))]):Q0a env (S63 (F63 w98)):=by
 refine hd c V8y 6 ?_
 rintro O X hS hX hpf hk (c1:Cmd) (r:Bool) (h:F63 w98 c1=some r)
 refine gs ?_
 rw[F63]at h
 refine R [1] ?_
 refine seq (Ua1 h [2] (Zt hk 0 64 c1) fun r3 h=>?_)
 exact Rf h
theorem X1f{w98:Y4}(c:AllG env [(S63 (F63 w98))]):Q0a env (X5l (J1p w98)):=by
 refine hd c X4x 19 ?_
 rintro O X hS hX hpf hk (s1:(List Cmd)) (r:Int) (h:J1p w98 s1=some r)
 refine gs ?_
 rw[J1p]at h
 refine R [0,1] ?_
 refine seq (R [0,1,7,8] ?_)
 refine block (Lp h (fun i3=>⟨sl [(0,vC s1),(1,.fn 63 []),(7,ai (s1.length:Int)),(8,ai i3)],19,[]⟩) ?_)
 clear h
 rintro i3 m6 h
 rw[Z8v]at h
 try dsimp only at h
 refine AW.st (R [0,1,7,8,9] ?_)
 refine seq (iz h (fun h=>?_) fun h=>?_)
 ·refine skip (seq ?_)
  refine block (R [0,1,5,7,8] ?_)
  obtain⟨u8,f10,h⟩:=oc h fun _=>Q0f
  obtain⟨r11,f13,h⟩:=oc h (Zt hk 0 63 u8)
  refine seq (rg hS [0,1,5,7,8,16] (di1 (an f10.1 (an f10.2.1 (ca f13)))) ?_)
  refine ik h (fun h=>?_) fun h=>?_
  ·exact Rt h [4]
  refine G [0,1,7,8] ?_
  exact nx h
 exact exit (Rt h [4])
theorem X1g{w98:Y4}(c:AllG env [(X5l (J1p w98))]):Q0a env (X5n (J1v w98)):=by
 refine hd c X4y 9 ?_
 rintro O X hS hX hpf hk (s1:(List Cmd)) (r:Bool) (h:J1v w98 s1=some r)
 refine gs ?_
 rw[J1v]at h
 refine R [0,1] ?_
 refine seq (Ua1 h [4] (Z hk 0 85 s1) fun r3 h=>?_)
 exact Rf h
theorem K3y{w98:Y4}(c:AllG env [(X5n (J1v w98))]):Q0a env (S29 (F29 w98)):=by
 refine hd c V9p 6 ?_
 rintro O X hS hX hpf hk (l1:(List Cmd)) (r:Bool) (h:F29 w98 l1=some r)
 refine gs ?_
 rw[F29]at h
 refine R [0] ?_
 refine seq (Ua1 h [2] (Z hk 0 49 l1) fun r3 h=>?_)
 exact Rf h
theorem K6b{w182:Y4}(c:AllG env [(S182 w182)]):Q0a env (S183 (F183 w182)):=by
 refine hd c V0u 6 ?_
 rintro O X hS hX hpf hk (k1:Cmd) (r:Bool) (h:F183 w182 k1=some r)
 refine gs ?_
 rw[F183]at h
 refine R [1] ?_
 refine seq (Ua1 h [2] (Zt hk 0 182 k1) fun r3 h=>?_)
 exact Rf h
theorem X9u{w182:Y4}(c:AllG env [(S183 (F183 w182))]):Q0a env (K0r (J3u w182)):=by
 refine hd c X4x 19 ?_
 rintro O X hS hX hpf hk (s1:(List Cmd)) (r:Int) (h:J3u w182 s1=some r)
 refine gs ?_
 rw[J3u]at h
 refine R [0,1] ?_
 refine seq (R [0,1,7,8] ?_)
 refine block (Lp h (fun i3=>⟨sl [(0,vC s1),(1,.fn 183 []),(7,ai (s1.length:Int)),(8,ai i3)],19,[]⟩) ?_)
 clear h
 rintro i3 m6 h
 rw[Z8u]at h
 try dsimp only at h
 refine AW.st (R [0,1,7,8,9] ?_)
 refine seq (iz h (fun h=>?_) fun h=>?_)
 ·refine skip (seq ?_)
  refine block (R [0,1,5,7,8] ?_)
  obtain⟨u8,f10,h⟩:=oc h fun _=>Q0f
  obtain⟨r11,f13,h⟩:=oc h (Zt hk 0 183 u8)
  refine seq (rg hS [0,1,5,7,8,16] (di1 (an f10.1 (an f10.2.1 (ca f13)))) ?_)
  refine ik h (fun h=>?_) fun h=>?_
  ·exact Rt h [4]
  refine G [0,1,7,8] ?_
  exact nx h
 exact exit (Rt h [4])
theorem X9z{w182:Y4}(c:AllG env [(K0r (J3u w182))]):Q0a env (K0t (J1u w182)):=by
 refine hd c X4y 9 ?_
 rintro O X hS hX hpf hk (s1:(List Cmd)) (r:Bool) (h:J1u w182 s1=some r)
 refine gs ?_
 rw[J1u]at h
 refine R [0,1] ?_
 refine seq (Ua1 h [4] (Z hk 0 85 s1) fun r3 h=>?_)
 exact Rf h
theorem K6x{w182:Y4}(c:AllG env [(S182 w182),(S99 F99),(K0t (J1u w182))]):Q0a env (S143 (F143 w182)):=by
 refine hd c V1u 23 ?_
 rintro O X hS hX hpf hk (c1:Cmd) (r:Bool) (h:F143 w182 c1=some r)
 have pf_99:O.pf 99=true:=pft hpf 99 rfl
 refine gs ?_
 rw[F143]at h
 refine R [1] ?_
 refine seq (R [1,5] ?_)
 refine ik h (fun h=>?_) fun h=>?_
 ·refine seq (Ua1 h [2] (Zt hk 0 182 c1) fun r4 h=>?_)
  exact Rf h
 obtain⟨r7,f9,h⟩:=oc h (Zt hk 1 99 (c1,Shape.mk false false false))
 refine seq (AW.cases ((r7&&decide (2≤(c1.kids_.length:Int)))) (fun hsp25=>?_) (fun hsp25=>?_))
 ·replace h:=Z2l hsp25 h
  try simp only[Bool.and_eq_true,Bool.or_eq_false_iff]at hsp25
  obtain⟨r10,f12,h⟩:=oc h (Z hk 2 49 c1.kids_)
  refine reg hS [(2,ab (!r10))] [V6 c1] ?_ ?_
  ·clear h hk hS hX c
   exact dh1 (an pf_99 (an (ca f9) (an hsp25 (cc f12))))
  exact Rf h
 replace h:=Z2m hsp25 h
 try simp only[Bool.and_eq_true,Bool.or_eq_false_iff]at hsp25
 refine reg hS [(2,ab false)] [V6 c1] ?_ ?_
 ·clear h hk hS hX c
  exact dh1 (an pf_99 (an (ca f9) hsp25))
 exact Rf h
theorem V6m{w98:Y4}{w182:Y4}(c:AllG env [(S143 (F143 w182)),(S99 F99),(S98 w98)]):Q0a env (S98 (F98 w98 w182)):=by
 refine hd c K8j 36 ?_
 rintro O X hS hX hpf hk (c1:Cmd) (r:Bool) (h:F98 w98 w182 c1=some r)
 have pf_98:O.pf 98=true:=pft hpf 98 rfl
 have pf_99:O.pf 99=true:=pft hpf 99 rfl
 refine gs ?_
 rw[F98]at h
 refine R [1] ?_
 refine seq (seq ?_)
 refine reg hS [(1,.ref 0 0),(10,ab (!decide (c1.kind_=5)&&!decide (c1.kind_=6)))] [V6 c1] ?_ ?_
 ·clear h hk hS hX c
  exact dh
 refine ik h (fun h=>?_) fun h=>?_
 ·refine seq (Ua1 h [2] (Zt hk 0 143 c1) fun r4 h=>?_)
  exact Rf h
 obtain⟨r7,f9,h⟩:=oc h (Zt hk 1 99 (c1,Shape.mk false false false))
 obtain⟨u10,f12,h⟩:=oc h fun _ q=>Q6y (Q0b q)
 try simp only[NRM,Int.reduceToNat]at f12
 obtain⟨r13,q14,h⟩:=obs h
 replace q14:=Q0b q14
 have f15:=fun hg=>(hk 2 98 rfl).ret u10 (q14 hg) rfl rfl
 obtain⟨u16,f18,h⟩:=oc h fun _ q=>Q6y (Q0b q)
 try simp only[NRM,Int.reduceToNat]at f18
 obtain⟨r19,q20,h⟩:=obs h
 replace q20:=Q0b q20
 have f21:=fun hg=>(hk 0 143 rfl).ret u16 (q20 hg) rfl rfl
 refine seq (reg hS [(2,ab (((r7&&decide ((c1.kids_.length:Int)=2))&&r13)&&r19))] [V6 c1] ?_ ?_)
 ·clear h hk hS hX c
  exact dh1 (an pf_99 (an (ca f9) (an f12.1 (an f12.2.1 (an pf_98 (an f15 (an f18.1 (an f18.2.1 (ap1 143 hpf f21)))))))))
 exact Rf h
theorem K4k{w260:Y3}(c:AllG env [(S260 w260)]):Q0a env (S261 (F261 w260)):=by
 refine hd c K9e 6 ?_
 rintro O X hS hX hpf hk (x1:Word) (r:Bool) (h:F261 w260 x1=some r)
 refine gs ?_
 rw[F261]at h
 refine R [1] ?_
 refine seq (Ua1 h [2] (Zt hk 0 260 x1) fun r3 h=>?_)
 exact Rf h
theorem X4q{w260:Y3}(c:AllG env [(S261 (F261 w260))]):Q0a env (X2h (Z5d w260)):=by
 refine hd c X6w 19 ?_
 rintro O X hS hX hpf hk (s1:(List Word)) (r:Int) (h:Z5d w260 s1=some r)
 refine gs ?_
 rw[Z5d]at h
 refine R [0,1] ?_
 refine seq (R [0,1,7,8] ?_)
 refine block (Lp h (fun i3=>⟨sl [(0,vWo s1),(1,.fn 261 []),(7,ai (s1.length:Int)),(8,ai i3)],19,[]⟩) ?_)
 clear h
 rintro i3 m6 h
 rw[Z5c]at h
 try dsimp only at h
 refine AW.st (R [0,1,7,8,9] ?_)
 refine seq (iz h (fun h=>?_) fun h=>?_)
 ·refine skip (seq ?_)
  refine block (R [0,1,5,7,8] ?_)
  obtain⟨u8,f10,h⟩:=oc h fun _=>Q0f
  obtain⟨r11,f13,h⟩:=oc h (Zt hk 0 261 u8)
  refine seq (rg hS [0,1,5,7,8,16] (di1 (an f10.1 (an f10.2.1 (ca f13)))) ?_)
  refine ik h (fun h=>?_) fun h=>?_
  ·exact Rt h [4]
  refine G [0,1,7,8] ?_
  exact nx h
 exact exit (Rt h [4])
theorem X4r{w260:Y3}(c:AllG env [(X2h (Z5d w260))]):Q0a env (X2i (Z2g w260)):=by
 refine hd c X6y 9 ?_
 rintro O X hS hX hpf hk (s1:(List Word)) (r:Bool) (h:Z2g w260 s1=some r)
 refine gs ?_
 rw[Z2g]at h
 refine R [0,1] ?_
 refine seq (Ua1 h [4] (Z hk 0 259 s1) fun r3 h=>?_)
 exact Rf h
theorem K4y{w260:Y3}(c:AllG env [(S260 w260),(X2i (Z2g w260))]):Q0a env (S234 (F234 w260)):=by
 refine hd c K9q 34 ?_
 rintro O X hS hX hpf hk (w1:Word) (r:Bool) (h:F234 w260 w1=some r)
 refine gs ?_
 rw[F234]at h
 refine R [1] ?_
 refine seq (R [1,5] ?_)
 refine ik h (fun h=>?_) fun h=>?_
 ·refine seq (Ua1 h [2] (Zt hk 0 260 w1) fun r4 h=>?_)
  exact Rf h
 refine seq (AW.cases ((((decide (w1.text_=[])&&decide (w1.quoted_=[]))&&decide ((w1.cmd_.length:Int)=0))&&decide (2≤(w1.words_.length:Int)))) (fun hsp27=>?_) (fun hsp27=>?_))
 ·replace h:=Z2l hsp27 h
  try simp only[Bool.and_eq_true,Bool.or_eq_false_iff]at hsp27
  obtain⟨r7,f9,h⟩:=oc h (Z hk 1 232 w1.words_)
  refine reg hS [(2,ab (!r7))] [V17 w1] ?_ ?_
  ·clear h hk hS hX c
   exact dh1 (an hsp27 (cc f9))
  exact Rf h
 replace h:=Z2m hsp27 h
 try simp only[Bool.and_eq_true,Bool.or_eq_false_iff]at hsp27
 refine reg hS [(2,ab false)] [V17 w1] ?_ ?_
 ·clear h hk hS hX c
  exact dh1 hsp27
 exact Rf h
theorem K4z{w260:Y3}(c:AllG env [(S234 (F234 w260))]):Q0a env (S233 (F233 w260)):=by
 refine hd c K9r 6 ?_
 rintro O X hS hX hpf hk (w1:Word) (r:Bool) (h:F233 w260 w1=some r)
 refine gs ?_
 rw[F233]at h
 refine R [1] ?_
 refine seq (Ua1 h [2] (Zt hk 0 234 w1) fun r3 h=>?_)
 exact Rf h
theorem K4m{w260:Y3}(c:AllG env [(S233 (F233 w260))]):Q0a env (S259 (F259 w260)):=by
 refine hd c X6w 19 ?_
 rintro O X hS hX hpf hk (s1:(List Word)) (r:Int) (h:F259 w260 s1=some r)
 refine gs ?_
 rw[F259]at h
 refine R [0,1] ?_
 refine seq (R [0,1,7,8] ?_)
 refine block (Lp h (fun i3=>⟨sl [(0,vWo s1),(1,.fn 233 []),(7,ai (s1.length:Int)),(8,ai i3)],19,[]⟩) ?_)
 clear h
 rintro i3 m6 h
 rw[J3y]at h
 try dsimp only at h
 refine AW.st (R [0,1,7,8,9] ?_)
 refine seq (iz h (fun h=>?_) fun h=>?_)
 ·refine skip (seq ?_)
  refine block (R [0,1,5,7,8] ?_)
  obtain⟨u8,f10,h⟩:=oc h fun _=>Q0f
  obtain⟨r11,f13,h⟩:=oc h (Zt hk 0 233 u8)
  refine seq (rg hS [0,1,5,7,8,16] (di1 (an f10.1 (an f10.2.1 (ca f13)))) ?_)
  refine ik h (fun h=>?_) fun h=>?_
  ·exact Rt h [4]
  refine G [0,1,7,8] ?_
  exact nx h
 exact exit (Rt h [4])
theorem K5a{w260:Y3}(c:AllG env [(S259 (F259 w260))]):Q0a env (S232 (F232 w260)):=by
 refine hd c X6y 9 ?_
 rintro O X hS hX hpf hk (s1:(List Word)) (r:Bool) (h:F232 w260 s1=some r)
 refine gs ?_
 rw[F232]at h
 refine R [0,1] ?_
 refine seq (Ua1 h [4] (Z hk 0 259 s1) fun r3 h=>?_)
 exact Rf h
theorem K5r{w260:Y3}(c:AllG env [(S232 (F232 w260))]):Q0a env (S207 (F207 w260)):=by
 refine hd c V0j 6 ?_
 rintro O X hS hX hpf hk (l1:(List Word)) (r:Bool) (h:F207 w260 l1=some r)
 refine gs ?_
 rw[F207]at h
 refine R [0] ?_
 refine seq (Ua1 h [2] (Z hk 0 232 l1) fun r3 h=>?_)
 exact Rf h
theorem K5q{w182:Y4}(c:AllG env [(S182 w182)]):Q0a env (S208 (F208 w182)):=by
 refine hd c V0i 12 ?_
 rintro O X hS hX hpf hk (l1:(List Cmd)) (r:Bool) (h:F208 w182 l1=some r)
 refine gs ?_
 rw[F208]at h
 refine R [0] ?_
 obtain⟨u3,f5,h⟩:=oc h fun _ q=>Q6y (Q0b q)
 try simp only[NRM,Int.reduceToNat]at f5
 obtain⟨r6,q7,h⟩:=obs h
 replace q7:=Q0b q7
 have f8:=fun hg=>(hk 0 182 rfl).ret u3 (q7 hg) rfl rfl
 refine seq (reg hS [(2,ab (decide ((l1.length:Int)=1)&&r6))] [] ?_ ?_)
 ·clear h hk hS hX c
  exact dh1 (an f5.1 (an f5.2.1 (ap1 182 hpf f8)))
 exact Rf h
theorem K7r(c:AllG env [(S155 F155)]):Q0a env (S108 F108):=by
 refine hd c V2t 8 ?_
 rintro O X hS hX hpf hk ⟨s1,suffix2⟩ (r:Bool) (h:F108 s1 suffix2=some r)
 refine gs ?_
 rw[F108]at h
 refine R [0,1] ?_
 refine seq (Ua1 h [4] (Zt hk 0 155 (s1,suffix2)) fun r4 h=>?_)
 exact Rf h
theorem K4i(c:AllG env []):Q0a env (S263 F263):=by
 refine hd c K9c 30 ?_
 rintro O X hS hX hpf hk (w1:Word) (r:Bool) (h:F263 w1=some r)
 refine gs ?_
 rw[F263]at h
 refine R [1] ?_
 refine seq (R [1,10] ?_)
 refine ik h (fun h=>?_) fun h=>?_
 ·exact Rt h [2]
 refine seq (R [1,13,14] ?_)
 refine block (Lp h (fun i4=>⟨sl [(1,.ref 0 0),(13,ai (w1.quoted_.length:Int)),(14,ai i4)],30,[V17 w1]⟩) ?_)
 clear h
 rintro i4 m7 h
 rw[Z0u]at h
 try dsimp only at h
 refine AW.st (R [1,13,14,15] ?_)
 refine seq (iz h (fun h=>?_) fun h=>?_)
 ·refine skip (seq ?_)
  refine block (R [1,3,13,14] ?_)
  obtain⟨c9,f11,h⟩:=oc h fun _=>Q3m
  refine seq (reg hS [(1,.ref 0 0),(13,ai (w1.quoted_.length:Int)),(14,ai i4),(28,ab (!decide (c9=48)&&!decide (c9=49)))] [V17 w1] ?_ ?_)
  ·clear h hk hS hX c
   exact dh1 (an f11.1 (an f11.2.1 f11.2.2))
  refine ik h (fun h=>?_) fun h=>?_
  ·exact Rt h [2]
  refine G [1,13,14] ?_
  exact nx h
 exact exit (Rt h [2])
theorem K4h(c:AllG env []):Q0a env (S264 F264):=by
 refine hd c K9b 28 ?_
 rintro O X hS hX hpf hk (w1:Word) (r:Bool) (h:F264 w1=some r)
 refine gs ?_
 rw[F264]at h
 refine R [1] ?_
 refine seq (reg hS [(2,ab ((((decide (w1.kind_=0)&&decide (w1.text_=[]))&&decide (w1.quoted_=[]))&&decide ((w1.words_.length:Int)=0))&&decide ((w1.cmd_.length:Int)=0)))] [V17 w1] ?_ ?_)
 ·clear h hk hS hX c
  exact dh
 exact Rf h
theorem K4v{w260:Y3}(c:AllG env [(S234 (F234 w260)),(S108 F108),(S263 F263),Q0w,(S264 F264)]):Q0a env (S237 (F237 w260)):=by
 refine hd c K9n 102 ?_
 rintro O X hS hX hpf hk (r1:Redir) (r:Bool) (h:F237 w260 r1=some r)
 have pf_263:O.pf 263=true:=pft hpf 263 rfl
 refine gs ?_
 rw[F237]at h
 refine R [1] ?_
 refine seq (seq ?_)
 refine reg hS [(1,.ref 0 0),(41,ab (((((decide (r1.fd_<0)||decide (64≤r1.fd_))||decide (r1.from_<0))||decide (64≤r1.from_))||(!decide (r1.kind_=4)&&r1.raw_))||(!decide (r1.kind_=5)&&!decide (r1.from_=0))))] [V16 r1] ?_ ?_
 ·clear h hk hS hX c
  exact dh
 refine ik h (fun h=>?_) fun h=>?_
 ·exact Rt h [2]
 refine seq (R [1,43] ?_)
 refine block (seqM ⟨sl [(1,.ref 0 0),(43,ai r1.kind_),(44,ab (bif decide (r1.kind_=1)then decide (r1.kind_=1)else(bif decide (r1.kind_=2)then decide (r1.kind_=2)else decide (r1.kind_=3))))],102,[V16 r1]⟩ ?_ ?_)
 ·refine R [1,43,44] ?_
  refine cond (b:=decide (r1.kind_=1)) rfl (fun hb4=>?_) (fun hb4=>?_)
  ·exact skip (Weak.of_eq (Weak.slots (L:=[(1,.ref 0 0),(43,ai r1.kind_),(44,ab (decide (r1.kind_=1)))]) kp) (wq hb4))
  refine R [1,43,44] ?_
  refine cond (b:=decide (r1.kind_=2)) rfl (fun hb5=>?_) (fun hb5=>?_)
  ·exact skip (Weak.of_eq (Weak.slots (L:=[(1,.ref 0 0),(43,ai r1.kind_),(44,ab (decide (r1.kind_=2)))]) kp) (by simp only[hb4,hb5,cond_true,cond_false,Q1y,Bool.not_true,Bool.not_false]<;>rfl))
  refine G [1,43,44] ?_
  exact Weak.of_eq (Weak.slots (L:=[(1,.ref 0 0),(43,ai r1.kind_),(44,ab (decide (r1.kind_=3)))]) kp) (by simp only[hb4,hb5,cond_true,cond_false,Q1y,Bool.not_true,Bool.not_false]<;>rfl)
 refine iz h (fun h=>?_) fun h=>?_
 ·refine seq (Ua1 h [2] (Zt hk 0 234 r1.word_) fun r7 h=>?_)
  exact Rf h
 refine R [1,43,51] ?_
 refine iz h (fun h=>?_) fun h=>?_
 ·refine R [1,3] ?_
  obtain⟨r11,q12,h⟩:=obs h
  replace q12:=Q0b q12
  have f13:=fun hg=>(hk 1 108 rfl).ret (r1.word_.text_,([10]:Str)) (q12 hg) rfl rfl
  try simp only[PVE]at f13
  refine seq (reg hS [(1,.ref 0 0),(3,.ref 1 0),(4,ab (decide (r1.word_.text_=[])||r11))] [V16 r1,V18 r1] ?_ ?_)
  ·clear h hk hS hX c
   exact dh1 (ap1 108 hpf f13)
  obtain⟨r14,q15,h⟩:=obs h
  replace q15:=Q0b q15
  have f16:=fun hg=>(hk 2 263 rfl).ret r1.word_ (q15 hg) rfl rfl
  obtain⟨n17,q18,h⟩:=obs h
  replace q18:=Q0b q18
  have f19:=fun hg=>(hk 3 40 rfl).ret (r1.word_.quoted_,49) (q18 hg) rfl rfl
  refine seq (reg hS [(2,ab ((((((decide (r1.fd_=0)&&decide (r1.word_.kind_=1))&&decide ((r1.word_.words_.length:Int)=0))&&decide ((r1.word_.cmd_.length:Int)=0))&&r14)&&decide (n17<0))&&(decide (r1.word_.text_=[])||r11)))] [V16 r1,V18 r1] ?_ ?_)
  ·clear h hk hS hX c
   exact dh1 (an pf_263 (an f16 (ap1 40 hpf f19)))
  exact Rf h
 refine seqM ⟨sl [(1,.ref 0 0),(96,ab (bif decide (r1.kind_=5)then decide (r1.kind_=5)else decide (r1.kind_=6)))],102,[V16 r1]⟩ ?_ ?_
 ·refine R [1,43,96] ?_
  refine cond (b:=decide (r1.kind_=5)) rfl (fun hb20=>?_) (fun hb20=>?_)
  ·exact skip (Weak.of_eq (Weak.slots (L:=[(1,.ref 0 0),(96,ab (decide (r1.kind_=5)))]) kp) (wq hb20))
  refine G [1,96] ?_
  exact Weak.of_eq (Weak.slots (L:=[(1,.ref 0 0),(96,ab (decide (r1.kind_=6)))]) kp) (wq hb20)
 refine ik h (fun h=>?_) fun h=>?_
 ·refine seq (Ua1 h [2] (Zt hk 4 264 r1.word_) fun r22 h=>?_)
  exact Rf h
 exact Rt h [2]
theorem K4w{w260:Y3}(c:AllG env [(S237 (F237 w260))]):Q0a env (S236 (F236 w260)):=by
 refine hd c K9o 6 ?_
 rintro O X hS hX hpf hk (r1:Redir) (r:Bool) (h:F236 w260 r1=some r)
 refine gs ?_
 rw[F236]at h
 refine R [1] ?_
 refine seq (Ua1 h [2] (Zt hk 0 237 r1) fun r3 h=>?_)
 exact Rf h
theorem K4j{w260:Y3}(c:AllG env [(S236 (F236 w260))]):Q0a env (S262 (F262 w260)):=by
 refine hd c K9d 19 ?_
 rintro O X hS hX hpf hk (s1:(List Redir)) (r:Int) (h:F262 w260 s1=some r)
 refine gs ?_
 rw[F262]at h
 refine R [0,1] ?_
 refine seq (R [0,1,7,8] ?_)
 refine block (Lp h (fun i3=>⟨sl [(0,vRe s1),(1,.fn 236 []),(7,ai (s1.length:Int)),(8,ai i3)],19,[]⟩) ?_)
 clear h
 rintro i3 m6 h
 rw[J3x]at h
 try dsimp only at h
 refine AW.st (R [0,1,7,8,9] ?_)
 refine seq (iz h (fun h=>?_) fun h=>?_)
 ·refine skip (seq ?_)
  refine block (R [0,1,5,7,8] ?_)
  obtain⟨u8,f10,h⟩:=oc h fun _=>Q0f
  obtain⟨r11,f13,h⟩:=oc h (Zt hk 0 236 u8)
  refine seq (rg hS [0,1,5,7,8,16] (di1 (an f10.1 (an f10.2.1 (ca f13)))) ?_)
  refine ik h (fun h=>?_) fun h=>?_
  ·exact Rt h [4]
  refine G [0,1,7,8] ?_
  exact nx h
 exact exit (Rt h [4])
theorem K4x{w260:Y3}(c:AllG env [(S262 (F262 w260))]):Q0a env (S235 (F235 w260)):=by
 refine hd c K9p 9 ?_
 rintro O X hS hX hpf hk (s1:(List Redir)) (r:Bool) (h:F235 w260 s1=some r)
 refine gs ?_
 rw[F235]at h
 refine R [0,1] ?_
 refine seq (Ua1 h [4] (Z hk 0 262 s1) fun r3 h=>?_)
 exact Rf h
theorem K5p{w260:Y3}(c:AllG env [(S235 (F235 w260))]):Q0a env (S209 (F209 w260)):=by
 refine hd c V0h 6 ?_
 rintro O X hS hX hpf hk (l1:(List Redir)) (r:Bool) (h:F209 w260 l1=some r)
 refine gs ?_
 rw[F209]at h
 refine R [0] ?_
 refine seq (Ua1 h [2] (Z hk 0 235 l1) fun r3 h=>?_)
 exact Rf h
theorem K5o{w98:Y4}(c:AllG env [(S99 F99),(S29 (F29 w98))]):Q0a env (S210 (F210 w98)):=by
 refine hd c V0g 16 ?_
 rintro O X hS hX hpf hk (c1:Cmd) (r:Bool) (h:F210 w98 c1=some r)
 have pf_99:O.pf 99=true:=pft hpf 99 rfl
 refine gs ?_
 rw[F210]at h
 refine R [1] ?_
 obtain⟨r3,q4,h⟩:=obs h
 replace q4:=Q0b q4
 have f5:=fun hg=>(hk 0 99 rfl).ret (c1,Shape.mk false false false) (q4 hg) rfl rfl
 obtain⟨r6,q7,h⟩:=obs h
 replace q7:=Q0b q7
 have f8:=fun hg=>(hk 1 29 rfl).ret c1.kids_ (q7 hg) rfl rfl
 refine seq (reg hS [(2,ab ((decide (c1.kind_=12)&&r3)&&r6))] [V6 c1] ?_ ?_)
 ·clear h hk hS hX c
  exact dh1 (an pf_99 (an f5 (ap1 29 hpf f8)))
 exact Rf h
theorem K5m{w98:Y4}{w260:Y3}(c:AllG env [(S99 F99),(S207 (F207 w260)),(S29 (F29 w98))]):Q0a env (S212 (F212 w98 w260)):=by
 refine hd c V0e 27 ?_
 rintro O X hS hX hpf hk (c1:Cmd) (r:Bool) (h:F212 w98 w260 c1=some r)
 have pf_99:O.pf 99=true:=pft hpf 99 rfl
 have pf_207:O.pf 207=true:=pft hpf 207 rfl
 refine gs ?_
 rw[F212]at h
 refine R [1] ?_
 obtain⟨r3,q4,h⟩:=obs h
 replace q4:=Q0b q4
 have f5:=fun hg=>(hk 0 99 rfl).ret (c1,Shape.mk false true false) (q4 hg) rfl rfl
 obtain⟨r6,q7,h⟩:=obs h
 replace q7:=Q0b q7
 have f8:=fun hg=>(hk 1 207 rfl).ret c1.words_ (q7 hg) rfl rfl
 obtain⟨r9,q10,h⟩:=obs h
 replace q10:=Q0b q10
 have f11:=fun hg=>(hk 2 29 rfl).ret c1.kids_ (q10 hg) rfl rfl
 refine seq (reg hS [(2,ab ((((decide (c1.kind_=18)&&r3)&&decide (1≤(c1.words_.length:Int)))&&r6)&&r9))] [V6 c1] ?_ ?_)
 ·clear h hk hS hX c
  exact dh1 (an pf_99 (an f5 (an pf_207 (an f8 (ap1 29 hpf f11)))))
 exact Rf h
theorem K5n{w98:Y4}{w260:Y3}(c:AllG env [(S212 (F212 w98 w260))]):Q0a env (S211 (F211 w98 w260)):=by
 refine hd c V0f 6 ?_
 rintro O X hS hX hpf hk (k1:Cmd) (r:Bool) (h:F211 w98 w260 k1=some r)
 refine gs ?_
 rw[F211]at h
 refine R [1] ?_
 refine seq (Ua1 h [2] (Zt hk 0 212 k1) fun r3 h=>?_)
 exact Rf h
theorem X9t{w98:Y4}{w260:Y3}(c:AllG env [(S211 (F211 w98 w260))]):Q0a env (K0q (J3t w98 w260)):=by
 refine hd c X4x 19 ?_
 rintro O X hS hX hpf hk (s1:(List Cmd)) (r:Int) (h:J3t w98 w260 s1=some r)
 refine gs ?_
 rw[J3t]at h
 refine R [0,1] ?_
 refine seq (R [0,1,7,8] ?_)
 refine block (Lp h (fun i3=>⟨sl [(0,vC s1),(1,.fn 211 []),(7,ai (s1.length:Int)),(8,ai i3)],19,[]⟩) ?_)
 clear h
 rintro i3 m6 h
 rw[Z8t]at h
 try dsimp only at h
 refine AW.st (R [0,1,7,8,9] ?_)
 refine seq (iz h (fun h=>?_) fun h=>?_)
 ·refine skip (seq ?_)
  refine block (R [0,1,5,7,8] ?_)
  obtain⟨u8,f10,h⟩:=oc h fun _=>Q0f
  obtain⟨r11,f13,h⟩:=oc h (Zt hk 0 211 u8)
  refine seq (rg hS [0,1,5,7,8,16] (di1 (an f10.1 (an f10.2.1 (ca f13)))) ?_)
  refine ik h (fun h=>?_) fun h=>?_
  ·exact Rt h [4]
  refine G [0,1,7,8] ?_
  exact nx h
 exact exit (Rt h [4])
theorem X9y{w98:Y4}{w260:Y3}(c:AllG env [(K0q (J3t w98 w260))]):Q0a env (K0s (J1t w98 w260)):=by
 refine hd c X4y 9 ?_
 rintro O X hS hX hpf hk (s1:(List Cmd)) (r:Bool) (h:J1t w98 w260 s1=some r)
 refine gs ?_
 rw[J1t]at h
 refine R [0,1] ?_
 refine seq (Ua1 h [4] (Z hk 0 85 s1) fun r3 h=>?_)
 exact Rf h
theorem K5l{w260:Y3}(c:AllG env [(S207 (F207 w260)),(S209 (F209 w260)),Q0w,(S134 F134)]):Q0a env (S213 (F213 w260)):=by
 refine hd c V0d 66 ?_
 rintro O X hS hX hpf hk (c1:Cmd) (r:Bool) (h:F213 w260 c1=some r)
 have pf_40:O.pf 40=true:=pft hpf 40 rfl
 have pf_207:O.pf 207=true:=pft hpf 207 rfl
 refine gs ?_
 rw[F213]at h
 refine R [1] ?_
 obtain⟨r3,q4,h⟩:=obs h
 replace q4:=Q0b q4
 have f5:=fun hg=>(hk 0 207 rfl).ret c1.words_ (q4 hg) rfl rfl
 obtain⟨r6,q7,h⟩:=obs h
 replace q7:=Q0b q7
 have f8:=fun hg=>(hk 1 209 rfl).ret c1.redirs_ (q7 hg) rfl rfl
 refine seq (seq ?_)
 refine reg hS [(1,.ref 0 0),(24,ab ((decide (IntKind.wrap .i64 ((c1.words_.length:Int)+(c1.redirs_.length:Int))=0)||!r3)||!r6))] [V6 c1] ?_ ?_
 ·clear h hk hS hX c
  exact dh1 (an pf_207 (an f5 (ap1 209 hpf f8)))
 refine ik h (fun h=>?_) fun h=>?_
 ·exact Rt h [2]
 refine seq (R [1,28] ?_)
 refine ik h (fun h=>?_) fun h=>?_
 ·exact Rt h [2]
 obtain⟨u11,f13,h⟩:=oc h fun _=>Q0f
 try simp only[NRM,Int.reduceToNat]at f13
 refine seq (rg hS [3] (di1 (an f13.1 f13.2.1)) ?_)
 refine seqJ (α:=Int×Str×Str×(List Word)×(List Cmd)) (fun(x14,x15,x16,x17,x18)=>⟨sl [(3,.ref 1 0)],66,[V6 c1,V15 x14 x15 x16 x17 x18]⟩) (fun x=>Z0v x=some r) ?_ ?_
 ·intro⟨x14,x15,x16,x17,x18⟩ h
  rw[Z0v]at h
  try dsimp only at h
  obtain⟨n19,q20,h⟩:=obs h
  replace q20:=Q0b q20
  have f21:=fun hg=>(hk 2 40 rfl).ret (x16,49) (q20 hg) rfl rfl
  obtain⟨r22,q23,h⟩:=obs h
  replace q23:=Q0b q23
  have f24:=fun hg=>(hk 3 134 rfl).ret x15 (q23 hg) rfl rfl
  refine AW.st (seq ?_)
  refine reg hS [(3,.ref 1 0),(4,ab ((decide (x14=1)&&decide (n19<0))&&r22))] [V6 c1,V15 x14 x15 x16 x17 x18] ?_ ?_
  ·clear h hk hS hX c
   exact dh1 (an pf_40 (an f21 (ap1 134 hpf f24)))
  refine seq (reg hS [(2,ab ((!((decide (x14=1)&&decide (n19<0))&&r22)||decide (x15=[110,111,116]))||decide (x15=[105,110])))] [V6 c1,V15 x14 x15 x16 x17 x18] ?_ ?_)
  ·clear h hk hS hX c
   exact dh
  exact Rf h
 refine R [3,35] ?_
 refine ik h (fun h=>?_) fun h=>?_
 ·obtain⟨u26,f28,h⟩:=oc h fun _=>Q0f
  try simp only[NRM,Int.reduceToNat]at f28
  refine rg hS [3] (di1 (an f28.1 f28.2.1)) ?_
  exact⟨(u26.kind_,u26.text_,u26.quoted_,u26.words_,u26.cmd_),h,(Weak.norm (m:=2) (Nat.le_of_ble_eq_true rfl) kp hq rfl rfl)⟩
 exact⟨(u11.kind_,u11.text_,u11.quoted_,u11.words_,u11.cmd_),h,(Weak.norm (m:=2) (Nat.le_of_ble_eq_true rfl) kp hq rfl rfl)⟩
theorem K6c{w98:Y4}{w182:Y4}{w260:Y3}(c:AllG env [(S99 F99),(S207 (F207 w260)),(S208 (F208 w182)),(S29 (F29 w98)),(S209 (F209 w260)),(S210 (F210 w98)),(S182 w182),(K0s (J1t w98 w260)),(S213 (F213 w260))]):Q0a env (S182 (F182 w98 w182 w260)):=by
 refine hd c X7b 169 ?_
 rintro O X hS hX hpf hk (c1:Cmd) (r:Bool) (h:F182 w98 w182 w260 c1=some r)
 have pf_29:O.pf 29=true:=pft hpf 29 rfl
 have pf_99:O.pf 99=true:=pft hpf 99 rfl
 have pf_207:O.pf 207=true:=pft hpf 207 rfl
 have pf_210:O.pf 210=true:=pft hpf 210 rfl
 refine gs ?_
 rw[F182]at h
 refine R [1] ?_
 refine seq (R [1,4] ?_)
 refine block (R [1,4,5] ?_)
 refine iz h (fun h=>?_) fun h=>?_
 ·obtain⟨r4,f6,h⟩:=oc h (Zt hk 0 99 (c1,Shape.mk true true false))
  obtain⟨r7,q8,h⟩:=obs h
  replace q8:=Q0b q8
  have f9:=fun hg=>(hk 1 207 rfl).ret c1.words_ (q8 hg) rfl rfl
  obtain⟨r10,q11,h⟩:=obs h
  replace q11:=Q0b q11
  have f12:=fun hg=>(hk 2 208 rfl).ret c1.kids_ (q11 hg) rfl rfl
  refine seq (reg hS [(2,ab (((r4&&decide ((c1.words_.length:Int)=1))&&r7)&&(decide ((c1.kids_.length:Int)=0)||r10)))] [V6 c1] ?_ ?_)
  ·clear h hk hS hX c
   exact dh1 (an pf_99 (an (ca f6) (an pf_207 (an f9 (ap1 208 hpf f12)))))
  exact Rf h
 refine seqM ⟨sl [(1,.ref 0 0),(4,ai c1.kind_),(32,ab (bif decide (c1.kind_=7)then decide (c1.kind_=7)else(bif decide (c1.kind_=13)then decide (c1.kind_=13)else decide (c1.kind_=9))))],169,[V6 c1]⟩ ?_ ?_
 ·refine R [1,4,32] ?_
  refine cond (b:=decide (c1.kind_=7)) rfl (fun hb13=>?_) (fun hb13=>?_)
  ·exact skip (Weak.of_eq (Weak.slots (L:=[(1,.ref 0 0),(4,ai c1.kind_),(32,ab (decide (c1.kind_=7)))]) kp) (wq hb13))
  refine R [1,4,32] ?_
  refine cond (b:=decide (c1.kind_=13)) rfl (fun hb14=>?_) (fun hb14=>?_)
  ·exact skip (Weak.of_eq (Weak.slots (L:=[(1,.ref 0 0),(4,ai c1.kind_),(32,ab (decide (c1.kind_=13)))]) kp) (by simp only[hb13,hb14,cond_true,cond_false,Q1y,Bool.not_true,Bool.not_false]<;>rfl))
  refine G [1,4,32] ?_
  exact Weak.of_eq (Weak.slots (L:=[(1,.ref 0 0),(4,ai c1.kind_),(32,ab (decide (c1.kind_=9)))]) kp) (by simp only[hb13,hb14,cond_true,cond_false,Q1y,Bool.not_true,Bool.not_false]<;>rfl)
 refine iz h (fun h=>?_) fun h=>?_
 ·obtain⟨r16,f18,h⟩:=oc h (Zt hk 0 99 (c1,Shape.mk false false false))
  obtain⟨r19,q20,h⟩:=obs h
  replace q20:=Q0b q20
  have f21:=fun hg=>(hk 2 208 rfl).ret c1.kids_ (q20 hg) rfl rfl
  refine seq (reg hS [(2,ab (r16&&r19))] [V6 c1] ?_ ?_)
  ·clear h hk hS hX c
   exact dh1 (an pf_99 (an (ca f18) (ap1 208 hpf f21)))
  exact Rf h
 refine R [1,4,44] ?_
 refine iz h (fun h=>?_) fun h=>?_
 ·obtain⟨r23,f25,h⟩:=oc h (Zt hk 0 99 (c1,Shape.mk false false true))
  obtain⟨r26,q27,h⟩:=obs h
  replace q27:=Q0b q27
  have f28:=fun hg=>(hk 3 29 rfl).ret c1.kids_ (q27 hg) rfl rfl
  obtain⟨r29,q30,h⟩:=obs h
  replace q30:=Q0b q30
  have f31:=fun hg=>(hk 4 209 rfl).ret c1.redirs_ (q30 hg) rfl rfl
  refine seq (reg hS [(2,ab ((r23&&r26)&&r29))] [V6 c1] ?_ ?_)
  ·clear h hk hS hX c
   exact dh1 (an pf_99 (an (ca f25) (an pf_29 (an f28 (ap1 209 hpf f31)))))
  exact Rf h
 refine seqM ⟨sl [(1,.ref 0 0),(4,ai c1.kind_),(59,ab (bif decide (c1.kind_=8)then decide (c1.kind_=8)else decide (c1.kind_=11)))],169,[V6 c1]⟩ ?_ ?_
 ·refine R [1,4,59] ?_
  refine cond (b:=decide (c1.kind_=8)) rfl (fun hb32=>?_) (fun hb32=>?_)
  ·exact skip (Weak.of_eq (Weak.slots (L:=[(1,.ref 0 0),(4,ai c1.kind_),(59,ab (decide (c1.kind_=8)))]) kp) (wq hb32))
  refine G [1,4,59] ?_
  exact Weak.of_eq (Weak.slots (L:=[(1,.ref 0 0),(4,ai c1.kind_),(59,ab (decide (c1.kind_=11)))]) kp) (wq hb32)
 refine iz h (fun h=>?_) fun h=>?_
 ·obtain⟨r34,f36,h⟩:=oc h (Zt hk 0 99 (c1,Shape.mk false false false))
  obtain⟨u37,f39,h⟩:=oc h fun _ q=>Q6y (Q0b q)
  try simp only[NRM,Int.reduceToNat]at f39
  obtain⟨r40,q41,h⟩:=obs h
  replace q41:=Q0b q41
  have f42:=fun hg=>(hk 5 210 rfl).ret u37 (q41 hg) rfl rfl
  obtain⟨u43,f45,h⟩:=oc h fun _ q=>Q6y (Q0b q)
  try simp only[NRM,Int.reduceToNat]at f45
  obtain⟨r46,q47,h⟩:=obs h
  replace q47:=Q0b q47
  have f48:=fun hg=>(hk 6 182 rfl).ret u43 (q47 hg) rfl rfl
  refine seq (reg hS [(2,ab (((r34&&decide ((c1.kids_.length:Int)=2))&&r40)&&r46))] [V6 c1] ?_ ?_)
  ·clear h hk hS hX c
   exact dh1 (an pf_99 (an (ca f36) (an f39.1 (an f39.2.1 (an pf_210 (an f42 (an f45.1 (an f45.2.1 (ap1 182 hpf f48)))))))))
  exact Rf h
 refine R [1,4,85] ?_
 refine iz h (fun h=>?_) fun h=>?_
 ·obtain⟨r50,f52,h⟩:=oc h (Zt hk 0 99 (c1,Shape.mk true true false))
  obtain⟨r53,q54,h⟩:=obs h
  replace q54:=Q0b q54
  have f55:=fun hg=>(hk 1 207 rfl).ret c1.words_ (q54 hg) rfl rfl
  obtain⟨r56,q57,h⟩:=obs h
  replace q57:=Q0b q57
  have f58:=fun hg=>(hk 2 208 rfl).ret c1.kids_ (q57 hg) rfl rfl
  refine seq (reg hS [(2,ab ((r50&&r53)&&r56))] [V6 c1] ?_ ?_)
  ·clear h hk hS hX c
   exact dh1 (an pf_99 (an (ca f52) (an pf_207 (an f55 (ap1 208 hpf f58)))))
  exact Rf h
 refine R [1,4,100] ?_
 refine iz h (fun h=>?_) fun h=>?_
 ·obtain⟨r60,f62,h⟩:=oc h (Zt hk 0 99 (c1,Shape.mk false true false))
  obtain⟨r63,q64,h⟩:=obs h
  replace q64:=Q0b q64
  have f65:=fun hg=>(hk 1 207 rfl).ret c1.words_ (q64 hg) rfl rfl
  refine seq (AW.cases (((r60&&decide ((c1.words_.length:Int)=1))&&r63)) (fun hsp29=>?_) (fun hsp29=>?_))
  ·replace h:=Z2l hsp29 h
   try simp only[Bool.and_eq_true,Bool.or_eq_false_iff]at hsp29
   obtain⟨r66,f68,h⟩:=oc h (Z hk 7 49 c1.kids_)
   refine reg hS [(2,ab (!r66))] [V6 c1] ?_ ?_
   ·clear h hk hS hX c
    exact dh1 (an pf_99 (an (ca f62) (an pf_207 (an f65 (an hsp29 (cc f68))))))
   exact Rf h
  replace h:=Z2m hsp29 h
  try simp only[Bool.and_eq_true,Bool.or_eq_false_iff]at hsp29
  refine reg hS [(2,ab false)] [V6 c1] ?_ ?_
  ·clear h hk hS hX c
   exact dh1 (an pf_99 (an (ca f62) (an pf_207 (an f65 hsp29))))
  exact Rf h
 refine R [1,4,122] ?_
 refine iz h (fun h=>?_) fun h=>?_
 ·obtain⟨r71,f73,h⟩:=oc h (Zt hk 0 99 (c1,Shape.mk true false false))
  obtain⟨r74,q75,h⟩:=obs h
  replace q75:=Q0b q75
  have f76:=fun hg=>(hk 3 29 rfl).ret c1.kids_ (q75 hg) rfl rfl
  refine seq (reg hS [(2,ab (r71&&r74))] [V6 c1] ?_ ?_)
  ·clear h hk hS hX c
   exact dh1 (an pf_99 (an (ca f73) (ap1 29 hpf f76)))
  exact Rf h
 refine R [1,4,132] ?_
 refine iz h (fun h=>?_) fun h=>?_
 ·obtain⟨r78,f80,h⟩:=oc h (Zt hk 0 99 (c1,Shape.mk false true false))
  obtain⟨r81,q82,h⟩:=obs h
  replace q82:=Q0b q82
  have f83:=fun hg=>(hk 1 207 rfl).ret c1.words_ (q82 hg) rfl rfl
  refine seq (reg hS [(2,ab (((r78&&decide (1≤(c1.words_.length:Int)))&&decide ((c1.kids_.length:Int)=0))&&r81))] [V6 c1] ?_ ?_)
  ·clear h hk hS hX c
   exact dh1 (an pf_99 (an (ca f80) (ap1 207 hpf f83)))
  exact Rf h
 refine R [1,154] ?_
 refine ik h (fun h=>?_) fun h=>?_
 ·obtain⟨r85,f87,h⟩:=oc h (Zt hk 0 99 (c1,Shape.mk false true true))
  obtain⟨r88,q89,h⟩:=obs h
  replace q89:=Q0b q89
  have f90:=fun hg=>(hk 8 213 rfl).ret c1 (q89 hg) rfl rfl
  refine seq (reg hS [(2,ab ((r85&&decide ((c1.kids_.length:Int)=0))&&r88))] [V6 c1] ?_ ?_)
  ·clear h hk hS hX c
   exact dh1 (an pf_99 (an (ca f87) (ap1 213 hpf f90)))
  exact Rf h
 exact Rt h [2]
end Go.Abs.U48
