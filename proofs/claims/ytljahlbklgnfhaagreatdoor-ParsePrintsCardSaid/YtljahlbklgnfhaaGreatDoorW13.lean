import Derived.Test.YtljahlbklgnfhaaGreatDoorD1
set_option linter.unusedVariables false
set_option linter.unusedSimpArgs false
set_option linter.defProp false
set_option maxRecDepth 8000
set_option maxHeartbeats 4000000
namespace Go.Abs.U48
open Go.RowKit Go.Proofs AW
theorem K6u{w184:Y3}(c:AllG env [(S184 w184)]):Q0a env (S146 (F146 w184)):=by
 refine hd c V1r 16 ?_
 rintro O X hS hX hpf hk (l1:(List Word)) (r:Bool) (h:F146 w184 l1=some r)
 refine gs ?_
 rw[F146]at h
 refine R [0] ?_
 refine seq (R [0,3] ?_)
 refine block (Lp h (fun i3=>⟨sl [(0,vWo l1),(3,ai i3)],16,[]⟩) ?_)
 clear h
 rintro i3 m6 h
 rw[J4i]at h
 try dsimp only at h
 refine AW.st (seq ?_)
 refine R [0,3,7] ?_
 refine iz h (fun h=>?_) fun h=>?_
 ·obtain⟨u8,f10,h⟩:=oc h fun _=>Q0f
  obtain⟨r11,f13,h⟩:=oc h (Zt hk 0 184 u8)
  refine skip (seq ?_)
  refine block (seq ?_)
  refine rg hS [0,3,15] (di1 (an f10.1 (an f10.2.1 (ca f13)))) ?_
  refine ik h (fun h=>?_) fun h=>?_
  ·exact Rt h [2]
  refine G [0,3] ?_
  exact nx h
 exact exit (Rt h [2])
theorem K5z(c:AllG env []):Q0a env (S185 F185):=by
 refine hd c V0t 26 ?_
 rintro O X hS hX hpf hk (w1:Word) (r:Bool) (h:F185 w1=some r)
 refine gs ?_
 rw[F185]at h
 refine R [1] ?_
 refine seq (reg hS [(2,ab (((decide (w1.kind_=0)&&decide (w1.text_=[]))&&decide (w1.quoted_=[]))&&decide (IntKind.wrap .i64 ((w1.words_.length:Int)+(w1.cmd_.length:Int))=0)))] [V17 w1] ?_ ?_)
 ·clear h hk hS hX c
  exact dh
 exact Rf h
theorem K5y(c:AllG env []):Q0a env (S186 F186):=by
 refine hd c V0s 13 ?_
 rintro O X hS hX hpf hk (n1:Int) (r:Str) (h:F186 n1=some r)
 refine gs ?_
 rw[F186]at h
 refine R [0] ?_
 refine R [0,3] ?_
 refine seq (R [0,3,4] ?_)
 refine block (Lp h (fun(s3,i4)=>⟨sl [(0,ai n1),(3,as_ s3),(4,ai i4)],13,[]⟩) ?_)
 clear h
 rintro⟨s3,i4⟩ m7 h
 rw[Z0z]at h
 try dsimp only at h
 refine AW.st (seq ?_)
 refine R [0,3,4,7] ?_
 refine iz h (fun h=>?_) fun h=>?_
 ·obtain⟨s9,f11,h⟩:=oc h fun _=>Q1a
  try simp only[LNS,List.length_replicate,Nat.reduceAdd,Nat.reduceLeDiff,Nat.add_zero,Nat.reduceMul]at f11
  refine skip (seq ?_)
  refine block (rg hS [0,3,4] (di1 (an f11.1 f11.2)) ?_)
  refine G [0,3,4] ?_
  exact nx h
 exact exit (Rt h [2])
theorem K6t{w184:Y3}(c:AllG env [(S184 w184),(S185 F185),(S186 F186)]):Q0a env (S147 (F147 w184)):=by
 refine hd c V1q 101 ?_
 rintro O X hS hX hpf hk (d1:Redir) (r:Bool) (h:F147 w184 d1=some r)
 have pf_186:O.pf 186=true:=pft hpf 186 rfl
 refine gs ?_
 rw[F147]at h
 refine R [1] ?_
 refine seq (seq ?_)
 refine reg hS [(1,.ref 0 0),(41,ab (((((decide (d1.fd_<0)||decide (64≤d1.fd_))||decide (d1.from_<0))||decide (64≤d1.from_))||(!decide (d1.kind_=5)&&!decide (d1.from_=0)))||(!decide (d1.kind_=4)&&d1.raw_)))] [V16 d1] ?_ ?_
 ·clear h hk hS hX c
  exact dh
 refine ik h (fun h=>?_) fun h=>?_
 ·exact Rt h [2]
 refine seq (R [1,43] ?_)
 refine block (seqM ⟨sl [(1,.ref 0 0),(43,ai d1.kind_),(44,ab (bif decide (d1.kind_=1)then decide (d1.kind_=1)else(bif decide (d1.kind_=2)then decide (d1.kind_=2)else decide (d1.kind_=3))))],101,[V16 d1]⟩ ?_ ?_)
 ·refine R [1,43,44] ?_
  refine cond (b:=decide (d1.kind_=1)) rfl (fun hb4=>?_) (fun hb4=>?_)
  ·exact skip (Weak.of_eq (Weak.slots (L:=[(1,.ref 0 0),(43,ai d1.kind_),(44,ab (decide (d1.kind_=1)))]) kp) (wq hb4))
  refine R [1,43,44] ?_
  refine cond (b:=decide (d1.kind_=2)) rfl (fun hb5=>?_) (fun hb5=>?_)
  ·exact skip (Weak.of_eq (Weak.slots (L:=[(1,.ref 0 0),(43,ai d1.kind_),(44,ab (decide (d1.kind_=2)))]) kp) (by simp only[hb4,hb5,cond_true,cond_false,Q1y,Bool.not_true,Bool.not_false]<;>rfl))
  refine G [1,43,44] ?_
  exact Weak.of_eq (Weak.slots (L:=[(1,.ref 0 0),(43,ai d1.kind_),(44,ab (decide (d1.kind_=3)))]) kp) (by simp only[hb4,hb5,cond_true,cond_false,Q1y,Bool.not_true,Bool.not_false]<;>rfl)
 refine iz h (fun h=>?_) fun h=>?_
 ·refine seq (Ua1 h [2] (Zt hk 0 184 d1.word_) fun r7 h=>?_)
  exact Rf h
 refine seqM ⟨sl [(1,.ref 0 0),(43,ai d1.kind_),(51,ab (bif decide (d1.kind_=5)then decide (d1.kind_=5)else decide (d1.kind_=6)))],101,[V16 d1]⟩ ?_ ?_
 ·refine R [1,43,51] ?_
  refine cond (b:=decide (d1.kind_=5)) rfl (fun hb10=>?_) (fun hb10=>?_)
  ·exact skip (Weak.of_eq (Weak.slots (L:=[(1,.ref 0 0),(43,ai d1.kind_),(51,ab (decide (d1.kind_=5)))]) kp) (wq hb10))
  refine G [1,43,51] ?_
  exact Weak.of_eq (Weak.slots (L:=[(1,.ref 0 0),(43,ai d1.kind_),(51,ab (decide (d1.kind_=6)))]) kp) (wq hb10)
 refine iz h (fun h=>?_) fun h=>?_
 ·refine seq (Ua1 h [2] (Zt hk 1 185 d1.word_) fun r12 h=>?_)
  exact Rf h
 refine R [1,57] ?_
 refine ik h (fun h=>?_) fun h=>?_
 ·refine R [1,3] ?_
  refine R [1,3,4] ?_
  obtain⟨r16,q17,h⟩:=obs h
  replace q17:=Q0b q17
  have f18:=fun hg=>(hk 2 186 rfl).ret (d1.word_.text_.length:Int) (q17 hg) rfl rfl
  obtain⟨c19,f21,h⟩:=oc h fun _ q=>Q4n (Q0b q)
  refine seq (dreg mixed hS (ordp hpf (by kernel_rfl)) [(2,ab ((((decide (d1.fd_=0)&&decide (d1.word_.kind_=1))&&decide (d1.word_.quoted_=r16))&&decide (IntKind.wrap .i64 ((d1.word_.words_.length:Int)+(d1.word_.cmd_.length:Int))=0))&&(decide ((d1.word_.text_.length:Int)=0)||decide (c19=10))))] [V16 d1,V18 d1] ?_ ?_)
  ·clear h hk hS hX c
   exact dh1 (an pf_186 (an f18 (an f21.1 (an f21.2.1 f21.2.2))))
  exact Rf h
 exact Rt h [2]
theorem K5x(c:AllG env []):Q0a env (S187 F187):=by
 refine hd c V0r 29 ?_
 rintro O X hS hX hpf hk (s1:Str) (r:Bool) (h:F187 s1=some r)
 refine gs ?_
 rw[F187]at h
 refine R [0] ?_
 refine seq (reg hS [(2,ab ((((((decide (s1=[105,102])||decide (s1=[119,104,105,108,101]))||decide (s1=[102,111,114]))||decide (s1=[115,119,105,116,99,104]))||decide (s1=[99,97,115,101]))||decide (s1=[102,110]))||decide (s1=[126])))] [] ?_ ?_)
 ·clear h hk hS hX c
  exact dh
 exact Rf h
end Go.Abs.U48
