import Derived.Test.YtljahlbklgnfhaaGreatDoorD1
set_option linter.unusedVariables false
set_option linter.unusedSimpArgs false
set_option linter.defProp false
set_option maxRecDepth 8000
set_option maxHeartbeats 4000000
namespace Go.Abs.U48
open Go.RowKit Go.Proofs AW
theorem K7z(c:AllG env []):Q0a env (S100 F100):=by
 refine hd c V3a 24 ?_
 rintro O X hS hX hpf hk (Q0h:Int) (r:Int) (h:F100 Q0h=some r)
 refine gs ?_
 rw[F100]at h
 refine R [0] ?_
 refine seq (R [3] ?_)
 refine block (seqM ⟨sl [(3,ai Q0h),(4,ab (bif decide (Q0h=1)then decide (Q0h=1)else(bif decide (Q0h=2)then decide (Q0h=2)else(bif decide (Q0h=7)then decide (Q0h=7)else(bif decide (Q0h=8)then decide (Q0h=8)else(bif decide (Q0h=9)then decide (Q0h=9)else(bif decide (Q0h=10)then decide (Q0h=10)else(bif decide (Q0h=11)then decide (Q0h=11)else(bif decide (Q0h=12)then decide (Q0h=12)else(bif decide (Q0h=13)then decide (Q0h=13)else(bif decide (Q0h=15)then decide (Q0h=15)else(bif decide (Q0h=16)then decide (Q0h=16)else decide (Q0h=17)))))))))))))],24,[]⟩ ?_ ?_)
 ·refine R [3,4] ?_
  refine cond (b:=decide (Q0h=1)) rfl (fun hb3=>?_) (fun hb3=>?_)
  ·exact skip (Weak.of_eq (Weak.slots (L:=[(3,ai Q0h),(4,ab (decide (Q0h=1)))]) kp) (wq hb3))
  refine R [3,4] ?_
  refine cond (b:=decide (Q0h=2)) rfl (fun hb4=>?_) (fun hb4=>?_)
  ·exact skip (Weak.of_eq (Weak.slots (L:=[(3,ai Q0h),(4,ab (decide (Q0h=2)))]) kp) (by simp only[hb3,hb4,cond_true,cond_false,Q1y,Bool.not_true,Bool.not_false]<;>rfl))
  refine R [3,4] ?_
  refine cond (b:=decide (Q0h=7)) rfl (fun hb5=>?_) (fun hb5=>?_)
  ·exact skip (Weak.of_eq (Weak.slots (L:=[(3,ai Q0h),(4,ab (decide (Q0h=7)))]) kp) (by simp only[hb3,hb4,hb5,cond_true,cond_false,Q1y,Bool.not_true,Bool.not_false]<;>rfl))
  refine R [3,4] ?_
  refine cond (b:=decide (Q0h=8)) rfl (fun hb6=>?_) (fun hb6=>?_)
  ·exact skip (Weak.of_eq (Weak.slots (L:=[(3,ai Q0h),(4,ab (decide (Q0h=8)))]) kp) (by simp only[hb3,hb4,hb5,hb6,cond_true,cond_false,Q1y,Bool.not_true,Bool.not_false]<;>rfl))
  refine R [3,4] ?_
  refine cond (b:=decide (Q0h=9)) rfl (fun hb7=>?_) (fun hb7=>?_)
  ·exact skip (Weak.of_eq (Weak.slots (L:=[(3,ai Q0h),(4,ab (decide (Q0h=9)))]) kp) (by simp only[hb3,hb4,hb5,hb6,hb7,cond_true,cond_false,Q1y,Bool.not_true,Bool.not_false]<;>rfl))
  refine R [3,4] ?_
  refine cond (b:=decide (Q0h=10)) rfl (fun hb8=>?_) (fun hb8=>?_)
  ·exact skip (Weak.of_eq (Weak.slots (L:=[(3,ai Q0h),(4,ab (decide (Q0h=10)))]) kp) (by simp only[hb3,hb4,hb5,hb6,hb7,hb8,cond_true,cond_false,Q1y,Bool.not_true,Bool.not_false]<;>rfl))
  refine R [3,4] ?_
  refine cond (b:=decide (Q0h=11)) rfl (fun hb9=>?_) (fun hb9=>?_)
  ·exact skip (Weak.of_eq (Weak.slots (L:=[(3,ai Q0h),(4,ab (decide (Q0h=11)))]) kp) (by simp only[hb3,hb4,hb5,hb6,hb7,hb8,hb9,cond_true,cond_false,Q1y,Bool.not_true,Bool.not_false]<;>rfl))
  refine R [3,4] ?_
  refine cond (b:=decide (Q0h=12)) rfl (fun hb10=>?_) (fun hb10=>?_)
  ·exact skip (Weak.of_eq (Weak.slots (L:=[(3,ai Q0h),(4,ab (decide (Q0h=12)))]) kp) (by simp only[hb3,hb4,hb5,hb6,hb7,hb8,hb9,hb10,cond_true,cond_false,Q1y,Bool.not_true,Bool.not_false]<;>rfl))
  refine R [3,4] ?_
  refine cond (b:=decide (Q0h=13)) rfl (fun hb11=>?_) (fun hb11=>?_)
  ·exact skip (Weak.of_eq (Weak.slots (L:=[(3,ai Q0h),(4,ab (decide (Q0h=13)))]) kp) (by simp only[hb3,hb4,hb5,hb6,hb7,hb8,hb9,hb10,hb11,cond_true,cond_false,Q1y,Bool.not_true,Bool.not_false]<;>rfl))
  refine R [3,4] ?_
  refine cond (b:=decide (Q0h=15)) rfl (fun hb12=>?_) (fun hb12=>?_)
  ·exact skip (Weak.of_eq (Weak.slots (L:=[(3,ai Q0h),(4,ab (decide (Q0h=15)))]) kp) (by simp only[hb3,hb4,hb5,hb6,hb7,hb8,hb9,hb10,hb11,hb12,cond_true,cond_false,Q1y,Bool.not_true,Bool.not_false]<;>rfl))
  refine R [3,4] ?_
  refine cond (b:=decide (Q0h=16)) rfl (fun hb13=>?_) (fun hb13=>?_)
  ·exact skip (Weak.of_eq (Weak.slots (L:=[(3,ai Q0h),(4,ab (decide (Q0h=16)))]) kp) (by simp only[hb3,hb4,hb5,hb6,hb7,hb8,hb9,hb10,hb11,hb12,hb13,cond_true,cond_false,Q1y,Bool.not_true,Bool.not_false]<;>rfl))
  refine G [3,4] ?_
  exact Weak.of_eq (Weak.slots (L:=[(3,ai Q0h),(4,ab (decide (Q0h=17)))]) kp) (by simp only[hb3,hb4,hb5,hb6,hb7,hb8,hb9,hb10,hb11,hb12,hb13,cond_true,cond_false,Q1y,Bool.not_true,Bool.not_false]<;>rfl)
 refine iz h (fun h=>?_) fun h=>?_
 ·exact Rt h [2]
 refine R [3,17] ?_
 refine iz h (fun h=>?_) fun h=>?_
 ·exact Rt h [2]
 refine seqM ⟨sl [(3,ai Q0h),(19,ab (bif decide (Q0h=5)then decide (Q0h=5)else decide (Q0h=6)))],24,[]⟩ ?_ ?_
 ·refine R [3,19] ?_
  refine cond (b:=decide (Q0h=5)) rfl (fun hb16=>?_) (fun hb16=>?_)
  ·exact skip (Weak.of_eq (Weak.slots (L:=[(3,ai Q0h),(19,ab (decide (Q0h=5)))]) kp) (wq hb16))
  refine G [3,19] ?_
  exact Weak.of_eq (Weak.slots (L:=[(3,ai Q0h),(19,ab (decide (Q0h=6)))]) kp) (wq hb16)
 refine iz h (fun h=>?_) fun h=>?_
 ·exact Rt h [2]
 refine R [22] ?_
 refine ik h (fun h=>?_) fun h=>?_
 ·exact Rt h [2]
 exact Rt h [2]
theorem K3r{w101:Y4}(c:AllG env [(S100 F100),(S101 w101)]):Q0a env (S65 (F65 w101)):=by
 refine hd c V8w 34 ?_
 rintro O X hS hX hpf hk ⟨l1,most2⟩ (r:Bool) (h:F65 w101 l1 most2=some r)
 refine gs ?_
 rw[F65]at h
 refine R [0,1] ?_
 refine seq (R [0,1,5] ?_)
 refine block (Lp h (fun i4=>⟨sl [(0,vC l1),(1,ai most2),(5,ai i4)],34,[]⟩) ?_)
 clear h
 rintro i4 m7 h
 rw[X2r]at h
 try dsimp only at h
 refine AW.st (seq ?_)
 refine R [0,1,5,10] ?_
 refine iz h (fun h=>?_) fun h=>?_
 ·obtain⟨u9,f11,h⟩:=oc h fun _=>Q0f
  obtain⟨r12,f14,h⟩:=oc h (Zt hk 0 100 u9.kind_)
  refine skip (seq ?_)
  refine block (seq ?_)
  refine rg hS [0,1,5,6] (di1 (an f11.1 (an f11.2.1 (ca f14)))) ?_
  obtain⟨r15,q16,h⟩:=obs h
  replace q16:=Q0b q16
  have f17:=fun hg=>(hk 1 101 rfl).ret u9 (q16 hg) rfl rfl
  refine seq (reg hS [(0,vC l1),(1,ai most2),(5,ai i4),(33,ab ((decide (r12<1)||decide (most2<r12))||!r15))] [] ?_ ?_)
  ·clear h hk hS hX c
   exact dh1 (an f11.1 (an f11.2.1 (ap1 101 hpf f17)))
  refine ik h (fun h=>?_) fun h=>?_
  ·exact Rt h [4]
  refine G [0,1,5] ?_
  exact nx h
 exact exit (Rt h [4])
theorem K3x{w101:Y4}(c:AllG env [(S65 (F65 w101))]):Q0a env (S30 (F30 w101)):=by
 refine hd c V9o 5 ?_
 rintro O X hS hX hpf hk (l1:(List Cmd)) (r:Bool) (h:F30 w101 l1=some r)
 refine gs ?_
 rw[F30]at h
 refine R [0] ?_
 refine seq (Ua1 h [2] (Zt hk 0 65 (l1,4)) fun r3 h=>?_)
 exact Rf h
theorem K6d(c:AllG env []):Q0a env (S172 F172):=by
 refine hd c V0v 59 ?_
 rintro O X hS hX hpf hk (s1:Str) (r:Bool) (h:F172 s1=some r)
 refine gs ?_
 rw[F172]at h
 refine R [0] ?_
 refine seq (R [0,3] ?_)
 refine block (Lp h (fun i3=>⟨sl [(0,as_ s1),(3,ai i3)],59,[]⟩) ?_)
 clear h
 rintro i3 m6 h
 rw[J4e]at h
 try dsimp only at h
 refine AW.st (seq ?_)
 refine R [0,3,7] ?_
 refine iz h (fun h=>?_) fun h=>?_
 ·obtain⟨c8,f10,h⟩:=oc h fun _=>Q3m
  refine skip (seq ?_)
  refine block (seq ?_)
  refine reg hS [(0,as_ s1),(3,ai i3),(56,ab (!(((((decide (97≤c8)&&decide (c8≤122))||(decide (65≤c8)&&decide (c8≤90)))||(decide (48≤c8)&&decide (c8≤57)))||decide (c8=95))||decide (c8=42))))] [] ?_ ?_
  ·clear h hk hS hX c
   exact dh1 (an f10.1 (an f10.2.1 f10.2.2))
  refine ik h (fun h=>?_) fun h=>?_
  ·exact Rt h [2]
  refine G [0,3] ?_
  exact nx h
 exact exit (Rt h [2])
theorem K6v(c:AllG env [(S172 F172)]):Q0a env (S145 F145):=by
 refine hd c V1s 133 ?_
 rintro O X hS hX hpf hk (c1:Cmd) (r:Bool) (h:F145 c1=some r)
 refine gs ?_
 rw[F145]at h
 refine R [1] ?_
 refine seq ?_
 apply dgk mixed hS [1,3,4] (ordp hpf (by kernel_rfl))
 ·exact di
 refine seq (reg hS [(1,.ref 0 0),(3,ai (c1.words_.length:Int)),(4,ai (c1.kids_.length:Int)),(5,ab ((decide (c1.kind_=2)||decide (c1.kind_=10))||decide (c1.kind_=15)))] [V6 c1] ?_ ?_)
 ·clear h hk hS hX c
  exact dh
 obtain⟨r3,q4,h⟩:=obs h
 replace q4:=Q0b q4
 have f5:=fun hg=>(hk 0 172 rfl).ret c1.name_ (q4 hg) rfl rfl
 refine seq (seq ?_)
 refine reg hS [(1,.ref 0 0),(3,ai (c1.words_.length:Int)),(4,ai (c1.kids_.length:Int)),(56,ab (((((decide (c1.kind_=2)||decide (c1.kind_=10))||decide (c1.kind_=15))&&!r3)||(!((decide (c1.kind_=2)||decide (c1.kind_=10))||decide (c1.kind_=15))&&!decide (c1.name_=[])))||((decide (0<(c1.redirs_.length:Int))&&!decide (c1.kind_=1))&&!decide (c1.kind_=12))))] [V6 c1] ?_ ?_
 ·clear h hk hS hX c
  exact dh1 (ap1 172 hpf f5)
 refine ik h (fun h=>?_) fun h=>?_
 ·exact Rt h [2]
 refine seq (R [1,3,4,58] ?_)
 refine block (R [1,3,4,58,59] ?_)
 refine iz h (fun h=>?_) fun h=>?_
 ·refine seq (reg hS [(2,ab (decide (0<IntKind.wrap .i64 ((c1.words_.length:Int)+(c1.redirs_.length:Int)))&&decide ((c1.kids_.length:Int)=0)))] [V6 c1] ?_ ?_)
  ·clear h hk hS hX c
   exact dh
  exact Rf h
 refine R [1,3,4,58,71] ?_
 refine iz h (fun h=>?_) fun h=>?_
 ·refine seq (reg hS [(2,ab (decide ((c1.words_.length:Int)=1)&&decide ((c1.kids_.length:Int)≤1)))] [V6 c1] ?_ ?_)
  ·clear h hk hS hX c
   exact dh
  exact Rf h
 refine seqM ⟨sl [(1,.ref 0 0),(3,ai (c1.words_.length:Int)),(4,ai (c1.kids_.length:Int)),(58,ai c1.kind_),(79,ab (bif decide (c1.kind_=7)then decide (c1.kind_=7)else(bif decide (c1.kind_=13)then decide (c1.kind_=13)else(bif decide (c1.kind_=9)then decide (c1.kind_=9)else decide (c1.kind_=14)))))],133,[V6 c1]⟩ ?_ ?_
 ·refine R [1,3,4,58,79] ?_
  refine cond (b:=decide (c1.kind_=7)) rfl (fun hb9=>?_) (fun hb9=>?_)
  ·exact skip (Weak.of_eq (Weak.slots (L:=[(1,.ref 0 0),(3,ai (c1.words_.length:Int)),(4,ai (c1.kids_.length:Int)),(58,ai c1.kind_),(79,ab (decide (c1.kind_=7)))]) kp) (wq hb9))
  refine R [1,3,4,58,79] ?_
  refine cond (b:=decide (c1.kind_=13)) rfl (fun hb10=>?_) (fun hb10=>?_)
  ·exact skip (Weak.of_eq (Weak.slots (L:=[(1,.ref 0 0),(3,ai (c1.words_.length:Int)),(4,ai (c1.kids_.length:Int)),(58,ai c1.kind_),(79,ab (decide (c1.kind_=13)))]) kp) (by simp only[hb9,hb10,cond_true,cond_false,Q1y,Bool.not_true,Bool.not_false]<;>rfl))
  refine R [1,3,4,58,79] ?_
  refine cond (b:=decide (c1.kind_=9)) rfl (fun hb11=>?_) (fun hb11=>?_)
  ·exact skip (Weak.of_eq (Weak.slots (L:=[(1,.ref 0 0),(3,ai (c1.words_.length:Int)),(4,ai (c1.kids_.length:Int)),(58,ai c1.kind_),(79,ab (decide (c1.kind_=9)))]) kp) (by simp only[hb9,hb10,hb11,cond_true,cond_false,Q1y,Bool.not_true,Bool.not_false]<;>rfl))
  refine G [1,3,4,58,79] ?_
  exact Weak.of_eq (Weak.slots (L:=[(1,.ref 0 0),(3,ai (c1.words_.length:Int)),(4,ai (c1.kids_.length:Int)),(58,ai c1.kind_),(79,ab (decide (c1.kind_=14)))]) kp) (by simp only[hb9,hb10,hb11,cond_true,cond_false,Q1y,Bool.not_true,Bool.not_false]<;>rfl)
 refine iz h (fun h=>?_) fun h=>?_
 ·refine seq (reg hS [(2,ab (decide ((c1.words_.length:Int)=0)&&decide ((c1.kids_.length:Int)=1)))] [V6 c1] ?_ ?_)
  ·clear h hk hS hX c
   exact dh
  exact Rf h
 refine seqM ⟨sl [(1,.ref 0 0),(3,ai (c1.words_.length:Int)),(4,ai (c1.kids_.length:Int)),(58,ai c1.kind_),(90,ab (bif decide (c1.kind_=8)then decide (c1.kind_=8)else(bif decide (c1.kind_=11)then decide (c1.kind_=11)else(bif decide (c1.kind_=5)then decide (c1.kind_=5)else decide (c1.kind_=6)))))],133,[V6 c1]⟩ ?_ ?_
 ·refine R [1,3,4,58,90] ?_
  refine cond (b:=decide (c1.kind_=8)) rfl (fun hb13=>?_) (fun hb13=>?_)
  ·exact skip (Weak.of_eq (Weak.slots (L:=[(1,.ref 0 0),(3,ai (c1.words_.length:Int)),(4,ai (c1.kids_.length:Int)),(58,ai c1.kind_),(90,ab (decide (c1.kind_=8)))]) kp) (wq hb13))
  refine R [1,3,4,58,90] ?_
  refine cond (b:=decide (c1.kind_=11)) rfl (fun hb14=>?_) (fun hb14=>?_)
  ·exact skip (Weak.of_eq (Weak.slots (L:=[(1,.ref 0 0),(3,ai (c1.words_.length:Int)),(4,ai (c1.kids_.length:Int)),(58,ai c1.kind_),(90,ab (decide (c1.kind_=11)))]) kp) (by simp only[hb13,hb14,cond_true,cond_false,Q1y,Bool.not_true,Bool.not_false]<;>rfl))
  refine R [1,3,4,58,90] ?_
  refine cond (b:=decide (c1.kind_=5)) rfl (fun hb15=>?_) (fun hb15=>?_)
  ·exact skip (Weak.of_eq (Weak.slots (L:=[(1,.ref 0 0),(3,ai (c1.words_.length:Int)),(4,ai (c1.kids_.length:Int)),(58,ai c1.kind_),(90,ab (decide (c1.kind_=5)))]) kp) (by simp only[hb13,hb14,hb15,cond_true,cond_false,Q1y,Bool.not_true,Bool.not_false]<;>rfl))
  refine G [1,3,4,58,90] ?_
  exact Weak.of_eq (Weak.slots (L:=[(1,.ref 0 0),(3,ai (c1.words_.length:Int)),(4,ai (c1.kids_.length:Int)),(58,ai c1.kind_),(90,ab (decide (c1.kind_=6)))]) kp) (by simp only[hb13,hb14,hb15,cond_true,cond_false,Q1y,Bool.not_true,Bool.not_false]<;>rfl)
 refine iz h (fun h=>?_) fun h=>?_
 ·refine seq (reg hS [(2,ab (decide ((c1.words_.length:Int)=0)&&decide ((c1.kids_.length:Int)=2)))] [V6 c1] ?_ ?_)
  ·clear h hk hS hX c
   exact dh
  exact Rf h
 refine R [1,3,4,58,101] ?_
 refine iz h (fun h=>?_) fun h=>?_
 ·exact Rt h [2]
 refine seqM ⟨sl [(1,.ref 0 0),(3,ai (c1.words_.length:Int)),(4,ai (c1.kids_.length:Int)),(58,ai c1.kind_),(105,ab (bif decide (c1.kind_=12)then decide (c1.kind_=12)else decide (c1.kind_=15)))],133,[V6 c1]⟩ ?_ ?_
 ·refine R [1,3,4,58,105] ?_
  refine cond (b:=decide (c1.kind_=12)) rfl (fun hb18=>?_) (fun hb18=>?_)
  ·exact skip (Weak.of_eq (Weak.slots (L:=[(1,.ref 0 0),(3,ai (c1.words_.length:Int)),(4,ai (c1.kids_.length:Int)),(58,ai c1.kind_),(105,ab (decide (c1.kind_=12)))]) kp) (wq hb18))
  refine G [1,3,4,58,105] ?_
  exact Weak.of_eq (Weak.slots (L:=[(1,.ref 0 0),(3,ai (c1.words_.length:Int)),(4,ai (c1.kids_.length:Int)),(58,ai c1.kind_),(105,ab (decide (c1.kind_=15)))]) kp) (wq hb18)
 refine iz h (fun h=>?_) fun h=>?_
 ·exact Rt h [2]
 refine R [1,3,4,58,110] ?_
 refine iz h (fun h=>?_) fun h=>?_
 ·refine seq (reg hS [(2,ab (decide ((c1.words_.length:Int)=0)&&decide (2≤(c1.kids_.length:Int))))] [V6 c1] ?_ ?_)
  ·clear h hk hS hX c
   exact dh
  exact Rf h
 refine R [1,3,4,118] ?_
 refine ik h (fun h=>?_) fun h=>?_
 ·refine seq (reg hS [(2,ab (decide (0<(c1.words_.length:Int))&&decide ((c1.kids_.length:Int)=0)))] [V6 c1] ?_ ?_)
  ·clear h hk hS hX c
   exact dh
  exact Rf h
 refine seq (reg hS [(2,ab (decide (c1.kind_=17)&&decide ((c1.words_.length:Int)=1)))] [V6 c1] ?_ ?_)
 ·clear h hk hS hX c
  exact dh
 exact Rf h
end Go.Abs.U48
