import Derived.Test.YtljahlbklgnfhaaGreatDoorD1
set_option linter.unusedVariables false
set_option linter.unusedSimpArgs false
set_option maxRecDepth 8000
set_option maxHeartbeats 4000000
namespace Go.Abs.U48
open Go.RowKit Go.Proofs AW
open Go.Proofs.Tryz
theorem V9p(c:AllG env [S172]):Q0c env S145:=by
 refine hd c (fnq func145) 133 ?_
 rintro O X hS hX hpf hk (a:Cmd) (r:Bool) (h:F145 a=some r)
 refine gs ?_
 rw[F145]at h
 refine R [1] ?_
 refine seq ?_
 apply dgk mixed hS [1,3,4] (ordp hpf (by kernel_rfl))
 ·exact di
 refine seq (reg hS [(1,.ref 0 0),(3,ai (a.words_.length:Int)),(4,ai (a.kids_.length:Int)),(5,ab ((decide (a.kind_=2)||decide (a.kind_=10))||decide (a.kind_=15)))] [V1 a] ?_ ?_)
 ·clear h hk hS hX c
  exact dh
 obtain⟨n,i,h⟩:=obs h
 replace i:=Q0d i
 have o:=λp=>(hk 0 172 rfl).ret a.name_ (i p) rfl rfl
 refine seq (seq ?_)
 refine reg hS [(1,.ref 0 0),(3,ai (a.words_.length:Int)),(4,ai (a.kids_.length:Int)),(56,ab (((((decide (a.kind_=2)||decide (a.kind_=10))||decide (a.kind_=15))&&!n)||(!((decide (a.kind_=2)||decide (a.kind_=10))||decide (a.kind_=15))&&!decide (a.name_=[])))||((decide (0<(a.redirs_.length:Int))&&!decide (a.kind_=1))&&!decide (a.kind_=12))))] [V1 a] ?_ ?_
 ·clear h hk hS hX c
  exact dh1 (ap1 172 hpf o)
 refine ik h (λh=>?_) λh=>?_
 ·exact Rt h [2]
 refine seq (R [1,3,4,58] ?_)
 refine block (R [1,3,4,58,59] ?_)
 refine iz h (λh=>?_) λh=>?_
 ·refine seq (reg hS [(2,ab (decide (0<IntKind.wrap .i64 ((a.words_.length:Int)+(a.redirs_.length:Int)))&&decide ((a.kids_.length:Int)=0)))] [V1 a] ?_ ?_)
  ·clear h hk hS hX c
   exact dh
  exact Rf h
 refine R [1,3,4,58,71] ?_
 refine iz h (λh=>?_) λh=>?_
 ·refine seq (reg hS [(2,ab (decide ((a.words_.length:Int)=1)&&decide ((a.kids_.length:Int)<=1)))] [V1 a] ?_ ?_)
  ·clear h hk hS hX c
   exact dh
  exact Rf h
 refine seqM ⟨sl [(1,.ref 0 0),(3,ai (a.words_.length:Int)),(4,ai (a.kids_.length:Int)),(58,ai a.kind_),(79,ab (bif decide (a.kind_=7)then decide (a.kind_=7)else(bif decide (a.kind_=13)then decide (a.kind_=13)else(bif decide (a.kind_=9)then decide (a.kind_=9)else decide (a.kind_=14)))))],133,[V1 a]⟩ ?_ ?_
 ·refine R [1,3,4,58,79] ?_
  refine cond (b:=decide (a.kind_=7)) rfl (λd=>?_) (λd=>?_)
  ·exact skip (Weak.of_eq (Wq0 (L:=[(1,.ref 0 0),(3,ai (a.words_.length:Int)),(4,ai (a.kids_.length:Int)),(58,ai a.kind_),(79,ab (decide (a.kind_=7)))]) kp) (wq d))
  refine R [1,3,4,58,79] ?_
  refine cond (b:=decide (a.kind_=13)) rfl (λf=>?_) (λf=>?_)
  ·exact skip (Weak.of_eq (Wq0 (L:=[(1,.ref 0 0),(3,ai (a.words_.length:Int)),(4,ai (a.kids_.length:Int)),(58,ai a.kind_),(79,ab (decide (a.kind_=13)))]) kp) (by simp only[d,f,G1a,G0v,Q1x,G0m,G0o]<;>rfl))
  refine R [1,3,4,58,79] ?_
  refine cond (b:=decide (a.kind_=9)) rfl (λj=>?_) (λj=>?_)
  ·exact skip (Weak.of_eq (Wq0 (L:=[(1,.ref 0 0),(3,ai (a.words_.length:Int)),(4,ai (a.kids_.length:Int)),(58,ai a.kind_),(79,ab (decide (a.kind_=9)))]) kp) (by simp only[d,f,j,G1a,G0v,Q1x,G0m,G0o]<;>rfl))
  refine G [1,3,4,58,79] ?_
  exact Weak.of_eq (Wq0 (L:=[(1,.ref 0 0),(3,ai (a.words_.length:Int)),(4,ai (a.kids_.length:Int)),(58,ai a.kind_),(79,ab (decide (a.kind_=14)))]) kp) (by simp only[d,f,j,G1a,G0v,Q1x,G0m,G0o]<;>rfl)
 refine iz h (λh=>?_) λh=>?_
 ·refine seq (reg hS [(2,ab (decide ((a.words_.length:Int)=0)&&decide ((a.kids_.length:Int)=1)))] [V1 a] ?_ ?_)
  ·clear h hk hS hX c
   exact dh
  exact Rf h
 refine seqM ⟨sl [(1,.ref 0 0),(3,ai (a.words_.length:Int)),(4,ai (a.kids_.length:Int)),(58,ai a.kind_),(90,ab (bif decide (a.kind_=8)then decide (a.kind_=8)else(bif decide (a.kind_=11)then decide (a.kind_=11)else(bif decide (a.kind_=5)then decide (a.kind_=5)else decide (a.kind_=6)))))],133,[V1 a]⟩ ?_ ?_
 ·refine R [1,3,4,58,90] ?_
  refine cond (b:=decide (a.kind_=8)) rfl (λe=>?_) (λe=>?_)
  ·exact skip (Weak.of_eq (Wq0 (L:=[(1,.ref 0 0),(3,ai (a.words_.length:Int)),(4,ai (a.kids_.length:Int)),(58,ai a.kind_),(90,ab (decide (a.kind_=8)))]) kp) (wq e))
  refine R [1,3,4,58,90] ?_
  refine cond (b:=decide (a.kind_=11)) rfl (λg=>?_) (λg=>?_)
  ·exact skip (Weak.of_eq (Wq0 (L:=[(1,.ref 0 0),(3,ai (a.words_.length:Int)),(4,ai (a.kids_.length:Int)),(58,ai a.kind_),(90,ab (decide (a.kind_=11)))]) kp) (by simp only[e,g,G1a,G0v,Q1x,G0m,G0o]<;>rfl))
  refine R [1,3,4,58,90] ?_
  refine cond (b:=decide (a.kind_=5)) rfl (λl=>?_) (λl=>?_)
  ·exact skip (Weak.of_eq (Wq0 (L:=[(1,.ref 0 0),(3,ai (a.words_.length:Int)),(4,ai (a.kids_.length:Int)),(58,ai a.kind_),(90,ab (decide (a.kind_=5)))]) kp) (by simp only[e,g,l,G1a,G0v,Q1x,G0m,G0o]<;>rfl))
  refine G [1,3,4,58,90] ?_
  exact Weak.of_eq (Wq0 (L:=[(1,.ref 0 0),(3,ai (a.words_.length:Int)),(4,ai (a.kids_.length:Int)),(58,ai a.kind_),(90,ab (decide (a.kind_=6)))]) kp) (by simp only[e,g,l,G1a,G0v,Q1x,G0m,G0o]<;>rfl)
 refine iz h (λh=>?_) λh=>?_
 ·refine seq (reg hS [(2,ab (decide ((a.words_.length:Int)=0)&&decide ((a.kids_.length:Int)=2)))] [V1 a] ?_ ?_)
  ·clear h hk hS hX c
   exact dh
  exact Rf h
 refine R [1,3,4,58,101] ?_
 refine iz h (λh=>?_) λh=>?_
 ·exact Rt h [2]
 refine seqM ⟨sl [(1,.ref 0 0),(3,ai (a.words_.length:Int)),(4,ai (a.kids_.length:Int)),(58,ai a.kind_),(105,ab (bif decide (a.kind_=12)then decide (a.kind_=12)else decide (a.kind_=15)))],133,[V1 a]⟩ ?_ ?_
 ·refine R [1,3,4,58,105] ?_
  refine cond (b:=decide (a.kind_=12)) rfl (λm=>?_) (λm=>?_)
  ·exact skip (Weak.of_eq (Wq0 (L:=[(1,.ref 0 0),(3,ai (a.words_.length:Int)),(4,ai (a.kids_.length:Int)),(58,ai a.kind_),(105,ab (decide (a.kind_=12)))]) kp) (wq m))
  refine G [1,3,4,58,105] ?_
  exact Weak.of_eq (Wq0 (L:=[(1,.ref 0 0),(3,ai (a.words_.length:Int)),(4,ai (a.kids_.length:Int)),(58,ai a.kind_),(105,ab (decide (a.kind_=15)))]) kp) (wq m)
 refine iz h (λh=>?_) λh=>?_
 ·exact Rt h [2]
 refine R [1,3,4,58,110] ?_
 refine iz h (λh=>?_) λh=>?_
 ·refine seq (reg hS [(2,ab (decide ((a.words_.length:Int)=0)&&decide (2<=(a.kids_.length:Int))))] [V1 a] ?_ ?_)
  ·clear h hk hS hX c
   exact dh
  exact Rf h
 refine R [1,3,4,118] ?_
 refine ik h (λh=>?_) λh=>?_
 ·refine seq (reg hS [(2,ab (decide (0<(a.words_.length:Int))&&decide ((a.kids_.length:Int)=0)))] [V1 a] ?_ ?_)
  ·clear h hk hS hX c
   exact dh
  exact Rf h
 refine seq (reg hS [(2,ab (decide (a.kind_=17)&&decide ((a.words_.length:Int)=1)))] [V1 a] ?_ ?_)
 ·clear h hk hS hX c
  exact dh
 exact Rf h
theorem V9o{a:Y3}(c:AllG env [S184 a]):Q0c env (S146 a):=by
 refine hd c (fnq func146) 16 ?_
 rintro O X hS hX hpf hk (b:(List Word)) (r:Bool) (h:F146 a b=some r)
 refine gs ?_
 rw[F146]at h
 refine R [0] ?_
 refine seq (R [0,3] ?_)
 refine block (Lp h (λd=>⟨sl [(0,vWo b),(3,ai d)],16,[]⟩) ?_)
 clear h
 rintro d i h
 rw[X0f]at h
 try dsimp only at h
 refine AW.st (seq ?_)
 refine R [0,3,7] ?_
 refine iz h (λh=>?_) λh=>?_
 ·obtain⟨f,e,h⟩:=oc h λ_=>Q0m
  obtain⟨j,g,h⟩:=oc h (Zt hk 0 184 f)
  refine skip (seq ?_)
  refine block (seq ?_)
  refine rg hS [0,3,15] (di1 (an e.1 (an e.2.1 (ca g)))) ?_
  refine ik h (λh=>?_) λh=>?_
  ·exact Rt h [2]
  refine G [0,3] ?_
  exact nx h
 exact exit (Rt h [2])
theorem V8w(c:AllG env []):Q0c env S185:=by
 refine hd c (fnq func185) 26 ?_
 rintro O X hS hX hpf hk (w1:Word) (r:Bool) (h:F185 w1=some r)
 refine gs ?_
 rw[F185]at h
 refine R [1] ?_
 refine seq (reg hS [(2,ab (((decide (w1.kind_=0)&&decide (w1.text_=[]))&&decide (w1.quoted_=[]))&&decide (IntKind.wrap .i64 ((w1.words_.length:Int)+(w1.cmd_.length:Int))=0)))] [V2 w1] ?_ ?_)
 ·clear h hk hS hX c
  exact dh
 exact Rf h
theorem V8v(c:AllG env []):Q0c env S186:=by
 refine hd c (fnq func186) 13 ?_
 rintro O X hS hX hpf hk (b:Int) (r:Str) (h:F186 b=some r)
 refine gs ?_
 rw[F186]at h
 refine R [0] ?_
 refine R [0,3] ?_
 refine seq (R [0,3,4] ?_)
 refine block (Lp h (λ(d,e)=>⟨sl [(0,ai b),(3,as_ d),(4,ai e)],13,[]⟩) ?_)
 clear h
 rintro⟨d,e⟩ f h
 rw[Z4t]at h
 try dsimp only at h
 refine AW.st (seq ?_)
 refine R [0,3,4,7] ?_
 refine iz h (λh=>?_) λh=>?_
 ·obtain⟨g,a,h⟩:=oc h λ_=>Z3a
  try simp only[LNS,G1z,Nat.reduceAdd,Nat.reduceLeDiff,G3m,Nat.reduceMul]at a
  refine skip (seq ?_)
  refine block (rg hS [0,3,4] (di1 (an a.1 a.2)) ?_)
  refine G [0,3,4] ?_
  exact nx h
 exact exit (Rt h [2])
theorem V9n{e:Y3}(c:AllG env [S184 e,S185,S186]):Q0c env (S147 e):=by
 refine hd c (fnq func147) 101 ?_
 rintro O X hS hX hpf hk (a:Redir) (r:Bool) (h:F147 e a=some r)
 have l:O.pf 186=true:=pft hpf 186 rfl
 refine gs ?_
 rw[F147]at h
 refine R [1] ?_
 refine seq (seq ?_)
 refine reg hS [(1,.ref 0 0),(41,ab (((((decide (a.fd_<0)||decide (64<=a.fd_))||decide (a.from_<0))||decide (64<=a.from_))||(!decide (a.kind_=5)&&!decide (a.from_=0)))||(!decide (a.kind_=4)&&a.raw_)))] [V0 a] ?_ ?_
 ·clear h hk hS hX c
  exact dh
 refine ik h (λh=>?_) λh=>?_
 ·exact Rt h [2]
 refine seq (R [1,43] ?_)
 refine block (seqM ⟨sl [(1,.ref 0 0),(43,ai a.kind_),(44,ab (bif decide (a.kind_=1)then decide (a.kind_=1)else(bif decide (a.kind_=2)then decide (a.kind_=2)else decide (a.kind_=3))))],101,[V0 a]⟩ ?_ ?_)
 ·refine R [1,43,44] ?_
  refine cond (b:=decide (a.kind_=1)) rfl (λd=>?_) (λd=>?_)
  ·exact skip (Weak.of_eq (Wq0 (L:=[(1,.ref 0 0),(43,ai a.kind_),(44,ab (decide (a.kind_=1)))]) kp) (wq d))
  refine R [1,43,44] ?_
  refine cond (b:=decide (a.kind_=2)) rfl (λf=>?_) (λf=>?_)
  ·exact skip (Weak.of_eq (Wq0 (L:=[(1,.ref 0 0),(43,ai a.kind_),(44,ab (decide (a.kind_=2)))]) kp) (by simp only[d,f,G1a,G0v,Q1x,G0m,G0o]<;>rfl))
  refine G [1,43,44] ?_
  exact Weak.of_eq (Wq0 (L:=[(1,.ref 0 0),(43,ai a.kind_),(44,ab (decide (a.kind_=3)))]) kp) (by simp only[d,f,G1a,G0v,Q1x,G0m,G0o]<;>rfl)
 refine iz h (λh=>?_) λh=>?_
 ·refine seq (Ua1 h [2] (Zt hk 0 184 a.word_) λt h=>?_)
  exact Rf h
 refine seqM ⟨sl [(1,.ref 0 0),(43,ai a.kind_),(51,ab (bif decide (a.kind_=5)then decide (a.kind_=5)else decide (a.kind_=6)))],101,[V0 a]⟩ ?_ ?_
 ·refine R [1,43,51] ?_
  refine cond (b:=decide (a.kind_=5)) rfl (λg=>?_) (λg=>?_)
  ·exact skip (Weak.of_eq (Wq0 (L:=[(1,.ref 0 0),(43,ai a.kind_),(51,ab (decide (a.kind_=5)))]) kp) (wq g))
  refine G [1,43,51] ?_
  exact Weak.of_eq (Wq0 (L:=[(1,.ref 0 0),(43,ai a.kind_),(51,ab (decide (a.kind_=6)))]) kp) (wq g)
 refine iz h (λh=>?_) λh=>?_
 ·refine seq (Ua1 h [2] (Zt hk 1 185 a.word_) λu h=>?_)
  exact Rf h
 refine R [1,57] ?_
 refine ik h (λh=>?_) λh=>?_
 ·refine R [1,3] ?_
  refine R [1,3,4] ?_
  obtain⟨m,i,h⟩:=obs h
  replace i:=Q0d i
  have n:=λo=>(hk 2 186 rfl).ret (a.word_.text_.length:Int) (i o) rfl rfl
  obtain⟨p,j,h⟩:=oc h λ_ q=>Q8n (Q0d q)
  refine seq (dreg mixed hS (ordp hpf (by kernel_rfl)) [(2,ab ((((decide (a.fd_=0)&&decide (a.word_.kind_=1))&&decide (a.word_.quoted_=m))&&decide (IntKind.wrap .i64 ((a.word_.words_.length:Int)+(a.word_.cmd_.length:Int))=0))&&(decide ((a.word_.text_.length:Int)=0)||decide (p=10))))] [V0 a,V3 a] ?_ ?_)
  ·clear h hk hS hX c
   exact dh1 (an l (an n (an j.1 (an j.2.1 j.2.2))))
  exact Rf h
 exact Rt h [2]
theorem V8u(c:AllG env []):Q0c env S187:=by
 refine hd c (fnq func187) 29 ?_
 rintro O X hS hX hpf hk (a:Str) (r:Bool) (h:F187 a=some r)
 refine gs ?_
 rw[F187]at h
 refine R [0] ?_
 refine seq (reg hS [(2,ab ((((((decide (a=[105,102])||decide (a=[119,104,105,108,101]))||decide (a=[102,111,114]))||decide (a=[115,119,105,116,99,104]))||decide (a=[99,97,115,101]))||decide (a=[102,110]))||decide (a=[126])))] [] ?_ ?_)
 ·clear h hk hS hX c
  exact dh
 exact Rf h
theorem V9b(c:AllG env []):Q0c env S171:=by
 refine hd c (fnq func171) 14 ?_
 rintro O X hS hX hpf hk (b:Str) (r:Bool) (h:F171 b=some r)
 refine gs ?_
 rw[F171]at h
 refine R [0] ?_
 refine seq (R [0,3] ?_)
 refine block (Lp h (λd=>⟨sl [(0,as_ b),(3,ai d)],14,[]⟩) ?_)
 clear h
 rintro d e h
 rw[X0d]at h
 try dsimp only at h
 refine AW.st (seq ?_)
 refine R [0,3,7] ?_
 refine iz h (λh=>?_) λh=>?_
 ·obtain⟨f,a,h⟩:=oc h λ_=>Q6h
  refine skip (seq ?_)
  refine block (seq ?_)
  refine rg hS [0,3,13] (di1 (an a.1 (an a.2.1 a.2.2))) ?_
  refine ik h (λh=>?_) λh=>?_
  ·exact Rt h [2]
  refine G [0,3] ?_
  exact nx h
 exact exit (Rt h [2])
theorem V9m(c:AllG env [S187,S171]):Q0c env S148:=by
 refine hd c (fnq func148) 24 ?_
 rintro O X hS hX hpf hk (w1:Word) (r:Bool) (h:F148 w1=some r)
 have m:O.pf 187=true:=pft hpf 187 rfl
 refine gs ?_
 rw[F148]at h
 refine R [1] ?_
 refine seqJ (α:=Int×Str×Str×(List Word)×(List Cmd)) (λ(a,b,d,e,f)=>⟨sl [(1,.ref 0 0)],24,[V4 a b d e f]⟩) (λx=>Z4u x=some r) ?_ ?_
 ·intro⟨a,b,d,e,f⟩ h
  rw[Z4u]at h
  try dsimp only at h
  obtain⟨n,g,h⟩:=obs h
  replace g:=Q0d g
  have o:=λi=>(hk 0 187 rfl).ret b (g i) rfl rfl
  obtain⟨p,j,h⟩:=obs h
  replace j:=Q0d j
  have q:=λi=>(hk 1 171 rfl).ret d (j i) rfl rfl
  refine AW.st (seq ?_)
  refine reg hS [(2,ab ((decide (a=1)&&n)&&!p))] [V4 a b d e f] ?_ ?_
  ·clear h hk hS hX c
   exact dh1 (an m (an o (ap1 171 hpf q)))
  exact Rf h
 refine R [1,5] ?_
 refine ik h (λh=>?_) λh=>?_
 ·obtain⟨t,l,h⟩:=oc h λ_=>Q0m
  try simp only[NRM,Int.reduceToNat]at l
  refine rg hS [1] (di1 (an l.1 l.2.1)) ?_
  exact jn h
 exact jn h
theorem V9l{b:Y4}(c:AllG env [S101 b]):Q0c env (S149 b):=by
 refine hd c (fnq func149) 16 ?_
 rintro O X hS hX hpf hk (a:Cmd) (r:Bool) (h:F149 b a=some r)
 refine gs ?_
 rw[F149]at h
 refine R [1] ?_
 obtain⟨e,d,h⟩:=obs h
 replace d:=Q0d d
 have f:=λg=>(hk 0 101 rfl).ret a (d g) rfl rfl
 refine seq (reg hS [(2,ab ((decide (a.kind_=12)&&decide ((a.redirs_.length:Int)=0))&&e))] [V1 a] ?_ ?_)
 ·clear h hk hS hX c
  exact dh1 (ap1 101 hpf f)
 exact Rf h
end Go.Abs.U48
