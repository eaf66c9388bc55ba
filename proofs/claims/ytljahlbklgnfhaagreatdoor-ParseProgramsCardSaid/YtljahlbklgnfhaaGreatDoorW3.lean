import Derived.Test.YtljahlbklgnfhaaGreatDoorD1
set_option linter.unusedVariables false
set_option linter.unusedSimpArgs false
set_option maxRecDepth 8000
set_option maxHeartbeats 4000000
namespace Go.Abs.U48
open Go.RowKit Go.Proofs AW
theorem X9u{n:Y0}(c:AllG env [S167 n,S132,S168]):Q0c env (S131 n):=by
 refine hd c V5c 28 λO X hS hX hpf hk ⟨i,j,k,l,u⟩=>λr (h:F131 n i j k l u=some r)=>gs ?_
 rw[F131]at h
 refine R [0,1,4] ?_
 refine seq (Xa2 h [0,1,4,5] (Z5 hk 0 rfl) 2 λa E h=>?_)
 refine block (Lp h (λ(q,b,d,e,f,g)=>⟨sl [(0,.ref 0 0),(1,ab i),(4,.ref 1 0),(5,.ref 2 0)],28,[V4 j k l q,V5 0 0 [],V8 b a.at_ d e f g]⟩) ?_)
 clear h
 rintro⟨q,b,d,e,f,g⟩ w h
 rw[Q9a]at h
 try dsimp only at h
 refine AW.st (block ?_)
 refine R [0,1,4,5] ?_
 refine seqJ (α:=Int×Int) (λ(m,s)=>⟨sl [(0,.ref 0 0),(1,ab i),(4,.ref 1 0),(5,.ref 2 0),(6,ai m)],28,[V4 j k l s,V5 0 0 [],V8 b a.at_ d e f g]⟩) (λx=>Z3c j k l n i (iter (Q9a j k l n i a) w) b a d e f g x=some r) ?_ ?_
 ·intro⟨m,s⟩ h
  rw[Z3c]at h
  try dsimp only at h
  refine AW.st (seq ?_)
  refine Ua1 h [0,1,4,5,6] (Z4 hk 2 rfl) λt h=>?_
  rcases Q0y h with⟨F,p,rfl⟩|⟨⟨o,y⟩,p,h⟩
  ·have z:=(hk 0 167 rfl).boom (i,j,k,l,t) p rfl rfl
   have A:=Q5q z rfl rfl
   exact dS 19 9 6 [0,1,2,3,4,5] [ai m,.ref 2 1,ai a.at_,.pv (PV.agg [.int .i64 b,.int .i64 a.at_,.str d,.slice (List.map Word.pv e),.slice (List.map Redir.pv f),.slice (List.map Cmd.pv g)]),.ref 0 0,ab i,.any,.any,.any,.any] [.gone,V5 0 0 [],V8 b a.at_ d e f g] trivial A
  dsimp only at h
  have C:=(hk 0 167 rfl).ret (i,j,k,l,t) p rfl rfl
  have D:=Q3j C rfl rfl rfl rfl
  refine dV 19 9 [6,9] [(0,0),(0,1),(1,0),(1,1),(2,0),(2,1),(3,0),(3,1),(4,0),(5,0),(6,0),(7,1),(8,1),(9,1)] [ai m,.ref 2 1,ai a.at_,.pv (PV.agg [.int .i64 b,.int .i64 a.at_,.str d,.slice (List.map Word.pv e),.slice (List.map Redir.pv f),.slice (List.map Cmd.pv g)]),.ref 0 0,ab i,.pv (V7 o),.full (List.map Cmd.pv [Cmd.mk b a.at_ d e f g,o]),.agg [ai m,ai a.at_,as_ [],.nils,.nils,.full (List.map Cmd.pv [Cmd.mk b a.at_ d e f g,o])],.any] [[(0,V4 j k l y)],[(2,.var [ai m,ai a.at_,as_ [],.nils,.nils,.full (List.map Cmd.pv [Cmd.mk b a.at_ d e f g,o])])]] [0,1,4,5] (ap0 167 hpf D) ?_
  exact nx h (Wc 2)
 refine block (seq ?_)
 refine Ua2 h [0,1,4,5,11] (Z5 hk 1 rfl) λH I h=>?_
 refine iz h (λh=>?_) λh=>?_
 ·refine G [0,1,4,5,6] ?_
  exact jn h
 refine seq (Ua2 h [0,1,4,5,14] (Z5 hk 1 rfl) λJ K h=>?_)
 refine iz h (λh=>?_) λh=>?_
 ·refine G [0,1,4,5,6] ?_
  exact jn h
 exact Rt h [4]
theorem K7h{a:Y0}(c:AllG env [S131 a,S132]):Q0c env (S82 a):=by
 refine hd c Y3l 17 λO X hS hX hpf hk ⟨b,d,e,f,g⟩=>λr (h:F82 a b d e f g=some r)=>gs ?_
 rw[F82]at h
 refine R [0,1,4] ?_
 refine seq (Xa2 h [0,4,5] (Z5 hk 0 rfl) 2 λi j h=>?_)
 refine seq (seq ?_)
 refine Ua2 h [4,5,10] (Z5 hk 1 rfl) λk l h=>?_
 refine ik h (λh=>?_) λh=>?_
 ·exact seq (rg hS [4] di (Rf h))
 exact Rt h [4]
theorem Y1x(c:AllG env []):Q0c env S48:=by
 refine hd c Y4k 30 λO X hS hX hpf hk ⟨e,b,f,d⟩=>λr (h:F48 e b f d=some r)=>gs ?_
 rw[F48]at h
 refine seq (seq ?_)
 apply dgk mixed hS [0,11] (ordp hpf (by kernel_rfl))
 ·exact di
 refine ik h (λh=>?_) λh=>?_
 ·obtain⟨a,g,h⟩:=oc h λ_=>Q0l
  cases h
  refine dregS mixed hS hX 12 [0,1,2,3,4,5,6,7,8,9,10,11] [.ref 0 0,.ref 0 0,.ref 0 1,vTo b,.ref 0 0,.ref 0 0,.ref 0 3,ai d,.pptr [.int .i64 a.kind_,.int .i64 a.at_,.str a.text_,.str a.quoted_],.pptr [.int .i64 a.at_,.str a.text_,.str a.quoted_],ai a.at_,.ifc 73 (.int .i64 a.at_),.any] [(12,.ref 0 0),(13,.ref 0 0),(14,.ref 0 1),(15,vTo b),(16,.ref 0 0),(17,.ref 0 0),(18,.ref 0 3),(19,ai d),(20,.pptr [.int .i64 a.kind_,.int .i64 a.at_,.str a.text_,.str a.quoted_]),(21,.pptr [.int .i64 a.at_,.str a.text_,.str a.quoted_]),(22,ai a.at_),(23,.ifc 73 (.int .i64 a.at_)),(0,.ref 0 0),(11,ab (decide (d<(b.length:Int))))] rfl (by kernel_rfl) rfl (H':=[V4 e b f d]) ?_ ?_ (J5j rfl rfl rfl)
  ·repeat'(first|exact Q4p.nil|refine Q4p.cons rfl rfl rfl ?_ ?_)
   all_goals exact dv1 (an g.1 g.2.1)
  exact Q6w.panic rfl rfl rfl
 cases h
 apply regS hS hX 6 rfl
 ·exact dp
 exact J5j rfl rfl rfl
theorem K7l{b:Y0}(c:AllG env [S80,S81,S82 b,S84,S83,S48]):Q0c env (S47 b):=by
 refine hd c Y4l 36 λO X hS hX hpf hk ⟨a,d,e,f,m⟩=>λr (h:F47 b a d e f m=some r)=>gs ?_
 rw[F47]at h
 refine R [0,1] ?_
 refine seq (rg hS [0,1,5] di ?_)
 refine weak (Weak.own 5 36 6 (by decide) rfl) ?_
 refine weak (Weak.slots (L:=[(0,.ref 0 0),(1,ab a),(5,.vec 1 (List.length ([]:List Cmd)))]) ⟨rfl,rfl,rfl,trivial⟩) ?_
 refine seq (Ua2 h [0,1,5] (Z4 hk 0 rfl) λw x h=>?_)
 refine seq (block ?_)
 refine Lp h (λ(j,g)=>⟨sl [(0,.ref 0 0),(1,ab a),(5,.vec 1 (List.length g))],36,[V4 d e f j,rCm g]⟩) ?_
 clear h
 rintro⟨j,g⟩ m17 h
 rw[Z9b]at h
 try dsimp only at h
 refine AW.st (seq ?_)
 refine seq (Ua1 h [0,1,5,11] (Z5 hk 1 rfl) λy h=>?_)
 refine iz h (λh=>?_) λh=>?_
 ·refine skip (block ?_)
  refine seq (Xa2 h [0,1,5,6] (Z5 hk 2 rfl) 2 λk z h=>?_)
  replace h:=ap Cmd.pv h;obtain⟨l,n,h⟩:=h
  refine seq (rg hS [0,1,5,6] (di1 n) ?_)
  obtain⟨⟨o,p⟩,q,h⟩:=oc h (Z4 hk 0 rfl)
  refine seq (seq ?_)
  refine reg hS [(0,.ref 0 0),(1,ab a),(5,.vec 1 (List.length l)),(25,ab (o||decide (k.kind_=14)))] [V4 d e f p,rCm l,V9 k] ?_ ?_
  ·clear h hk hS hX c
   exact dh1 (cb q)
  refine ik h (λh=>?_) λh=>?_
  ·exact exit (nx h)
  refine seq (seq ?_)
  rcases bs h with⟨i,h⟩|⟨i,h⟩
  ·obtain⟨s,t,h⟩:=oc h (Z5 hk 3 rfl)
   obtain⟨A,u,h⟩:=oc h (Zt hk 4 83 s)
   refine rg hS [0,5,32] (di1 (an i (an (cb t) (ca u)))) ?_
   refine ik h (λh=>?_) λh=>?_
   ·refine Xa1 h [5] (Z4 hk 5 rfl) 1 λ_ h=>?_
    exact exit (Rt h [4])
   exact exit (Rt h [4])
  refine rg hS [0,5,32] (di1 i) ?_
  refine cF (skip (exit ?_))
  exact Rt h [4]
 exact exit (Rt h [4])
theorem V0b(c:AllG env []):Q0c env S144:=by
 refine hd c V4q 46 ?_
 rintro O X hS hX hpf hk (b:Str) (r:Bool) (h:F144 b=some r)
 refine gs ?_
 rw[F144]at h
 refine R [0] ?_
 refine seq (R [0,6,7] ?_)
 refine block (Lp h (λi3=>⟨sl [(0,as_ b),(6,ai (b.length:Int)),(7,ai i3)],46,[]⟩) ?_)
 clear h
 rintro i3 e h
 rw[J1l]at h
 try dsimp only at h
 refine AW.st (R [0,6,7,8] ?_)
 refine seq (iz h (λh=>?_) λh=>?_)
 ·refine skip (seq ?_)
  refine block (R [0,3,6,7] ?_)
  obtain⟨a,d,h⟩:=oc h λ_=>Q1y
  refine seq (rg hS [0,4,6,7] (di1 (an d.1 (an d.2.1 d.2.2))) ?_)
  refine seq (reg hS [(0,as_ b),(6,ai (b.length:Int)),(7,ai i3),(42,ab (((((decide (a<97)||decide (122<a))&&(decide (a<65)||decide (90<a)))&&(decide (a<48)||decide (57<a)))&&!decide (a=95))&&!decide (a=42)))] [] ?_ ?_)
  ·clear h hk hS hX c
   exact dh
  refine ik h (λh=>?_) λh=>?_
  ·exact Rt h [2]
  refine G [0,6,7] ?_
  exact nx h
 exact exit (Rt h [2])
theorem K8u{a:Y0}{b:Y1}(c:AllG env [S84,S252 b,S81,S200 a]):Q0c env (S223 a b):=by
 refine hd c V3d 32 λO X hS hX hpf hk ⟨e,f,g,i,j⟩=>λr (h:F223 a b e f g i j=some r)=>gs ?_
 rw[F223]at h
 refine R [0,1,4] ?_
 obtain⟨m,d,h⟩:=oc h (Z5 hk 0 rfl)
 refine seq (rg hS [0,1,4,5] (di1 (an (cb d) (cb d))) ?_)
 refine R [0,1,4,5] ?_
 refine seq (xb h (Z4 hk 1 rfl) 1 ?_)
 rintro⟨n,o⟩ k h
 refine rg hS [0,1,4,5] (di1 (cb k)) ?_
 refine seq (seq ?_)
 refine Ua1 h [0,1,4,5,25] (Z5 hk 2 rfl) λp h=>?_
 refine ik h (λh=>?_) λh=>?_
 ·refine xb h (Z5 hk 3 rfl) 2 ?_
  rintro⟨q,s⟩ l h
  refine rg hS [4,5] (di1 (cb l)) ?_
  exact Rt h [4]
 exact Rt h [4]
theorem K8t{a:Y0}(c:AllG env [S84,S168,S200 a]):Q0c env (S224 a):=by
 refine hd c V3c 33 λO X hS hX hpf hk ⟨Q8k,j,b,d,e,f,k⟩=>λr (h:F224 a Q8k j b d e f k=some r)=>gs ?_
 rw[F224]at h
 refine R [0,1,2,3,8] ?_
 refine seq (Ua1 h [0,1,2,3,8,9] (Z5 hk 0 rfl) λg h=>?_)
 refine R [0,1,3,8,9] ?_
 refine seqJ (α:=Int) (λi=>⟨sl [(0,.ref 0 0),(3,ab b),(8,.ref 1 0),(9,.ref 2 0)],33,[V4 d e f i,V5 0 0 [],V5 Q8k g.at_ []]⟩) (λx=>Z7i a b d e f Q8k g x=some r) ?_ ?_
 ·intro i h
  rw[Z7i]at h
  try dsimp only at h
  refine AW.st (seq ?_)
  refine xb h (Z5 hk 2 rfl) 2 ?_
  rintro⟨m,n⟩ l h
  refine rg hS [8,9] (di1 (cb l)) ?_
  exact Rt h [8]
 refine R [0,3,8,9,24] ?_
 refine ik h (λh=>?_) λh=>?_
 ·refine Ua1 h [0,3,8,9] (Z4 hk 1 rfl) λo h=>?_
  exact jn h
 exact jn h
theorem K8d(c:AllG env [S84,S132,S48]):Q0c env S255:=by
 refine hd c V2n 16 λO X hS hX hpf hk ⟨a,b,d,e,f⟩=>λr (h:F255 a b d e f=some r)=>gs ?_
 rw[F255]at h
 refine R [0,1] ?_
 refine seq (Ua1 h [0,1,5] (Z5 hk 0 rfl) λg h=>?_)
 refine seq (seq ?_)
 refine Ua2 h [0,5,12] (Z5 hk 1 rfl) λi j h=>?_
 refine ik h (λh=>?_) λh=>?_
 ·refine Xa1 h [5] (Z4 hk 2 rfl) 1 λ_ h=>?_
  exact Rt h [4]
 exact Rt h [4]
theorem K8f{a:Y0}(c:AllG env [S255,S47 a]):Q0c env (S253 a):=by
 refine hd c V2p 11 λO X hS hX hpf hk ⟨b,d,e,f⟩=>λr (h:F253 a b d e f=some r)=>gs ?_
 rw[F253]at h
 refine R [0] ?_
 refine seq (Xa2 h [0] (Z5 hk 0 rfl) 1 λg i h=>?_)
 refine seq (Xa2 h [0,3] (Z5 hk 1 rfl) 1 λj k h=>?_)
 refine seq (Xa2 h [3] (Z5 hk 0 rfl) 1 λl m h=>?_)
 exact Rt h [2]
theorem K7o(c:AllG env [S74]):Q0c env S288:=by
 refine hd c V1w 13 λO X hS hX hpf hk ⟨e,f⟩=>λr (h:F288 e f=some r)=>gs ?_
 rw[F288]at h
 refine R [0,1] ?_
 refine seq (seq ?_)
 refine Ua1 h [0,1,7] (Zt2 hk 0 rfl) λg h=>?_
 refine ik h (λh=>?_) λh=>?_
 ·obtain⟨i,a,h⟩:=oc h λ_=>Q0r
  try simp only[NRM,Int.reduceToNat]at a
  have b:=a.2.2.2.2
  try simp only[NRM,Int.reduceToNat]at b
  have d:=a.2.2.1
  try simp only[NRM,Int.reduceToNat]at d
  refine seq (rg hS [4] (di1 (an a.1 (an a.2.1 (an d (an a.2.2.2.1 b))))) ?_)
  exact Rf h
 exact Rt h [4]
theorem K7t(c:AllG env [S288]):Q0c env S276:=by
 refine hd c V2b 8 λO X hS hX hpf hk ⟨a,b⟩=>λr (h:F276 a b=some r)=>gs ?_
 rw[F276]at h
 refine R [0,1] ?_
 refine seq (Ua1 h [4] (Zt2 hk 0 rfl) λd h=>?_)
 exact Rf h
theorem K9y(c:AllG env []):Q0c env S155:=by
 refine hd c V4m 21 λO X hS hX hpf hk ⟨d,b⟩=>λr (h:F155 d b=some r)=>gs ?_
 rw[F155]at h
 refine R [0,1] ?_
 obtain⟨t4,a,h⟩:=oc h λ_ q=>Z9v (Q0d q)
 try simp only[NRM,Int.reduceToNat]at a
 have e:=a.2.2.2.2
 try simp only[NRM,Int.reduceToNat]at e
 have f:=a.2.2.1
 try simp only[NRM,Int.reduceToNat]at f
 refine seq (reg hS [(4,ab (decide ((b.length:Int)<=(d.length:Int))&&decide (t4=b)))] [] ?_ ?_)
 ·clear h hk hS hX c
  exact dh1 (an a.1 (an a.2.1 (an f (an a.2.2.2.1 e))))
 exact Rf h
theorem K7p(c:AllG env [S155]):Q0c env S287:=by
 refine hd c V1x 16 λO X hS hX hpf hk ⟨e,f⟩=>λr (h:F287 e f=some r)=>gs ?_
 rw[F287]at h
 refine R [0,1] ?_
 refine seq (seq ?_)
 refine Ua1 h [0,1,7] (Zt2 hk 0 rfl) λg h=>?_
 refine ik h (λh=>?_) λh=>?_
 ·obtain⟨i,a,h⟩:=oc h λ_=>Q0r
  try simp only[NRM,Int.reduceToNat]at a
  have b:=a.2.2.2.2
  try simp only[NRM,Int.reduceToNat]at b
  have d:=a.2.2.1
  try simp only[NRM,Int.reduceToNat]at d
  refine seq (rg hS [4] (di1 (an a.1 (an a.2.1 (an d (an a.2.2.2.1 b))))) ?_)
  exact Rf h
 exact Rt h [4]
theorem K7u(c:AllG env [S287]):Q0c env S275:=by
 refine hd c V2c 8 λO X hS hX hpf hk ⟨a,b⟩=>λr (h:F275 a b=some r)=>gs ?_
 rw[F275]at h
 refine R [0,1] ?_
 refine seq (Ua1 h [4] (Zt2 hk 0 rfl) λd h=>?_)
 exact Rf h
theorem K7s(c:AllG env [J5n]):Q0c env S277:=by
 refine hd c V2a 11 ?_
 rintro O X hS hX hpf hk (a:Str) (r:Int) (h:F277 a=some r)
 refine gs ?_
 rw[F277]at h
 refine R [0] ?_
 refine seq (Ua2 h [3] (Zt hk 0 199 a) λb d h=>?_)
 exact Rt h [2]
theorem K8e{i:Y1}(c:AllG env [S84,Z1u,Q0z,S42,S276,S275,J7s,S277,S252 i]):Q0c env (S254 i):=by
 refine hd c V2o 102 λO X hS hX hpf hk ⟨a,b,d,e⟩=>λr (h:F254 i a b d e=some r)=>gs ?_
 rw[F254]at h
 refine R [0,2] ?_
 refine seq (Ua1 h [0,2,3] (Z5 hk 0 rfl) λn h=>?_)
 refine seq (R [0,2,3,16] ?_)
 refine ik h (λh=>?_) λh=>?_
 ·refine seq ?_
  obtain⟨H,p,h⟩:=oc h λ_=>Q0l
  apply dgk mixed hS [0,2,3,4] (ordp hpf (by kernel_rfl))
  ·exact di1 (an p.1 p.2.1)
  refine R [2,3,4] ?_
  refine seq (Ua1 h [2,3,5] (Zt2 hk 1 rfl) λI h=>?_)
  refine seq ?_
  obtain⟨J,C,h⟩:=oc h (Zt2 hk 2 rfl)
  apply dgB mixed hS [(2,some 1),(3,some 2),(5,some 3),(40,some 2)] [2] rfl (ordB hpf (B:=[(2,some 1),(3,some 2),(5,some 3),(40,some 2)]) (by kernel_rfl))
  ·exact di1 (ca C)
  exact Rf h
 refine R [0,2,3] ?_
 refine R [0,2,3,6] ?_
 obtain⟨t21,f,h⟩:=oc h λ_=>Q0r
 try simp only[NRM,Int.reduceToNat]at f
 have q:=f.2.2.2.2
 try simp only[NRM,Int.reduceToNat]at q
 have s:=f.2.2.1
 try simp only[NRM,Int.reduceToNat]at s
 refine seq (rg hS [0,2,3,6,7] (di1 (an f.1 (an f.2.1 (an s (an f.2.2.2.1 q))))) ?_)
 refine seqJ (α:=Str×Int×Int) (λ(t,j,u)=>⟨sl [(0,.ref 0 0),(2,.ref 1 0),(6,.ref 3 0),(7,as_ t)],102,[V4 a b d (IntKind.wrap .i64 (e+1)),V10 0 0 0 0 [] [] false,V1 n,V11 j u 0 0 [] [] [] [] false]⟩) (λx=>Q7r e i a b d x=some r) ?_ ?_
 ·intro⟨t,j,u⟩ h
  rw[Q7r]at h
  try dsimp only at h
  refine AW.st (seqJ (α:=Int) (λw=>⟨sl [(0,.ref 0 0),(2,.ref 1 0),(6,.ref 3 0)],102,[V4 a b d (IntKind.wrap .i64 (e+1)),V10 0 0 0 0 [] [] false,V1 n,V11 j w 0 0 [] [] [] [] false]⟩) (λx=>Z0p i a b d e j x=some r) ?_ ?_)
  ·intro w h
   rw[Z0p]at h
   try dsimp only at h
   refine AW.st (seq ?_)
   refine Xa2 h [2,6] (Z4 hk 8 rfl) 1 λK L h=>?_
   exact Rt h [2]
  refine R [0,2,6,7,69] ?_
  refine ik h (λh=>?_) λh=>?_
  ·obtain⟨M,k,h⟩:=oc h (Zt2 hk 4 rfl)
   replace k:=ca k
   try simp only[PVE]at k
   obtain⟨N,l,h⟩:=oc h (Zt2 hk 5 rfl)
   replace l:=ca l
   try simp only[PVE]at l
   refine seq (rg hS [0,2,6,8] (di1 (an k l)) ?_)
   refine seq (Ua3 h [0,2,6,9,10,11] (Zt2 hk 6 rfl) λD o y h=>?_)
   refine seq (Ua1 h [0,2,6,10,11] (Zt hk 7 277 D) λE h=>?_)
   refine block (seq ?_)
   refine reg hS [(0,.ref 0 0),(2,.ref 1 0),(6,.ref 3 0),(10,as_ o),(11,ab y),(82,ab (y&&decide (o=[])))] [V4 a b d (IntKind.wrap .i64 (e+1)),V10 0 0 0 0 [] [] false,V1 n,V11 j E 0 0 [] [] [] [] false] ?_ ?_
   ·clear h hk hS hX c
    exact dh
   refine iz h (λh=>?_) λh=>?_
   ·exact Rt h [2]
   refine R [0,2,6,10,91] ?_
   refine ik h (λh=>?_) λh=>?_
   ·refine seq ?_
    obtain⟨P,F,h⟩:=oc h (Zt hk 7 277 o)
    apply dgB mixed hS [(2,some 1),(6,some 3),(93,some 3)] [2] rfl (ordB hpf (B:=[(2,some 1),(6,some 3),(93,some 3)]) (by kernel_rfl))
    ·exact di1 (ca F)
    exact Rf h
   exact jn h
  exact jn h
 obtain⟨Q,m,h⟩:=oc h λ_=>Q1y
 try simp only[NRM,Int.reduceToNat]at m
 refine block (seq ?_)
 refine rg hS [0,2,6,7,56] (di1 (an m.1 (an m.2.1 m.2.2))) ?_
 refine iz h (λh=>?_) λh=>?_
 ·refine G [0,2,6,7] ?_
  exact jn h
 refine seq (Ua1 h [0,2,6,7,62] (Zt2 hk 3 rfl) λS h=>?_)
 refine ik h (λh=>?_) λh=>?_
 ·refine R [0,2,6,7] ?_
  obtain⟨T,g,h⟩:=oc h λ_=>Q0r
  try simp only[NRM,Int.reduceToNat]at g
  have z:=g.2.2.2.2
  try simp only[NRM,Int.reduceToNat]at z
  have A:=g.2.2.1
  try simp only[NRM,Int.reduceToNat]at A
  refine rg hS [0,2,6,7] (di1 (an g.1 (an g.2.1 (an A (an g.2.2.2.1 z))))) ?_
  exact jn h
 exact jn h
theorem K8s{g:Y0}{i:Y1}(c:AllG env [S84,S253 g,S130,S254 i]):Q0c env (S225 g i):=by
 refine hd c V3b 21 λO X hS hX hpf hk ⟨a,b,d,j⟩=>λr (h:F225 g i a b d j=some r)=>?_
 have s:O.pf 254=false:=pft hpf 254 rfl
 refine gs ?_
 rw[F225]at h
 refine R [0,2] ?_
 refine seq ?_
 obtain⟨k,p,h⟩:=oc h (Z5 hk 0 rfl)
 rcases Q0y h with⟨J,l,rfl⟩|⟨⟨m,K⟩,l,h⟩
 ·have t:=(hk 1 253 rfl).boom (a,b,d,j) l rfl rfl
  have u:=Q5q t rfl rfl
  apply regS hS hX 4 rfl
  ·exact dp1 (an (cb p) u)
  exact J5j rfl rfl rfl
 dsimp only at h
 have w:=(hk 1 253 rfl).ret (a,b,d,j) l rfl rfl
 have x:=Q3j w rfl rfl rfl rfl
 refine AW.after ?_
 refine rg hS [0,2,3] (di1 (an (cb p) (ap0 253 hpf x))) ?_
 refine oC Redir.pv 2 4 51 9 ?_
 refine seq (block ?_)
 refine Lp h (λ(f,e)=>⟨sl [(0,.ref 0 0),(2,.ref 1 0),(3,.ref 2 0)],21,[V4 a b d f,V5 0 0 [],V13 12 k.at_ [] e.length m,rRe e]⟩) ?_
 clear h
 rintro⟨f,e⟩ L h
 rw[Z2w]at h
 try dsimp only at h
 obtain⟨y,z,h⟩:=oc h (Z5 hk 0 rfl)
 obtain⟨M,A,h⟩:=oc h (Zt hk 2 130 y)
 refine AW.st (seq ?_)
 refine seq (rg hS [0,2,3,12] (di1 (an (cb z) (ca A))) ?_)
 refine iz h (λh=>?_) λh=>?_
 ·refine skip (block ?_)
  rcases Q0y h with⟨N,n,rfl⟩|⟨⟨q,C⟩,n,h⟩
  ·have D:=(hk 3 254 rfl).boom (a,b,d,f) n rfl rfl
   have E:=Q5q D rfl rfl
   exact dS 13 7 3 [0,1,2] [.ref 2 4,.vec 3 (List.length e),.ref 0 0,.any,.any,.any,.any,.any] [.gone,V5 0 0 [],V13 12 k.at_ [] e.length m,rRe e] trivial E
  dsimp only at h
  have F:=(hk 3 254 rfl).ret (a,b,d,f) n rfl rfl
  have H:=Q3j F rfl rfl rfl rfl
  replace h:=ap Redir.pv h;obtain⟨o,I,h⟩:=h
  refine dV 13 7 [3,5,7] [(0,0),(0,1),(1,0),(1,1),(2,0),(3,0),(4,1),(5,1),(6,2),(7,2)] [.ref 2 4,.vec 3 (List.length e),.ref 0 0,.pv (V15 q),.full [V15 q],.vec 3 (List.length o),.ref 2 4,.any] [[(0,V4 a b d C)],[(3,rRe o)],[(2,V13 12 k.at_ [] o.length m)]] [0,2,3] (an s (an H I)) ?_
  exact nx h
 exact exit (Rt h [2])
theorem K8r{e:Y0}(c:AllG env [S84,S255,S47 e,S168,S200 e]):Q0c env (S226 e):=by
 refine hd c V3a 38 λO X hS hX hpf hk ⟨Q8k,a,f,g,i,n⟩=>λr (h:F226 e Q8k a f g i n=some r)=>gs ?_
 rw[F226]at h
 refine R [0,1,2,6] ?_
 refine seq (Ua1 h [0,2,6,7] (Z5 hk 0 rfl) λl h=>?_)
 refine R [0,2,6,7] ?_
 refine seq (Xa2 h [0,2,6,7,8] (Z5 hk 1 rfl) 1 λb t h=>?_)
 refine seq (Xa2 h [0,2,6,7,8] (Z5 hk 2 rfl) 1 λd u h=>?_)
 refine seq (Xa2 h [0,2,6,7,8] (Z5 hk 1 rfl) 1 λw x h=>?_)
 refine seq (Ua1 h [0,2,6,7,8] (Z4 hk 3 rfl) λm h=>?_)
 refine seq ?_
 rcases Q0y h with⟨y,j,rfl⟩|⟨⟨k,o⟩,j,h⟩
 ·have p:=(hk 4 200 rfl).boom (a,f,g,i,m) j rfl rfl
  have e47:=Q5q p rfl rfl
  exact dS 31 6 3 [0,1,2] [.agg [ai 12,ai b,as_ [],.nils,.nils,vC d],.ref 0 0,ab a,.any,.any,.any,.any] [.gone,V5 0 0 [],V5 Q8k l.at_ [],V12 12 b [] d] trivial e47
 dsimp only at h
 have q:=(hk 4 200 rfl).ret (a,f,g,i,m) j rfl rfl
 have s:=Q3j q rfl rfl rfl rfl
 refine dV 31 6 [3,6] [(0,0),(0,1),(1,0),(2,0),(3,0),(4,1),(5,1),(6,1)] [.agg [ai 12,ai b,as_ [],.nils,.nils,vC d],.ref 0 0,ab a,.pv (V7 k),.full (List.map Cmd.pv [Cmd.mk 12 b [] [] [] d,k]),.ref 2 5,.any] [[(0,V4 f g i o)],[(2,.var [ai Q8k,ai l.at_,as_ [],.nils,.nils,.full (List.map Cmd.pv [Cmd.mk 12 b [] [] [] d,k])])]] [6,7] (ap0 200 hpf s) ?_
 exact Rt h [6]
end Go.Abs.U48
