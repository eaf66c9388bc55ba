import Derived.Test.YtljahlbklgnfhaaGreatDoorD1
set_option linter.unusedVariables false
set_option linter.unusedSimpArgs false
set_option maxRecDepth 8000
set_option maxHeartbeats 4000000
namespace Go.Abs.U48
open Go.RowKit Go.Proofs AW
theorem K9e{a:Y0}{b:Y1}(c:AllG env [S84,S133,S144,S128,S223 a b,S224 a,S225 a b,S83,S226 a,S227 a b,S228 a b,S229 a,S230 b,S48,S81,S231 b]):Q0c env (S200 (F200 a b)):=by
 refine hd c X9w 97 λO X hS hX hpf hk ⟨e,f,g,i,n⟩=>λr (h:F200 a b e f g i n=some r)=>?_
 have q:O.pf 144=true:=pft hpf 144 rfl
 refine gs ?_
 rw[F200]at h
 refine R [0,1,4] ?_
 obtain⟨d,s,h⟩:=oc h (Z5 hk 0 rfl)
 obtain⟨j,t,h⟩:=oc h (Z5 hk 0 rfl)
 refine seq (rg hS [0,1,4,5,6] (di1 (an (cb s) (cb t))) ?_)
 obtain⟨u,w,h⟩:=oc h (Zt hk 1 133 d)
 obtain⟨y,k,h⟩:=obs h
 replace k:=Q0d k
 have z:=λl=>(hk 2 144 rfl).ret d.text_ (k l) rfl rfl
 obtain⟨A,m,h⟩:=obs h
 replace m:=Q0d m
 have o:=λl=>(hk 3 128 rfl).ret (j,([61]:Str)) (m l) rfl rfl
 try simp only[PVE]at o
 refine seq (block ?_)
 refine seq (reg hS [(0,.ref 0 0),(1,ab e),(4,.ref 1 0),(5,.ref 2 0),(6,.ref 3 0),(11,ab ((u&&y)&&A))] [V4 f g i n,V5 0 0 [],V1 d,V1 j] ?_ ?_)
 ·clear h hk hS hX c
  exact dh1 (an (ca w) (an q (an z (ap1 128 hpf o))))
 refine iz h (λh=>?_) λh=>?_
 ·refine seq (Xa2 h [4] (Z5 hk 4 rfl) 2 λC D h=>?_)
  exact Rf h
 refine seq (Ua1 h [0,1,4,5,6,26] (Zt2 hk 3 rfl) λE h=>?_)
 refine iz h (λh=>?_) λh=>?_
 ·refine seq (Xa2 h [4] (Z7 hk 5 rfl) 2 λF H h=>?_)
  exact Rf h
 refine seq (Ua1 h [0,1,4,5,6,32] (Zt2 hk 3 rfl) λI h=>?_)
 refine iz h (λh=>?_) λh=>?_
 ·refine seq (Xa2 h [4] (Z7 hk 5 rfl) 2 λJ K h=>?_)
  exact Rf h
 refine seq (Ua1 h [0,1,4,5,6,38] (Zt2 hk 3 rfl) λL h=>?_)
 refine ik h (λh=>?_) λh=>?_
 ·refine seq (Xa2 h [4] (Z4 hk 6 rfl) 1 λM N h=>?_)
  exact Rf h
 refine seqJ (α:=Int) (λp=>⟨sl [(0,.ref 0 0),(1,ab e),(4,.ref 1 0)],97,[V4 f g i p,V5 0 0 [],V1 d,V1 j]⟩) (λx=>Z0r e f g i b x=some r) ?_ ?_
 ·intro p h
  rw[Z0r]at h
  try dsimp only at h
  refine AW.st (seq ?_)
  refine seq (Ua1 h [0,4,92] (Z5 hk 14 rfl) λP h=>?_)
  refine ik h (λh=>?_) λh=>?_
  ·refine Xa1 h [0,4] (Z4 hk 13 rfl) 1 λ_ h=>?_
   refine seq (Xa2 h [4] (Z4 hk 15 rfl) 1 λQ S h=>?_)
   exact Rf h
  refine seq (Xa2 h [4] (Z4 hk 15 rfl) 1 λT U h=>?_)
  exact Rf h
 refine seq (Ua1 h [0,1,4,6,44] (Zt hk 7 83 d) λV h=>?_)
 refine block (R [0,1,4,6,44,45] ?_)
 refine iz h (λh=>?_) λh=>?_
 ·refine seq (seq ?_)
  refine Ua1 h [0,1,4,49] (Zt hk 7 83 j) λW h=>?_
  refine ik h (λh=>?_) λh=>?_
  ·refine seq (Xa2 h [4] (Z7 hk 5 rfl) 2 λY aa h=>?_)
   exact Rf h
  refine seq (Xa2 h [4] (Z6 hk 8 rfl) 2 λac ad h=>?_)
  exact Rf h
 refine R [0,1,4,44,56] ?_
 refine iz h (λh=>?_) λh=>?_
 ·refine seq (Xa2 h [4] (Z6 hk 8 rfl) 2 λae af h=>?_)
  exact Rf h
 refine R [0,1,4,44,61] ?_
 refine iz h (λh=>?_) λh=>?_
 ·refine seq (Xa2 h [4] (Z5 hk 9 rfl) 2 λag ah h=>?_)
  exact Rf h
 refine R [0,1,4,44,66] ?_
 refine iz h (λh=>?_) λh=>?_
 ·refine seq (Xa2 h [4] (Z4 hk 10 rfl) 1 λaj ak h=>?_)
  exact Rf h
 refine R [0,1,4,44,70] ?_
 refine iz h (λh=>?_) λh=>?_
 ·refine seq (Xa2 h [4] (Z4 hk 11 rfl) 1 λal am h=>?_)
  exact Rf h
 refine R [0,1,4,44,74] ?_
 refine iz h (λh=>?_) λh=>?_
 ·refine seq (Xa2 h [4] (Z4 hk 12 rfl) 1 λao aq h=>?_)
  exact Rf h
 refine R [0,1,4,78] ?_
 refine ik h (λh=>?_) λh=>?_
 ·refine R [0,1,4] ?_
  refine Xa1 h [0,1,4] (Z4 hk 13 rfl) 1 λ_ h=>?_
  exact jn h
 exact jn h
theorem K7q{g:Y1}(c:AllG env [S84,S256,S127,S257 g,S48,S255]):Q0c env (S286 g):=by
 refine hd c V1y 46 λO X hS hX hpf hk ⟨i,j,k,p⟩=>λr (h:F286 g i j k p=some r)=>gs ?_
 rw[F286]at h
 refine R [0,2] ?_
 refine seq (Ua1 h [0,2,3] (Z5 hk 0 rfl) λa h=>?_)
 refine seq (Xa2 h [0,2,3,4] (Z4 hk 1 rfl) 1 λm s h=>?_)
 obtain⟨e,d,h⟩:=oc h (Z5 hk 2 rfl)
 replace d:=cb d
 try simp only[PVE]at d
 refine seq (seq ?_)
 rcases bs h with⟨l,h⟩|⟨l,h⟩
 ·refine dV 10 15 [1,5,6] [(0,0),(1,0),(2,1),(3,1),(4,1),(5,1),(6,2),(7,1),(7,2),(7,3),(8,1),(8,2),(8,3),(9,1),(9,2),(9,3),(10,1),(10,2),(10,3),(11,1),(11,2),(11,3),(12,1),(12,2),(12,3),(13,3),(14,3)] [.ref 0 0,ab e,ab (!e),ab true,.tup [],.tup [],.tup [],.tup [],.tup [],.tup [],.tup [],.tup [],.tup [],.tup [],ab true] [[],[],[]] [0,2,4,24] (an d l) ?_
  refine cond (b:=true) rfl (λ_=>?_) (λhb=>absurd hb (by decide))
  exact Rt h [2]
 obtain⟨f,q,h⟩:=oc h (Z5 hk 0 rfl)
 refine dV 10 15 [1,5,6] [(0,0),(1,0),(2,1),(3,1),(4,1),(5,1),(6,2),(7,1),(7,2),(7,3),(8,1),(8,2),(8,3),(9,1),(9,2),(9,3),(10,1),(10,2),(10,3),(11,1),(11,2),(11,3),(12,1),(12,2),(12,3),(13,3),(14,3)] [.ref 0 0,ab e,ab (!e),ab false,.ref 0 0,.pv (V6 f),ai f.at_,.ref 2 1,ai a.at_,.ref 2 2,as_ a.text_,ai (a.text_.length:Int),ai (IntKind.wrap .i64 (a.at_+(a.text_.length:Int))),ab (!decide (f.at_=IntKind.wrap .i64 (a.at_+(a.text_.length:Int)))),ab (!decide (f.at_=IntKind.wrap .i64 (a.at_+(a.text_.length:Int))))] [[],[],[]] [0,2,4,24] (an d (an l (cb q))) ?_
 refine ik h (λh=>?_) λh=>?_
 ·exact Rt h [2]
 refine R [0,2,4] ?_
 refine R [0,2,4] ?_
 refine seq (Xa2 h [0,2,4] (Z4 hk 3 rfl) 1 λn o h=>?_)
 refine seqJ (α:=Unit) (λ_=>⟨sl [(0,.ref 0 0),(2,.ref 1 0),(4,.ref 3 0)],46,[V4 i j k o,V18 0 [] [],V1 a,V19 7 m [] n []]⟩) (λx=>Z7d i j k o m n x=some r) ?_ ?_
 ·intro _ h
  rw[Z7d]at h
  try dsimp only at h
  refine AW.st (seq ?_)
  refine Xa2 h [2,4] (Z5 hk 5 rfl) 1 λt u h=>?_
  exact Rt h [2]
 refine R [0,2,4,40] ?_
 refine ik h (λh=>?_) λh=>?_
 ·refine Xa1 h [0,2,4] (Z4 hk 4 rfl) 1 λ_ h=>?_
  exact jn h
 exact jn h
theorem K7v{b:Y0}{a:Y1}(c:AllG env [S84,S129,S48,S286 a,S256,S257 a,S255,S253 b]):Q0c env (S274 b a):=by
 refine hd c V2d 54 λO X hS hX hpf hk ⟨d,e,f,g⟩=>λr (h:F274 b a d e f g=some r)=>gs ?_
 rw[F274]at h
 refine R [0,2] ?_
 refine seq (Ua1 h [0,2,3] (Z5 hk 0 rfl) λi h=>?_)
 refine seqJ (α:=Unit) (λ_=>⟨sl [(0,.ref 0 0),(2,.ref 1 0),(3,.ref 2 0)],54,[V4 d e f g,V18 0 [] [],V1 i]⟩) (λx=>Z7e i g a d e f b x=some r) ?_ ?_
 ·intro _ h
  rw[Z7e]at h
  try dsimp only at h
  refine AW.st (R [0,2,3] ?_)
  refine seq (block ?_)
  refine R [0,2,3,19] ?_
  refine iz h (λh=>?_) λh=>?_
  ·exact Rt h [2]
  refine R [0,2,3,28] ?_
  refine iz h (λh=>?_) λh=>?_
  ·refine seq (Xa2 h [2] (Z4 hk 3 rfl) 1 λj k h=>?_)
   exact Rf h
  refine R [0,2,3,34] ?_
  refine iz h (λh=>?_) λh=>?_
  ·refine seq (Xa2 h [2] (Z4 hk 4 rfl) 1 λl m h=>?_)
   exact Rf h
  refine R [0,2,41] ?_
  refine ik h (λh=>?_) λh=>?_
  ·refine seq (Xa2 h [0,2,4] (Z4 hk 5 rfl) 1 λn o h=>?_)
   refine seq (Xa2 h [2,4] (Z5 hk 6 rfl) 1 λp q h=>?_)
   exact Rt h [2]
  refine seq (Xa2 h [2] (Z4 hk 7 rfl) 1 λs t h=>?_)
  exact Rf h
 refine seq (Ua1 h [0,2,3,9] (Zt hk 1 129 i) λu h=>?_)
 refine ik h (λh=>?_) λh=>?_
 ·refine Xa1 h [0,2,3] (Z4 hk 2 rfl) 1 λ_ h=>?_
  exact jn h
 exact jn h
theorem K8g{a:Y0}{b:Y1}(c:AllG env [S274 a b,S132]):Q0c env (S252 (F252 a b)):=by
 refine hd c X9v 22 λO X hS hX hpf hk ⟨d,e,f,l⟩=>λr (h:F252 a b d e f l=some r)=>gs ?_
 rw[F252]at h
 refine R [0,2] ?_
 refine seq (xb h (Z4 hk 0 rfl) 1 ?_)
 rintro⟨t,u⟩ m h
 refine rg hS [0,2,3] (di1 (cb m)) ?_
 refine seq (block ?_)
 refine Lq r (Z0q d e f a b) (λ(j,i)=>⟨sl [(0,.ref 0 0),(2,.ref 1 0),(3,.vec 2 (List.length i))],22,[V4 d e f j,V18 0 [] [],rWo i]⟩) ?_ ?_
 ·refine seq (seq ?_)
  refine Ua2 h [0,2,3,8] (Z5 hk 1 rfl) λw x h=>?_
  refine iz h (λh=>?_) λh=>?_
  ·refine skip (block ?_)
   refine xb h (Z4 hk 0 rfl) 2 ?_
   rintro⟨y,n⟩ o h
   replace h:=ap Word.pv h;obtain⟨k,p,h⟩:=h
   refine reg hS [(0,.ref 0 0),(2,.ref 1 0),(3,.vec 2 (List.length k))] [V4 d e f n,V18 0 [] [],rWo k] (dk1 (an (cb o) p)) ?_
   exact ny h
  refine exit (seq ?_)
  refine R [2,3,16] ?_
  refine ik h (λh=>?_) λh=>?_
  ·exact Rt h [2]
  exact Rt h [2]
 clear h
 rintro⟨j,i⟩ m19 h
 unfold Z0q at h
 try dsimp only at h
 refine AW.st (seq ?_)
 refine seq (Ua2 h [0,2,3,8] (Z5 hk 1 rfl) λz A h=>?_)
 refine iz h (λh=>?_) λh=>?_
 ·refine skip (block ?_)
  refine xb h (Z4 hk 0 rfl) 2 ?_
  rintro⟨C,D⟩ q h
  replace h:=ap Word.pv h;obtain⟨E,s,h⟩:=h
  refine rg hS [0,2,3] (di1 (an (cb q) s)) ?_
  exact nx h
 refine exit (seq ?_)
 refine R [2,3,16] ?_
 refine ik h (λh=>?_) λh=>?_
 ·obtain⟨F,g,h⟩:=oc h λ_=>Q0l
  try simp only[NRM,Int.reduceToNat]at g
  refine seq (rg hS [2] (di1 (an g.1 (an g.2.1 g.2.2))) ?_)
  exact Rf h
 exact Rt h [2]
theorem Y2e(c:AllG env []):Q0c env S32:=by
 refine hd c Y4w 11 ?_
 rintro O X hS hX hpf hk (a:Redir) (r:Bool) (h:F32 a=some r)
 refine gs ?_
 rw[F32]at h
 refine R [1] ?_
 refine seq (reg hS [(2,ab (!decide (a.kind_=5)&&!decide (a.kind_=6)))] [V20 a] ?_ ?_)
 ·clear h hk hS hX c
  exact dh
 exact Rf h
theorem Y2q{d:Y7}{e:Y10}(c:AllG env [S15 d,S31 e,S32]):Q0c env (S15 (F15 d e)):=by
 refine hd c V4p 55 ?_
 rintro O X hS hX hpf hk (a:(List Cmd)) (r:Int) (h:F15 d e a=some r)
 refine gs ?_
 rw[F15]at h
 refine R [0] ?_
 refine R [0,3] ?_
 refine seq (R [3,10,11,12] ?_)
 refine block (Lp h (λ(f,i4)=>⟨sl [(3,ai f),(10,vC a),(11,ai (a.length:Int)),(12,ai i4)],55,[]⟩) ?_)
 clear h
 rintro⟨f,i4⟩ s h
 rw[Z9j]at h
 try dsimp only at h
 refine AW.st (R [3,10,11,12,13] ?_)
 refine seq (iz h (λh=>?_) λh=>?_)
 ·obtain⟨b,g,h⟩:=oc h λ_=>Q0l
  refine skip (seq ?_)
  refine block (seq ?_)
  refine rg hS [3,5,10,11,12] (di1 (an g.1 g.2.1)) ?_
  refine seq ?_
  obtain⟨t,p,h⟩:=oc h (Zt hk 0 15 b.kids_)
  apply dgk mixed hS [3,5,10,11,12] (ordp hpf (by kernel_rfl))
  ·exact di1 (ca p)
  refine seq (R [3,5,10,11,12,27,28,29] ?_)
  refine block (Lp h (λ(i,j)=>⟨sl [(3,ai i),(5,.ref 0 0),(10,vC a),(11,ai (a.length:Int)),(12,ai i4),(27,vWo b.words_),(28,ai (b.words_.length:Int)),(29,ai j)],55,[V9 b]⟩) ?_)
  clear h
  rintro⟨i,j⟩ m19 h
  rw[J8h]at h
  try dsimp only at h
  refine AW.st (R [3,5,10,11,12,27,28,29,30] ?_)
  refine seq (iz h (λh=>?_) λh=>?_)
  ·obtain⟨q,k,h⟩:=oc h λ_=>Q0l
   refine skip (seq ?_)
   refine block (seq ?_)
   refine rg hS [3,5,7,10,11,12,27,28,29] (di1 (an k.1 k.2.1)) ?_
   refine Ua1 h [3,5,10,11,12,27,28,29] (Zt hk 1 31 q) λu h=>?_
   refine G [3,5,10,11,12,27,28,29] ?_
   exact nx h
  refine exit (R [3,10,11,12,39,40,41] ?_)
  refine block (Lp h (λ(l,m)=>⟨sl [(3,ai l),(10,vC a),(11,ai (a.length:Int)),(12,ai i4),(39,vRe b.redirs_),(40,ai (b.redirs_.length:Int)),(41,ai m)],55,[V9 b]⟩) ?_)
  clear h
  rintro⟨l,m⟩ w h
  rw[J3t]at h
  try dsimp only at h
  refine AW.st (R [3,10,11,12,39,40,41,42] ?_)
  refine seq (iz h (λh=>?_) λh=>?_)
  ·obtain⟨n,o,h⟩:=oc h λ_=>Q0l
   refine skip (seq ?_)
   refine block (seq ?_)
   refine rg hS [3,9,10,11,12,39,40,41] (di1 (an o.1 o.2.1)) ?_
   refine seq (Ua1 h [3,9,10,11,12,39,40,41,46] (Zt hk 2 32 n) λx h=>?_)
   refine ik h (λh=>?_) λh=>?_
   ·refine Ua1 h [3,10,11,12,39,40,41] (Zt hk 1 31 n.word_) λy h=>?_
    refine G [3,10,11,12,39,40,41] ?_
    exact nx h
   refine G [3,10,11,12,39,40,41] ?_
   exact nx h
  refine exit (G [3,10,11,12] ?_)
  exact nx h
 exact exit (Rt h [2])
theorem Y2f{a:Y7}{b:Y10}(c:AllG env [S15 a,S31 b]):Q0c env (S31 (F31 a b)):=by
 refine hd c V1v 23 ?_
 rintro O X hS hX hpf hk (w1:Word) (r:Int) (h:F31 a b w1=some r)
 refine gs ?_
 rw[F31]at h
 refine R [1] ?_
 refine seq (Ua1 h [1,3] (Zt hk 0 15 w1.cmd_) λi h=>?_)
 refine seq (R [3,11,12,13] ?_)
 refine block (Lp h (λ(d,e)=>⟨sl [(3,ai d),(11,vWo w1.words_),(12,ai (w1.words_.length:Int)),(13,ai e)],23,[V21 w1]⟩) ?_)
 clear h
 rintro⟨d,e⟩ j h
 rw[X5r]at h
 try dsimp only at h
 refine AW.st (R [3,11,12,13,14] ?_)
 refine seq (iz h (λh=>?_) λh=>?_)
 ·obtain⟨g,f,h⟩:=oc h λ_=>Q0l
  refine skip (seq ?_)
  refine block (seq ?_)
  refine rg hS [3,5,11,12,13] (di1 (an f.1 f.2.1)) ?_
  refine Ua1 h [3,11,12,13] (Zt hk 1 31 g) λk h=>?_
  refine G [3,11,12,13] ?_
  exact nx h
 exact exit (Rt h [2])
theorem Y1u{b:Y11}{d:Y10}(c:AllG env [S51 b,S86 d,S32]):Q0c env (S51 (F51 b d)):=by
 refine hd c V1s 51 ?_
 rintro O X hS hX hpf hk (a:Cmd) (r:Int) (h:F51 b d a=some r)
 refine gs ?_
 rw[F51]at h
 refine R [1] ?_
 refine R [1,3] ?_
 refine seq (R [1,3,11,12,13] ?_)
 refine block (Lp h (λ(e,i4)=>⟨sl [(1,.ref 0 0),(3,ai e),(11,vC a.kids_),(12,ai (a.kids_.length:Int)),(13,ai i4)],51,[V9 a]⟩) ?_)
 clear h
 rintro⟨e,i4⟩ u h
 rw[X5m]at h
 try dsimp only at h
 refine AW.st (R [1,3,11,12,13,14] ?_)
 refine seq (iz h (λh=>?_) λh=>?_)
 ·obtain⟨o,f,h⟩:=oc h λ_=>Q0l
  refine skip (seq ?_)
  refine block (seq ?_)
  refine rg hS [1,3,5,11,12,13] (di1 (an f.1 f.2.1)) ?_
  obtain⟨w,p,h⟩:=oc h (Zt hk 0 51 o)
  refine rg hS [1,3,11,12,13] (di1 (ca p)) ?_
  refine G [1,3,11,12,13] ?_
  exact nx h
 refine exit (seq ?_)
 refine R [1,3,23,24,25] ?_
 refine block (Lp h (λ(g,i)=>⟨sl [(1,.ref 0 0),(3,ai g),(23,vWo a.words_),(24,ai (a.words_.length:Int)),(25,ai i)],51,[V9 a]⟩) ?_)
 clear h
 rintro⟨g,i⟩ m19 h
 rw[J8b]at h
 try dsimp only at h
 refine AW.st (R [1,3,23,24,25,26] ?_)
 refine seq (iz h (λh=>?_) λh=>?_)
 ·obtain⟨q,j,h⟩:=oc h λ_=>Q0l
  refine skip (seq ?_)
  refine block (seq ?_)
  refine rg hS [1,3,7,23,24,25] (di1 (an j.1 j.2.1)) ?_
  obtain⟨x,s,h⟩:=oc h (Zt hk 1 86 q)
  refine rg hS [1,3,23,24,25] (di1 (ca s)) ?_
  refine G [1,3,23,24,25] ?_
  exact nx h
 refine exit (seq ?_)
 refine R [3,35,36,37] ?_
 refine block (Lp h (λ(k,l)=>⟨sl [(3,ai k),(35,vRe a.redirs_),(36,ai (a.redirs_.length:Int)),(37,ai l)],51,[V9 a]⟩) ?_)
 clear h
 rintro⟨k,l⟩ y h
 rw[J3o]at h
 try dsimp only at h
 refine AW.st (R [3,35,36,37,38] ?_)
 refine seq (iz h (λh=>?_) λh=>?_)
 ·obtain⟨m,n,h⟩:=oc h λ_=>Q0l
  refine skip (seq ?_)
  refine block (seq ?_)
  refine rg hS [3,9,35,36,37] (di1 (an n.1 n.2.1)) ?_
  refine seq (Ua1 h [3,9,35,36,37,42] (Zt hk 2 32 m) λz h=>?_)
  refine ik h (λh=>?_) λh=>?_
  ·obtain⟨A,t,h⟩:=oc h (Zt hk 1 86 m.word_)
   refine rg hS [3,35,36,37] (di1 (ca t)) ?_
   refine G [3,35,36,37] ?_
   exact nx h
  refine G [3,35,36,37] ?_
  exact nx h
 exact exit (Rt h [2])
theorem Y0x{a:Y11}{b:Y10}(c:AllG env [S86 b,S51 a]):Q0c env (S86 (F86 a b)):=by
 refine hd c V1o 34 ?_
 rintro O X hS hX hpf hk (w1:Word) (r:Int) (h:F86 a b w1=some r)
 refine gs ?_
 rw[F86]at h
 refine R [1] ?_
 refine R [1,3] ?_
 refine seq (R [1,3,9,10,11] ?_)
 refine block (Lp h (λ(d,i4)=>⟨sl [(1,.ref 0 0),(3,ai d),(9,vWo w1.words_),(10,ai (w1.words_.length:Int)),(11,ai i4)],34,[V21 w1]⟩) ?_)
 clear h
 rintro⟨d,i4⟩ n h
 rw[X5h]at h
 try dsimp only at h
 refine AW.st (R [1,3,9,10,11,12] ?_)
 refine seq (iz h (λh=>?_) λh=>?_)
 ·obtain⟨j,e,h⟩:=oc h λ_=>Q0l
  refine skip (seq ?_)
  refine block (seq ?_)
  refine rg hS [1,3,5,9,10,11] (di1 (an e.1 e.2.1)) ?_
  obtain⟨o,k,h⟩:=oc h (Zt hk 0 86 j)
  refine rg hS [1,3,9,10,11] (di1 (ca k)) ?_
  refine G [1,3,9,10,11] ?_
  exact nx h
 refine exit (seq ?_)
 refine R [3,21,22,23] ?_
 refine block (Lp h (λ(f,g)=>⟨sl [(3,ai f),(21,vC w1.cmd_),(22,ai (w1.cmd_.length:Int)),(23,ai g)],34,[V21 w1]⟩) ?_)
 clear h
 rintro⟨f,g⟩ m19 h
 rw[J7y]at h
 try dsimp only at h
 refine AW.st (R [3,21,22,23,24] ?_)
 refine seq (iz h (λh=>?_) λh=>?_)
 ·obtain⟨l,i,h⟩:=oc h λ_=>Q0l
  refine skip (seq ?_)
  refine block (seq ?_)
  refine rg hS [3,7,21,22,23] (di1 (an i.1 i.2.1)) ?_
  obtain⟨p,m,h⟩:=oc h (Zt hk 1 51 l)
  refine rg hS [3,21,22,23] (di1 (ca m)) ?_
  refine G [3,21,22,23] ?_
  exact nx h
 exact exit (Rt h [2])
theorem Y1v(c:AllG env [S51 (K51 BIG)]):Q0c env S50:=by
 refine hd c Y4j 6 ?_
 rintro O X hS hX hpf hk (b:Cmd) (r:Bool) (h:F50 b=some r)
 refine gs ?_
 rw[F50]at h
 refine R [1] ?_
 obtain⟨e,d,h⟩:=obs h
 have a:=hk 0 51 rfl
 replace a:=a.ret b d rfl rfl
 refine seq (rg hS [2] (di1 (ap1 51 hpf a)) ?_)
 exact Rf h
theorem Y0y(c:AllG env [S50]):Q0c env S85:=by
 refine hd c V1p 19 ?_
 rintro O X hS hX hpf hk (a:(List Cmd)) (r:Int) (h:F85 a=some r)
 refine gs ?_
 rw[F85]at h
 refine R [0,1] ?_
 refine seq (R [0,1,7,8] ?_)
 refine block (Lp h (λi3=>⟨sl [(0,vC a),(1,.fn 50 []),(7,ai (a.length:Int)),(8,ai i3)],19,[]⟩) ?_)
 clear h
 rintro i3 f h
 rw[X5i]at h
 try dsimp only at h
 refine AW.st (R [0,1,7,8,9] ?_)
 refine seq (iz h (λh=>?_) λh=>?_)
 ·refine skip (seq ?_)
  refine block (R [0,1,5,7,8] ?_)
  obtain⟨d,b,h⟩:=oc h λ_=>Q0l
  obtain⟨g,e,h⟩:=oc h (Zt hk 0 50 d)
  refine seq (rg hS [0,1,5,7,8,16] (di1 (an b.1 (an b.2.1 (ca e)))) ?_)
  refine ik h (λh=>?_) λh=>?_
  ·exact Rt h [4]
  refine G [0,1,7,8] ?_
  exact nx h
 exact exit (Rt h [4])
end Go.Abs.U48
