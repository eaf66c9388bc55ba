import Derived.Test.YtljahlbklgnfhaaGreatDoorD1
set_option linter.unusedVariables false
set_option linter.unusedSimpArgs false
set_option maxRecDepth 8000
set_option maxHeartbeats 4000000
namespace Go.Abs.U48
open Go.RowKit Go.Proofs AW
open Go.Proofs.Tryz
theorem V8b{a:Y0}(c:AllG env [S84,S256,S127,S253 a]):Q0c env (S229 a):=by
 refine hd c (fnq func229) 33 λO X hS hX hpf hk ⟨b,d,e,f⟩=>λr (h:F229 a b d e f=some r)=>gs ?_
 rw[F229]at h
 refine R [0,2] ?_
 refine seq (Ua1 h [0,2,3] (Z5 hk 0 rfl) λg h=>?_)
 refine R [0,2,3] ?_
 refine seq (Xa2 h [0,2,3] (Z4 hk 1 rfl) 1 λi j h=>?_)
 refine seq (seq ?_)
 refine Ua1 h [0,2,3,20] (Z5 hk 2 rfl) λl h=>?_
 refine ik h (λh=>?_) λh=>?_
 ·exact Rt h [2]
 refine seq (Xa2 h [2,3] (Z4 hk 3 rfl) 1 λm n h=>?_)
 refine seq (R [2,3,28] ?_)
 refine ik h (λh=>?_) λh=>?_
 ·refine rg hS [2,3] di ?_
  exact Rt h [2]
 exact Rt h [2]
theorem V8a{j:Y1}(c:AllG env [S84,S252 j,S129]):Q0c env (S230 j):=by
 refine hd c (fnq func230) 30 λO X hS hX hpf hk ⟨a,b,d,y⟩=>λr (h:F230 j a b d y=some r)=>?_
 have u:O.pf 252=false:=pft hpf 252 rfl
 refine gs ?_
 rw[F230]at h
 refine R [0,2] ?_
 refine seq (Ua1 h [0,2,3] (Z5 hk 0 rfl) λe h=>?_)
 refine R [0,2,3] ?_
 refine seq (xb h (Z4 hk 1 rfl) 1 ?_)
 rintro⟨f,o⟩ z h
 refine rg hS [0,2,3] (di1 (cb z)) ?_
 refine seq (block ?_)
 refine Lq r (Q9q a b d j e) (λ(l,g)=>⟨sl [(0,.ref 0 0),(2,.ref 1 0),(3,.ref 2 0)],30,[V10 a b d l,V11 0 0 [],V18 16 e.at_ [] g.length,rWo g]⟩) ?_ ?_
 ·obtain⟨A,C,h⟩:=oc h (Z5 hk 0 rfl)
  obtain⟨D,E,h⟩:=oc h (Zt hk 2 129 A)
  refine seq (seq ?_)
  refine rg hS [0,2,3,21] (di1 (an (cb C) (ca E))) ?_
  refine iz h (λh=>?_) λh=>?_
  ·refine skip (block ?_)
   rcases Q1g h with⟨W,p,rfl⟩|⟨⟨m,n⟩,p,h⟩
   ·have F:=(hk 1 252 rfl).boom (a,b,d,o) p rfl rfl
    have H:=Q6g F rfl rfl
    exact dS 22 7 3 [0,1,2] [.ref 2 3,.full [V14 f],.ref 0 0,.any,.any,.any,.any,.any] [.gone,V11 0 0 [],.var [ai 16,ai e.at_,as_ [],.full [V14 f],.nils,.nils]] trivial H
   dsimp only at h
   have I:=(hk 1 252 rfl).ret (a,b,d,o) p rfl rfl
   have J:=Q9d I rfl rfl rfl rfl
   replace h:=ap Word.pv h;obtain⟨i,K,h⟩:=h
   refine dregV mixed hS [3,5,7] [(0,0),(0,1),(1,0),(1,1),(2,0),(3,0),(4,1),(5,1),(6,2),(7,2)] [.ref 2 3,.full [V14 f],.ref 0 0,.pv (V14 m),.full [V14 m],.vec 3 (List.length i),.ref 2 3,.any] [[V10 a b d o,V11 0 0 [],.var [ai 16,ai e.at_,as_ [],.full [V14 f],.nils,.nils]],[V10 a b d n,V11 0 0 [],.var [ai 16,ai e.at_,as_ [],.full [V14 f],.nils,.nils]],[V10 a b d n,V11 0 0 [],.var [ai 16,ai e.at_,as_ [],.full [V14 f],.nils,.nils],rWo i],[V10 a b d n,V11 0 0 [],V18 16 e.at_ [] i.length,rWo i]] [(22,.ref 2 3),(23,.full [V14 f]),(24,.ref 0 0),(25,.pv (V14 m)),(26,.full [V14 m]),(27,.vec 3 (List.length i)),(28,.ref 2 3),(0,.ref 0 0),(2,.ref 1 0),(3,.ref 2 0),(21,ab D)] (by kernel_rfl) (by kernel_rfl) (by kernel_rfl) ?_ [(0,.ref 0 0),(2,.ref 1 0),(3,.ref 2 0)] [V10 a b d n,V11 0 0 [],V18 16 e.at_ [] i.length,rWo i] ⟨rfl,rfl,rfl,trivial⟩ rfl ?_
   ·repeat'(first|exact Q5f.nil|refine Q5f.cons rfl rfl rfl ?_ ?_)
    all_goals exact dv1 (an u (an J K))
   exact ny h
  exact exit (Rt h [2])
 clear h
 rintro⟨l,g⟩ Y h
 unfold Q9q at h
 try dsimp only at h
 obtain⟨L,M,h⟩:=oc h (Z5 hk 0 rfl)
 obtain⟨aa,N,h⟩:=oc h (Zt hk 2 129 L)
 refine AW.st (seq ?_)
 refine seq (rg hS [0,2,3,21] (di1 (an (cb M) (ca N))) ?_)
 refine iz h (λh=>?_) λh=>?_
 ·refine skip (block ?_)
  rcases Q1g h with⟨ac,q,rfl⟩|⟨⟨x,P⟩,q,h⟩
  ·have Q:=(hk 1 252 rfl).boom (a,b,d,l) q rfl rfl
   have S:=Q6g Q rfl rfl
   exact dS 22 7 3 [0,1,2] [.ref 2 3,.vec 3 (List.length g),.ref 0 0,.any,.any,.any,.any,.any] [.gone,V11 0 0 [],V18 16 e.at_ [] g.length,rWo g] trivial S
  dsimp only at h
  have T:=(hk 1 252 rfl).ret (a,b,d,l) q rfl rfl
  have U:=Q9d T rfl rfl rfl rfl
  replace h:=ap Word.pv h;obtain⟨t,V,h⟩:=h
  refine dV 22 7 [3,5,7] [(0,0),(0,1),(1,0),(1,1),(2,0),(3,0),(4,1),(5,1),(6,2),(7,2)] [.ref 2 3,.vec 3 (List.length g),.ref 0 0,.pv (V14 x),.full [V14 x],.vec 3 (List.length t),.ref 2 3,.any] [[(0,V10 a b d P)],[(3,rWo t)],[(2,V18 16 e.at_ [] t.length)]] [0,2,3] (an u (an U V)) ?_
  exact nx h
 exact exit (Rt h [2])
theorem V7z{l:Y1}(c:AllG env [S84,S83,S48,S129,S252 l,S130,S254 l]):Q0c env (S231 l):=by
 refine hd c (fnq func231) 60 λO X hS hX hpf hk ⟨d,e,f,y⟩=>λr (h:F231 l d e f y=some r)=>?_
 have z:O.pf 252=false:=pft hpf 252 rfl
 have A:O.pf 254=false:=pft hpf 254 rfl
 refine gs ?_
 rw[F231]at h
 refine R [0,2] ?_
 obtain⟨i,C,h⟩:=oc h (Z5 hk 0 rfl)
 refine seq (AW.after ?_)
 refine rg hS [0,2,3] (di1 (cb C)) ?_
 refine o2 (oC Word.pv 2 3 49 5 ?_)
 refine oC Redir.pv 2 4 51 9 ?_
 refine block (Lp h (λ(g,a,b)=>⟨sl [(0,.ref 0 0),(2,.ref 1 0),(3,.ref 2 0)],60,[V10 d e f g,V11 0 0 [],V20 1 i.at_ [] a.length b.length,rWo a,rRe b]⟩) ?_)
 clear h
 rintro⟨g,a,b⟩ T h
 rw[Q4x]at h
 try dsimp only at h
 refine AW.st (block ?_)
 refine seq (Ua1 h [0,2,3,4] (Z5 hk 0 rfl) λj h=>?_)
 obtain⟨m,n,h⟩:=obs h
 replace n:=Q0d n
 have D:=λE=>(hk 1 83 rfl).ret j (n E) rfl rfl
 refine block (seq ?_)
 refine reg hS [(0,.ref 0 0),(2,.ref 1 0),(3,.ref 2 0),(4,.ref 5 0),(12,ab ((((decide ((a.length:Int)=0)&&decide (0<(b.length:Int)))&&!decide (m=[]))&&!decide (m=[110,111,116]))&&!decide (m=[105,110])))] [V10 d e f g,V11 0 0 [],V20 1 i.at_ [] a.length b.length,rWo a,rRe b,V7 j] ?_ ?_
 ·clear h hk hS hX c
  exact dh1 (ap1 83 hpf D)
 refine iz h (λh=>?_) λh=>?_
 ·refine Xa1 h [0,2,3] (Z4 hk 2 rfl) 1 λ_ h=>?_
  exact nx h
 refine seq (Ua1 h [0,2,3,4,40] (Zt hk 3 129 j) λU h=>?_)
 refine iz h (λh=>?_) λh=>?_
 ·rcases Q1g h with⟨V,o,rfl⟩|⟨⟨u,F⟩,o,h⟩
  ·have H:=(hk 4 252 rfl).boom (d,e,f,g) o rfl rfl
   have I:=Q6g H rfl rfl
   exact dS 43 7 3 [0,1,2] [.ref 2 3,.vec 3 (List.length a),.ref 0 0,.any,.any,.any,.any,.any] [.gone,V11 0 0 [],V20 1 i.at_ [] a.length b.length,rWo a,rRe b,V7 j] trivial I
  dsimp only at h
  have J:=(hk 4 252 rfl).ret (d,e,f,g) o rfl rfl
  have K:=Q9d J rfl rfl rfl rfl
  replace h:=ap Word.pv h;obtain⟨p,f45,h⟩:=h
  refine dV 43 7 [3,5,7] [(0,0),(0,1),(1,0),(1,1),(2,0),(3,0),(4,1),(5,1),(6,2),(7,2)] [.ref 2 3,.vec 3 (List.length a),.ref 0 0,.pv (V14 u),.full [V14 u],.vec 3 (List.length p),.ref 2 3,.any] [[(0,V10 d e f F)],[(3,rWo p)],[(2,V20 1 i.at_ [] p.length b.length)]] [0,2,3] (an z (an K f45)) ?_
  exact nx h
 refine seq (Ua1 h [0,2,3,50] (Zt hk 5 130 j) λW h=>?_)
 refine iz h (λh=>?_) λh=>?_
 ·rcases Q1g h with⟨Y,q,rfl⟩|⟨⟨x,L⟩,q,h⟩
  ·have M:=(hk 6 254 rfl).boom (d,e,f,g) q rfl rfl
   have N:=Q6g M rfl rfl
   exact dS 53 7 3 [0,1,2] [.ref 2 4,.vec 4 (List.length b),.ref 0 0,.any,.any,.any,.any,.any] [.gone,V11 0 0 [],V20 1 i.at_ [] a.length b.length,rWo a,rRe b,V7 j] trivial N
  dsimp only at h
  have P:=(hk 6 254 rfl).ret (d,e,f,g) q rfl rfl
  have Q:=Q9d P rfl rfl rfl rfl
  replace h:=ap Redir.pv h;obtain⟨t,S,h⟩:=h
  refine dV 53 7 [3,5,7] [(0,0),(0,1),(1,0),(1,1),(2,0),(3,0),(4,1),(5,1),(6,2),(7,2)] [.ref 2 4,.vec 4 (List.length b),.ref 0 0,.pv (V19 x),.full [V19 x],.vec 4 (List.length t),.ref 2 4,.any] [[(0,V10 d e f L)],[(4,rRe t)],[(2,V20 1 i.at_ [] a.length t.length)]] [0,2,3] (an A (an Q S)) ?_
  exact nx h
 exact Rt h [2]
theorem V8q{a:Y0}{b:Y1}(c:AllG env [S84,S133,S144,S128,S223 a b,S224 a,S225 a b,S83,S226 a,S227 a b,S228 a b,S229 a,S230 b,S48,S81,S231 b]):Q0c env (S200 (F200 a b)):=by
 refine hd c (fnq func200) 97 λO X hS hX hpf hk ⟨e,f,g,i,o⟩=>λr (h:F200 a b e f g i o=some r)=>?_
 have t:O.pf 144=true:=pft hpf 144 rfl
 refine gs ?_
 rw[F200]at h
 refine R [0,1,4] ?_
 obtain⟨d,u,h⟩:=oc h (Z5 hk 0 rfl)
 obtain⟨j,y,h⟩:=oc h (Z5 hk 0 rfl)
 refine seq (rg hS [0,1,4,5,6] (di1 (an (cb u) (cb y))) ?_)
 obtain⟨z,A,h⟩:=oc h (Zt hk 1 133 d)
 obtain⟨C,l,h⟩:=obs h
 replace l:=Q0d l
 have D:=λm=>(hk 2 144 rfl).ret d.text_ (l m) rfl rfl
 obtain⟨E,n,h⟩:=obs h
 replace n:=Q0d n
 have p:=λm=>(hk 3 128 rfl).ret (j,([61]:Str)) (n m) rfl rfl
 try simp only[PVE]at p
 refine seq (block ?_)
 refine seq (reg hS [(0,.ref 0 0),(1,ab e),(4,.ref 1 0),(5,.ref 2 0),(6,.ref 3 0),(11,ab ((z&&C)&&E))] [V10 f g i o,V11 0 0 [],V7 d,V7 j] ?_ ?_)
 ·clear h hk hS hX c
  exact dh1 (an (ca A) (an t (an D (ap1 128 hpf p))))
 refine iz h (λh=>?_) λh=>?_
 ·refine seq (Xa2 h [4] (Z5 hk 4 rfl) 2 λF H h=>?_)
  exact Rf h
 refine seq (Ua1 h [0,1,4,5,6,26] (Zt2 hk 3 rfl) λI h=>?_)
 refine iz h (λh=>?_) λh=>?_
 ·refine seq (Xa2 h [4] (Z7 hk 5 rfl) 2 λJ K h=>?_)
  exact Rf h
 refine seq (Ua1 h [0,1,4,5,6,32] (Zt2 hk 3 rfl) λL h=>?_)
 refine iz h (λh=>?_) λh=>?_
 ·refine seq (Xa2 h [4] (Z7 hk 5 rfl) 2 λM N h=>?_)
  exact Rf h
 refine seq (Ua1 h [0,1,4,5,6,38] (Zt2 hk 3 rfl) λP h=>?_)
 refine ik h (λh=>?_) λh=>?_
 ·refine seq (Xa2 h [4] (Z4 hk 6 rfl) 1 λQ S h=>?_)
  exact Rf h
 refine seqJ (α:=Int) (λq=>⟨sl [(0,.ref 0 0),(1,ab e),(4,.ref 1 0)],97,[V10 f g i q,V11 0 0 [],V7 d,V7 j]⟩) (λx=>Q9s e f g i b x=some r) ?_ ?_
 ·intro q h
  rw[Q9s]at h
  try dsimp only at h
  refine AW.st (seq ?_)
  refine seq (Ua1 h [0,4,92] (Z5 hk 14 rfl) λT h=>?_)
  refine ik h (λh=>?_) λh=>?_
  ·refine Xa1 h [0,4] (Z4 hk 13 rfl) 1 λ_ h=>?_
   refine seq (Xa2 h [4] (Z4 hk 15 rfl) 1 λU V h=>?_)
   exact Rf h
  refine seq (Xa2 h [4] (Z4 hk 15 rfl) 1 λW Y h=>?_)
  exact Rf h
 refine seq (Ua1 h [0,1,4,6,44] (Zt hk 7 83 d) λaa h=>?_)
 refine block (R [0,1,4,6,44,45] ?_)
 refine iz h (λh=>?_) λh=>?_
 ·refine seq (seq ?_)
  refine Ua1 h [0,1,4,49] (Zt hk 7 83 j) λac h=>?_
  refine ik h (λh=>?_) λh=>?_
  ·refine seq (Xa2 h [4] (Z7 hk 5 rfl) 2 λad ae h=>?_)
   exact Rf h
  refine seq (Xa2 h [4] (Z6 hk 8 rfl) 2 λaf ag h=>?_)
  exact Rf h
 refine R [0,1,4,44,56] ?_
 refine iz h (λh=>?_) λh=>?_
 ·refine seq (Xa2 h [4] (Z6 hk 8 rfl) 2 λah ak h=>?_)
  exact Rf h
 refine R [0,1,4,44,61] ?_
 refine iz h (λh=>?_) λh=>?_
 ·refine seq (Xa2 h [4] (Z5 hk 9 rfl) 2 λal am h=>?_)
  exact Rf h
 refine R [0,1,4,44,66] ?_
 refine iz h (λh=>?_) λh=>?_
 ·refine seq (Xa2 h [4] (Z4 hk 10 rfl) 1 λao aq h=>?_)
  exact Rf h
 refine R [0,1,4,44,70] ?_
 refine iz h (λh=>?_) λh=>?_
 ·refine seq (Xa2 h [4] (Z4 hk 11 rfl) 1 λar au h=>?_)
  exact Rf h
 refine R [0,1,4,44,74] ?_
 refine iz h (λh=>?_) λh=>?_
 ·refine seq (Xa2 h [4] (Z4 hk 12 rfl) 1 λav aw h=>?_)
  exact Rf h
 refine R [0,1,4,78] ?_
 refine ik h (λh=>?_) λh=>?_
 ·refine R [0,1,4] ?_
  refine Xa1 h [0,1,4] (Z4 hk 13 rfl) 1 λ_ h=>?_
  exact jn h
 exact jn h
theorem V6z{g:Y1}(c:AllG env [S84,S256,S127,S257 g,S48,S255]):Q0c env (S286 g):=by
 refine hd c (fnq func286) 46 λO X hS hX hpf hk ⟨i,j,l,q⟩=>λr (h:F286 g i j l q=some r)=>gs ?_
 rw[F286]at h
 refine R [0,2] ?_
 refine seq (Ua1 h [0,2,3] (Z5 hk 0 rfl) λa h=>?_)
 refine seq (Xa2 h [0,2,3,4] (Z4 hk 1 rfl) 1 λn u h=>?_)
 obtain⟨e,d,h⟩:=oc h (Z5 hk 2 rfl)
 replace d:=cb d
 try simp only[PVE]at d
 refine seq (seq ?_)
 rcases bs h with⟨m,h⟩|⟨m,h⟩
 ·refine dV 10 15 [1,5,6] [(0,0),(1,0),(2,1),(3,1),(4,1),(5,1),(6,2),(7,1),(7,2),(7,3),(8,1),(8,2),(8,3),(9,1),(9,2),(9,3),(10,1),(10,2),(10,3),(11,1),(11,2),(11,3),(12,1),(12,2),(12,3),(13,3),(14,3)] [.ref 0 0,ab e,ab (!e),ab true,.tup [],.tup [],.tup [],.tup [],.tup [],.tup [],.tup [],.tup [],.tup [],.tup [],ab true] [[],[],[]] [0,2,4,24] (an d m) ?_
  refine cond (b:=true) rfl (λ_=>?_) (λhb=>absurd hb (by decide))
  exact Rt h [2]
 obtain⟨f,t,h⟩:=oc h (Z5 hk 0 rfl)
 refine dV 10 15 [1,5,6] [(0,0),(1,0),(2,1),(3,1),(4,1),(5,1),(6,2),(7,1),(7,2),(7,3),(8,1),(8,2),(8,3),(9,1),(9,2),(9,3),(10,1),(10,2),(10,3),(11,1),(11,2),(11,3),(12,1),(12,2),(12,3),(13,3),(14,3)] [.ref 0 0,ab e,ab (!e),ab false,.ref 0 0,.pv (V9 f),ai f.at_,.ref 2 1,ai a.at_,.ref 2 2,as_ a.text_,ai (a.text_.length:Int),ai (IntKind.wrap .i64 (a.at_+(a.text_.length:Int))),ab (!decide (f.at_=IntKind.wrap .i64 (a.at_+(a.text_.length:Int)))),ab (!decide (f.at_=IntKind.wrap .i64 (a.at_+(a.text_.length:Int))))] [[],[],[]] [0,2,4,24] (an d (an m (cb t))) ?_
 refine ik h (λh=>?_) λh=>?_
 ·exact Rt h [2]
 refine R [0,2,4] ?_
 refine R [0,2,4] ?_
 refine seq (Xa2 h [0,2,4] (Z4 hk 3 rfl) 1 λo p h=>?_)
 refine seqJ (α:=Unit) (λ_=>⟨sl [(0,.ref 0 0),(2,.ref 1 0),(4,.ref 3 0)],46,[V10 i j l p,V21 0 [] [],V7 a,V4 7 n [] o []]⟩) (λx=>Z9r i j l p n o x=some r) ?_ ?_
 ·intro _ h
  rw[Z9r]at h
  try dsimp only at h
  refine AW.st (seq ?_)
  refine Xa2 h [2,4] (Z5 hk 5 rfl) 1 λy z h=>?_
  exact Rt h [2]
 refine R [0,2,4,40] ?_
 refine ik h (λh=>?_) λh=>?_
 ·refine Xa1 h [0,2,4] (Z4 hk 4 rfl) 1 λ_ h=>?_
  exact jn h
 exact jn h
theorem V7e{b:Y0}{a:Y1}(c:AllG env [S84,S129,S48,S286 a,S256,S257 a,S255,S253 b]):Q0c env (S274 b a):=by
 refine hd c (fnq func274) 54 λO X hS hX hpf hk ⟨d,e,f,g⟩=>λr (h:F274 b a d e f g=some r)=>gs ?_
 rw[F274]at h
 refine R [0,2] ?_
 refine seq (Ua1 h [0,2,3] (Z5 hk 0 rfl) λi h=>?_)
 refine seqJ (α:=Unit) (λ_=>⟨sl [(0,.ref 0 0),(2,.ref 1 0),(3,.ref 2 0)],54,[V10 d e f g,V21 0 [] [],V7 i]⟩) (λx=>Z4m i g a d e f b x=some r) ?_ ?_
 ·intro _ h
  rw[Z4m]at h
  try dsimp only at h
  refine AW.st (R [0,2,3] ?_)
  refine seq (block ?_)
  refine R [0,2,3,19] ?_
  refine iz h (λh=>?_) λh=>?_
  ·exact Rt h [2]
  refine R [0,2,3,28] ?_
  refine iz h (λh=>?_) λh=>?_
  ·refine seq (Xa2 h [2] (Z4 hk 3 rfl) 1 λj l h=>?_)
   exact Rf h
  refine R [0,2,3,34] ?_
  refine iz h (λh=>?_) λh=>?_
  ·refine seq (Xa2 h [2] (Z4 hk 4 rfl) 1 λm n h=>?_)
   exact Rf h
  refine R [0,2,41] ?_
  refine ik h (λh=>?_) λh=>?_
  ·refine seq (Xa2 h [0,2,4] (Z4 hk 5 rfl) 1 λo p h=>?_)
   refine seq (Xa2 h [2,4] (Z5 hk 6 rfl) 1 λq t h=>?_)
   exact Rt h [2]
  refine seq (Xa2 h [2] (Z4 hk 7 rfl) 1 λu y h=>?_)
  exact Rf h
 refine seq (Ua1 h [0,2,3,9] (Zt hk 1 129 i) λz h=>?_)
 refine ik h (λh=>?_) λh=>?_
 ·refine Xa1 h [0,2,3] (Z4 hk 2 rfl) 1 λ_ h=>?_
  exact jn h
 exact jn h
end Go.Abs.U48
