import Derived.Test.YtljahlbklgnfhaaGreatDoorD1
set_option linter.unusedVariables false
set_option linter.unusedSimpArgs false
set_option maxRecDepth 8000
set_option maxHeartbeats 4000000
namespace Go.Abs.U48
open Go.RowKit Go.Proofs AW
theorem Y1h(c:AllG env []):Q0c env S74:=by
 refine hd c Y3t 18 λO X hS hX hpf hk ⟨d,b⟩=>λr (h:F74 d b=some r)=>gs ?_
 rw[F74]at h
 refine R [0,1] ?_
 obtain⟨t4,a,h⟩:=oc h λ_ q=>Z9v (Q0d q)
 try simp only[NRM,Int.reduceToNat]at a
 have e:=a.2.2.2.2
 try simp only[NRM,Int.reduceToNat]at e
 have f:=a.2.2.1
 try simp only[NRM,Int.reduceToNat]at f
 refine seq (reg hS [(4,ab (decide ((b.length:Int)<=(d.length:Int))&&decide (t4=b)))] [] ?_ ?_)
 ·clear h hk hS hX c
  exact dh1 (an a.1 (an a.2.1 (an f (an a.2.2.2.1 e))))
 exact Rf h
theorem Y2a(c:AllG env [S74]):Q0c env S42:=by
 refine hd c Y4p 8 λO X hS hX hpf hk ⟨a,b⟩=>λr (h:F42 a b=some r)=>gs ?_
 rw[F42]at h
 refine R [0,1] ?_
 refine seq (Ua1 h [4] (Zt2 hk 0 rfl) λd h=>?_)
 exact Rf h
theorem V0w(c:AllG env [J7s]):Q0c env S117:=by
 refine hd c V5p 40 λO X hS hX hpf hk ⟨a,k⟩=>λr (h:F117 a k=some r)=>gs ?_
 rw[F117]at h
 refine R [0,1] ?_
 refine seq (rg hS [0,1,6] di ?_)
 refine weak (Weak.own 6 9 1 (by decide) rfl) ?_
 refine weak (Weak.slots (L:=[(0,as_ a),(1,ai k),(6,.vec 0 (List.length ([]:List Str)))]) ⟨rfl,rfl,rfl,trivial⟩) ?_
 refine seq (rg hS [0,1,6,7] di ?_)
 refine weak (Weak.own 7 3 1 (by decide) rfl) ?_
 refine weak (Weak.slots (L:=[(0,as_ a),(1,ai k),(6,.vec 0 (List.length ([]:List Str))),(7,.vec 1 (List.length ([]:List Int)))]) ⟨rfl,rfl,rfl,rfl,trivial⟩) ?_
 refine seq (block ?_)
 refine Lp h (λ(g,d,e)=>⟨sl [(0,as_ a),(1,ai g),(6,.vec 0 (List.length d)),(7,.vec 1 (List.length e))],40,[rSt d,.row 3 1 (List.map (PV.int .i64) e) true]⟩) ?_
 clear h
 rintro⟨g,d,e⟩ s h
 rw[Q6n]at h
 try dsimp only at h
 refine AW.st (seq ?_)
 refine R [0,1,6,7,14] ?_
 refine iz h (λh=>?_) λh=>?_
 ·obtain⟨t,i,h⟩:=oc h λ_=>Q0r
  try simp only[NRM,Int.reduceToNat]at i
  have n:=i.2.2.2.2
  try simp only[NRM,Int.reduceToNat]at n
  have o:=i.2.2.1
  try simp only[NRM,Int.reduceToNat]at o
  obtain⟨⟨f,u,p⟩,j,h⟩:=oc h (Zt2 hk 0 rfl)
  replace j:=ca j
  try simp only[PVE]at j
  refine skip (block ?_)
  refine seq (rg hS [0,1,6,7,8,10] (di1 (an i.1 (an i.2.1 (an o (an i.2.2.2.1 (an n j)))))) ?_)
  refine R [0,1,6,7,8,10] ?_
  refine seqM ⟨sl [(0,as_ a),(1,ai (bif p then IntKind.wrap .i64 ((IntKind.wrap .i64 (g+(f.length:Int)))+1)else IntKind.wrap .i64 (g+(f.length:Int)))),(6,.vec 0 (List.length d)),(7,.vec 1 (List.length e)),(8,as_ f)],40,[rSt d,.row 3 1 (List.map (PV.int .i64) e) true]⟩ ?_ ?_
  ·refine R [0,1,6,7,8,27] ?_
   refine cond (b:=p) rfl (λl=>?_) (λl=>?_)
   ·refine G [0,1,6,7,8] ?_
    exact Weak.of_eq (Weak.slots (L:=[(0,as_ a),(1,ai (IntKind.wrap .i64 ((IntKind.wrap .i64 (g+(f.length:Int)))+1))),(6,.vec 0 (List.length d)),(7,.vec 1 (List.length e)),(8,as_ f)]) kp) (wq l)
   exact skip (Weak.of_eq (Weak.slots (L:=[(0,as_ a),(1,ai (IntKind.wrap .i64 (g+(f.length:Int)))),(6,.vec 0 (List.length d)),(7,.vec 1 (List.length e)),(8,as_ f)]) kp) (wq l))
  replace h:=ap PV.str h;obtain⟨w,m,h⟩:=h
  replace h:=ap (PV.int .i64) h;obtain⟨x,q,h⟩:=h
  refine rg hS [0,1,6,7] (di1 (an m.1 (an m.2.1 (an m.2.2 q)))) ?_
  exact nx h
 exact exit (Rt h [4,5])
theorem V0v(c:AllG env []):Q0c env S118:=by
 refine hd c V5o 19 λO X hS hX hpf hk ⟨a,v2⟩=>λr (h:F118 a v2=some r)=>gs ?_
 rw[F118]at h
 refine R [0,1] ?_
 refine seq (R [0,1,7,8] ?_)
 refine block (Lp h (λi4=>⟨sl [(0,.pv (.slice (List.map PV.str a))),(1,as_ v2),(7,ai (a.length:Int)),(8,ai i4)],19,[]⟩) ?_)
 clear h
 rintro i4 d h
 rw[J6d]at h
 try dsimp only at h
 refine AW.st (R [0,1,7,8,9] ?_)
 refine seq (iz h (λh=>?_) λh=>?_)
 ·refine skip (seq ?_)
  refine block (R [0,1,5,7,8] ?_)
  obtain⟨e,b,h⟩:=oc h λ_=>Q0l
  refine seq (rg hS [0,1,5,7,8,16] (di1 (an b.1 b.2.1)) ?_)
  refine ik h (λh=>?_) λh=>?_
  ·exact Rt h [4]
  refine G [0,1,7,8] ?_
  exact nx h
 exact exit (Rt h [4])
theorem Y1i(c:AllG env [S117,S118,X4u]):Q0c env S72:=by
 refine hd c Y3v 44 λO X hS hX hpf hk ⟨e,b,j⟩=>λr (h:F72 e b j=some r)=>gs ?_
 rw[F72]at h
 refine R [0,1,2] ?_
 refine seq (seq ?_)
 refine reg hS [(0,as_ e),(1,ai b),(2,as_ j),(20,ab (decide (b<0)||decide ((e.length:Int)<b)))] [] ?_ ?_
 ·clear h hk hS hX c
  exact dh
 refine ik h (λh=>?_) λh=>?_
 ·exact Rt h [6,7,8]
 refine seq (Ua2 h [2,9,10] (Zt2 hk 0 rfl) λn o h=>?_)
 refine seq (Ua1 h [9,10,11] (Zt2 hk 1 rfl) λp h=>?_)
 refine seq (R [9,10,11,31] ?_)
 refine ik h (λh=>?_) λh=>?_
 ·exact Rt h [6,7,8]
 refine R [9,10,11,12] ?_
 refine seq (R [9,10,11,12,33] ?_)
 refine ik h (λh=>?_) λh=>?_
 ·obtain⟨q,k,h⟩:=obs h
  have a:=X2k k
  try simp only[NRM,Int.reduceToNat]at a
  have f:=a.2.2.1
  have g:=X7k PV.str k
  try simp only[NRM,Int.reduceToNat]at f g
  obtain⟨s,d,h⟩:=oc h (Zt2 hk 2 rfl)
  replace d:=ca d
  try simp only[PVE]at d
  obtain⟨t,i,h⟩:=oc h λ_=>Q6u
  try simp only[LNS,G1w,Nat.reduceAdd,Nat.reduceLeDiff,G2j,Nat.reduceMul]at i
  refine rg hS [10,11,12] (di1 (an a.1 (an a.2.1 (an f (an a.2.2.2 (an g (an d (an i.1 i.2)))))))) ?_
  clear a f g
  refine seq ?_
  obtain⟨u,l,h⟩:=oc h λ_=>Q0l
  apply dgk mixed hS [6,7,8] (ordp hpf (by kernel_rfl))
  ·exact di1 (an l.1 l.2.1)
  exact Rf h
 refine seq ?_
 obtain⟨w,m,h⟩:=oc h λ_=>Q0l
 apply dgk mixed hS [6,7,8] (ordp hpf (by kernel_rfl))
 ·exact di1 (an m.1 m.2.1)
 exact Rf h
theorem K3g(c:AllG env []):Q0c env J3j:=by
 refine hd c Y3u 15 λO X hS hX hpf hk ⟨a,b,d,e,f,g,i,j,k⟩=>λr (h:Z2v a b d e f g i j k=some r)=>gs ?_
 rw[Z2v]at h
 refine R [0,1,2] ?_
 refine R [] ?_
 exact Rt h [6]
theorem K3h(c:AllG env [J3j]):Q0c env X0d:=by
 refine hd c Y3w 25 λO X hS hX hpf hk ⟨b,d,e,f,g,i,k,a⟩=>λr (h:Q8b b d e f g i k a=some r)=>gs ?_
 rw[Q8b]at h
 refine R [0,3] ?_
 refine seq (R [0,3,10] ?_)
 refine ik h (λh=>?_) λh=>?_
 ·refine seq (Ua3 h [4] (Z9 hk 0 rfl) λm n o h=>?_)
  exact Rf h
 replace h:=ap Token.pv h;obtain⟨j,l,h⟩:=h
 refine seq (AW.dregB mixed hS [(3,some 3)] rfl (ordB hpf (B:=[(3,some 3)]) (by kernel_rfl)) [] [V0 d e j.length a.length f g i,rTo j,rSt a,V1 b] ?_ ?_)
 ·exact dk1 l
 exact Rt h [4]
theorem K3k(c:AllG env []):Q0c env J3k:=by
 refine hd c Y4s 12 λO X hS hX hpf hk ⟨e,f,g,i,j,k,l⟩=>λr (h:Z4l e f g i j k l=some r)=>gs ?_
 rw[Z4l]at h
 refine R [0] ?_
 refine seq ?_
 obtain⟨t9,a,h⟩:=oc h λ_=>Q0r
 try simp only[NRM,Int.reduceToNat]at a
 have b:=a.2.2.2.2
 try simp only[NRM,Int.reduceToNat]at b
 have d:=a.2.2.1
 try simp only[NRM,Int.reduceToNat]at d
 apply dgk mixed hS [2] (ordp hpf (by kernel_rfl))
 ·exact di1 (an a.1 (an a.2.1 (an d (an a.2.2.2.1 b))))
 exact Rf h
theorem K3l(c:AllG env [J3k,S42]):Q0c env X8p:=by
 refine hd c Y4t 29 λO X hS hX hpf hk ⟨e,n,f,g,i,a,b⟩=>λr (h:J5w e n f g i a b=some r)=>?_
 have o:O.pf 42=true:=pft hpf 42 rfl
 refine gs ?_
 rw[J5w]at h
 refine block (Lp h (λj=>⟨sl [(0,.ref 0 0)],29,[V0 e j a.length b.length f g i,rTo a,rSt b]⟩) ?_)
 clear h
 rintro j t h
 rw[Q3m]at h
 try dsimp only at h
 refine AW.st (block ?_)
 refine seq (Ua1 h [0,2] (Z7 hk 0 rfl) λl h=>?_)
 obtain⟨p,d,h⟩:=oc h (Zt2 hk 1 rfl)
 replace d:=ca d
 try simp only[PVE]at d
 obtain⟨q,k,h⟩:=obs h
 replace k:=Q0d k
 have m:=λs=>(hk 1 42 rfl).ret (l,([9]:Str)) (k s) rfl rfl
 try simp only[PVE]at m
 refine block (seq ?_)
 refine reg hS [(0,.ref 0 0),(2,as_ l),(5,ab (p||q))] [V0 e j a.length b.length f g i,rTo a,rSt b] ?_ ?_
 ·clear h hk hS hX c
  exact dh1 (an o (an d m))
 refine iz h (λh=>?_) λh=>?_
 ·refine G [0] ?_
  exact nx h
 refine seq (Ua1 h [0,19] (Zt2 hk 1 rfl) λu h=>?_)
 refine iz h (λh=>?_) λh=>?_
 ·refine G [0] ?_
  exact nx h
 exact Rf h
theorem K3j(c:AllG env [X0d,S72,J3j]):Q0c env K4i:=by
 refine hd c Y4q 63 λO X hS hX hpf hk ⟨d,j,e,k,l,m,a⟩=>λr (h:J5v d j e k l m a=some r)=>gs ?_
 rw[J5v]at h
 refine R [0] ?_
 refine seq (seq ?_)
 refine Ua4 h [0,15] (Z8 hk 0 rfl) λq n o f h=>?_
 refine ik h (λh=>?_) λh=>?_
 ·exact Rt h [2]
 refine R [0] ?_
 refine seq (R [0,26,27,28] ?_)
 refine block (Lp h (λ(g,i)=>⟨sl [(0,.ref 0 0),(26,.vec 2 (List.length a)),(27,ai (a.length:Int)),(28,ai g)],63,[V0 d i f.length a.length e n o,rTo f,rSt a]⟩) ?_)
 clear h
 rintro⟨g,i⟩ s h
 rw[J1i]at h
 try dsimp only at h
 refine AW.st (R [0,26,27,28,29] ?_)
 refine seq (iz h (λh=>?_) λh=>?_)
 ·obtain⟨t,b,h⟩:=oc h λ_=>Q0l
  refine skip (seq ?_)
  refine block (seq ?_)
  refine rg hS [0,4,26,27,28] (di1 (an b.1 (an b.2.1 b.2.2))) ?_
  refine seq ?_
  obtain⟨⟨u,w,x⟩,p,h⟩:=oc h (Zt3 hk 1 rfl)
  apply dgk mixed hS [0,6,7,26,27,28] (ordp hpf (by kernel_rfl))
  ·exact di1 (ca p)
  refine seq (R [0,6,7,26,27,28,47] ?_)
  refine ik h (λh=>?_) λh=>?_
  ·refine seq (Ua3 h [2] (Z9 hk 2 rfl) λy z A h=>?_)
   exact Rf h
  refine G [0,26,27,28] ?_
  refine G [0,26,27,28] ?_
  exact nx h
 refine exit (R [] ?_)
 exact Rt h [2]
theorem X7v(c:AllG env [J3k,Q0z,S42]):Q0c env X4x:=by
 refine hd c V5m 19 λO X hS hX hpf hk ⟨i,j,k,l,m,b,d⟩=>λr (h:Z9l i j k l m b d=some r)=>?_
 have s:O.pf 40=true:=pft hpf 40 rfl
 refine gs ?_
 rw[Z9l]at h
 refine R [0] ?_
 refine seq (Ua1 h [3] (Z7 hk 0 rfl) λn h=>?_)
 obtain⟨t,a,h⟩:=oc h λ_ q=>Q1x (Q0d q)
 try simp only[NRM,Int.reduceToNat]at a
 obtain⟨u,e,h⟩:=obs h
 replace e:=Q0d e
 have o:=λf=>(hk 1 40 rfl).ret (([32,9,10,59,38,124,40,41,123,125,60,62,61,94,96,36,39]:Str),t) (e f) rfl rfl
 try simp only[PVE]at o
 obtain⟨w,g,h⟩:=obs h
 replace g:=Q0d g
 have p:=λf=>(hk 2 42 rfl).ret (n,([92,10]:Str)) (g f) rfl rfl
 try simp only[PVE]at p
 refine seq (reg hS [(2,ab ((!decide (n=[])&&decide (u<0))&&!w))] [V0 i j b.length d.length k l m,rTo b,rSt d] ?_ ?_)
 ·clear h hk hS hX c
  exact dh1 (an a.1 (an a.2.1 (an a.2.2 (an s (an o (ap1 42 hpf p))))))
 exact Rf h
theorem X7u(c:AllG env [J3k,Q0z,J3j,Q6j,S42,Z6s,Q8u]):Q0c env X4w:=by
 refine hd c V5k 64 λO X hS hX hpf hk ⟨g,i,j,k,l,e,f⟩=>λr (h:Z7p g i j k l e f=some r)=>gs ?_
 rw[Z7p]at h
 refine R [0] ?_
 refine R [0,4] ?_
 refine R [0,4] ?_
 refine R [0,4,5] ?_
 refine block (Lp h (λ(m,n)=>⟨sl [(0,.ref 0 0),(4,ai i),(5,.ref 3 0)],64,[V0 g m e.length f.length j k l,rTo e,rSt f,.bld n]⟩) ?_)
 clear h
 rintro⟨m,n⟩ m17 h
 rw[Q2o]at h
 try dsimp only at h
 obtain⟨w,q,h⟩:=oc h (Z7 hk 0 rfl)
 obtain⟨x,s,h⟩:=oc h (Zt2 hk 1 rfl)
 refine AW.st (block ?_)
 refine seq (rg hS [0,4,5,6] (di1 (an (cd q) (ca s))) ?_)
 refine seq (R [0,4,5,6,22] ?_)
 refine ik h (λh=>?_) λh=>?_
 ·refine seq (Ua3 h [2,3] (Z9 hk 2 rfl) λy z A h=>?_)
  exact Rf h
 refine seq ?_
 obtain⟨C,a,h⟩:=oc h λ_=>Q0r
 try simp only[NRM,Int.reduceToNat]at a
 have o:=a.2.2.2.2
 try simp only[NRM,Int.reduceToNat]at o
 have p:=a.2.2.1
 try simp only[NRM,Int.reduceToNat]at p
 obtain⟨⟨D,t⟩,b,h⟩:=oc h (Z2 hk 3 rfl)
 replace b:=ce b
 try simp only[PVE]at b
 apply dgk mixed hS [0,4,5,6] (ordp hpf (by kernel_rfl))
 ·exact di1 (an a.1 (an a.2.1 (an p (an a.2.2.2.1 (an o b)))))
 refine R [0,4,5] ?_
 obtain⟨E,u,h⟩:=oc h (Z7 hk 0 rfl)
 obtain⟨F,d,h⟩:=oc h (Zt2 hk 4 rfl)
 replace d:=ca d
 try simp only[PVE]at d
 refine seq (seq ?_)
 refine rg hS [0,4,5,54] (di1 (an (cd u) d)) ?_
 refine ik h (λh=>?_) λh=>?_
 ·refine seq (Ua1 h [2,3] (Z hk 5 36 t) λH h=>?_)
  exact Rf h
 refine seq (Ua1 h [0,4,5] (Z2 hk 6 rfl) λI h=>?_)
 refine G [0,4,5] ?_
 exact nx h
theorem K3f(c:AllG env [X4x,Q8u,J3k,S42,X4w,Q6j,Z1u,Z6s]):Q0c env X8n:=by
 refine hd c Y3s 49 λO X hS hX hpf hk ⟨n,t,o,u,w,i,j⟩=>λr (h:J1h n t o u w i j=some r)=>gs ?_
 rw[J1h]at h
 refine R [0] ?_
 refine R [0,5,6] ?_
 refine block (Lp h (λ(p,q,s,k,l)=>⟨sl [(0,.ref 0 0),(5,.ref 3 0),(6,.ref 4 0)],49,[V0 n p i.length j.length o q s,rTo i,rSt j,.bld k,.bld l]⟩) ?_)
 clear h
 rintro⟨p,q,s,k,l⟩ y h
 rw[Q4q]at h
 try dsimp only at h
 refine AW.st (block ?_)
 refine block (seq ?_)
 refine Ua1 h [0,5,6,11] (Z7 hk 0 rfl) λz h=>?_
 refine iz h (λh=>?_) λh=>?_
 ·refine seq ?_
  obtain⟨A,m,h⟩:=oc h λ_=>Q1y
  obtain⟨C,a,h⟩:=oc h (Z2 hk 1 rfl)
  replace a:=ce a
  try simp only[PVE]at a
  apply dgk mixed hS [0,5,6] (ordp hpf (by kernel_rfl))
  ·exact di1 (an m.1 (an m.2.1 (an m.2.2 a)))
  refine seq (Ua1 h [0,5,6] (Z2 hk 1 rfl) λD h=>?_)
  refine G [0,5,6] ?_
  exact nx h
 obtain⟨E,x,h⟩:=oc h (Z7 hk 2 rfl)
 obtain⟨F,b,h⟩:=oc h (Zt2 hk 3 rfl)
 replace b:=ca b
 try simp only[PVE]at b
 refine seq (rg hS [0,5,6,32] (di1 (an (cd x) b)) ?_)
 refine iz h (λh=>?_) λh=>?_
 ·refine seq (Ua5 h [0,5,6,7,8] (Z7 hk 4 rfl) λH I J K L h=>?_)
  refine seq (R [0,5,6,7,42] ?_)
  refine ik h (λh=>?_) λh=>?_
  ·exact Rt h [2,3,4]
  refine seq (Ua2 h [0,5,6,7] (Z2 hk 5 rfl) λM N h=>?_)
  obtain⟨P,d,h⟩:=oc h (Zt2 hk 6 rfl)
  replace d:=ca d
  try simp only[PVE]at d
  obtain⟨⟨Q,S⟩,e,h⟩:=oc h (Z2 hk 5 rfl)
  replace e:=ce e
  try simp only[PVE]at e
  refine rg hS [0,5,6] (di1 (an d e)) ?_
  exact nx h
 obtain⟨T,f,h⟩:=oc h (Z hk 7 36 k)
 replace f:=ce f
 try simp only[PVE]at f
 obtain⟨U,g,h⟩:=oc h (Z hk 7 36 l)
 replace g:=ce g
 try simp only[PVE]at g
 refine seq (rg hS [2,3,4] (di1 (an f g)) ?_)
 exact Rf h
theorem K3i(c:AllG env [X8p,X8n,J3j,X0d]):Q0c env K4h:=by
 refine hd c Y4o 58 λO X hS hX hpf hk ⟨a,b,d,e,f,g,i⟩=>λr (h:J5u a b d e f g i=some r)=>gs ?_
 rw[J5u]at h
 refine R [0] ?_
 refine R [0,3] ?_
 refine R [0,3] ?_
 refine seq (Ua1 h [0,3] (Z7 hk 0 rfl) λk h=>?_)
 refine R [0,3,4] ?_
 refine seq (Ua6 h [0,3,4,5,6,7] (Z7 hk 1 rfl) λl m n o p q h=>?_)
 refine seq (R [0,3,4,5,6,32] ?_)
 refine ik h (λh=>?_) λh=>?_
 ·exact Rt h [2]
 refine seq (R [0,3,4,5,6,38] ?_)
 refine ik h (λh=>?_) λh=>?_
 ·refine seq (Ua3 h [2] (Z9 hk 2 rfl) λs t u h=>?_)
  exact Rf h
 replace h:=ap PV.str h;obtain⟨w,j,h⟩:=h
 refine seq (rg hS [0,3,5,6] (di1 j) ?_)
 refine seq (Ua4 h [2] (Z8 hk 3 rfl) λx y z A h=>?_)
 exact Rf h
theorem Y1g(c:AllG env []):Q0c env S76:=by
 refine hd c Y3r 34 λO X hS hX hpf hk ⟨g,b,d,i,j,a,e⟩=>λr (h:F76 g b d i j a e=some r)=>gs ?_
 rw[F76]at h
 refine R [0] ?_
 refine R [0,3] ?_
 obtain⟨k,f,h⟩:=oc h λ_ q=>J7c (Q0d q)
 refine seq (dreg mixed hS (ordp hpf (by kernel_rfl)) [(2,ab ((decide (0<(a.length:Int))&&decide (k.kind_=1))&&decide (d=b)))] [V0 g b a.length e.length d i j,rTo a,rSt e] ?_ ?_)
 ·clear h hk hS hX c
  exact dh1 (an f.1 (an f.2.1 f.2.2))
 exact Rf h
theorem K9w(c:AllG env [J5n,X4v]):Q0c env S166:=by
 refine hd c V4i 26 ?_
 rintro O X hS hX hpf hk (a:Str) (r:Bool) (h:F166 a=some r)
 have e:O.pf 189=true:=pft hpf 189 rfl
 refine gs ?_
 rw[F166]at h
 refine R [0] ?_
 refine seq (Ua2 h [0,3,4] (Zt hk 0 199 a) λb g h=>?_)
 obtain⟨i,d,h⟩:=obs h
 replace d:=Q0d d
 have f:=λj=>(hk 1 189 rfl).ret b (d j) rfl rfl
 refine seq (reg hS [(2,ab (((!g&&decide (0<=b))&&decide (b<64))&&decide (i=a)))] [] ?_ ?_)
 ·clear h hk hS hX c
  ((simp -implicitDefEqProofs only[RUNS,Q1d,Nat.reduceAdd,Nat.reduceLeDiff,Nat.reduceSub,reduceIte,Nat.reduceEqDiff,Nat.reduceLT,reduceCtorEq,Nat.reduceMul,Nat.reduceBEq,Int.reduceEq,Int.reduceToNat,G1r,G2b,if_true,G2i,eq_self,ne_eq,TYS,e,f,J2c X4s,J2b X4s]);repeat'(split<;>rename_i hb<;>(try simp only[HBS,ge_iff_le,gt_iff_lt]at hb)<;>(try simp only[hb,G2o,G1r,Int.reduceToNat,G2b,G3e,G1m]at q)<;>simp -implicitDefEqProofs only[RUNS,Q1d,Nat.reduceAdd,Nat.reduceLeDiff,Nat.reduceSub,reduceIte,Nat.reduceEqDiff,Nat.reduceLT,reduceCtorEq,Nat.reduceMul,Nat.reduceBEq,Int.reduceEq,Int.reduceToNat,G1r,G2b,if_true,G2i,eq_self,ne_eq,TYS,e,f,J2c X4s,J2b X4s, *,G4n,G6c,G6v,G5j,G3w]));all_goals(first|(simp only[J6e];done)|(simp[*];done)|((try simp only[CLOS,G3h,G5x,ne_eq]at *)<;>omega)|(simp_all;done)|(simp_all<;>omega))
 exact Rf h
theorem V0t(c:AllG env [Q0z,J7s,S166]):Q0c env S125:=by
 refine hd c V5i 42 λO X hS hX hpf hk ⟨j,e⟩=>λr (h:F125 j e=some r)=>?_
 have k:O.pf 166=true:=pft hpf 166 rfl
 refine gs ?_
 rw[F125]at h
 refine R [0,1] ?_
 refine seq (Ua1 h [0,1,5] (Zt2 hk 0 rfl) λl h=>?_)
 refine seq (R [0,1,5,12] ?_)
 refine ik h (λh=>?_) λh=>?_
 ·exact Rt h [4]
 obtain⟨u,a,h⟩:=oc h λ_=>Q0r
 try simp only[NRM,Int.reduceToNat]at a
 have f:=a.2.2.2.2
 try simp only[NRM,Int.reduceToNat]at f
 have g:=a.2.2.1
 try simp only[NRM,Int.reduceToNat]at g
 obtain⟨⟨m,i,n⟩,b,h⟩:=oc h (Zt2 hk 1 rfl)
 replace b:=ca b
 try simp only[PVE]at b
 refine seq (rg hS [1,5,6,7,8] (di1 (an a.1 (an a.2.1 (an g (an a.2.2.2.1 (an f b)))))) ?_)
 obtain⟨o,p,h⟩:=oc h (Zt hk 2 166 m)
 obtain⟨q,d,h⟩:=obs h
 replace d:=Q0d d
 have s:=λt=>(hk 2 166 rfl).ret i (d t) rfl rfl
 refine seq (seq ?_)
 refine reg hS [(5,ai l),(39,ab (!o||(n&&(!e||(!decide (i=[])&&!q)))))] [] ?_ ?_
 ·clear h hk hS hX c
  exact dh1 (an k (an (ca p) s))
 refine ik h (λh=>?_) λh=>?_
 ·exact Rt h [4]
 exact Rt h [4]
theorem Y1f(c:AllG env [J3k,S42,Q0z,S125,J3j]):Q0c env S77:=by
 refine hd c Y3q 73 λO X hS hX hpf hk ⟨m,n,o,p,q,e,f⟩=>λr (h:F77 m n o p q e f=some r)=>gs ?_
 rw[F77]at h
 refine R [0] ?_
 refine seq (Ua1 h [0,4] (Z7 hk 0 rfl) λx h=>?_)
 refine seq (R [0,4,12,13,14] ?_)
 refine block (Lp h (λs=>⟨sl [(0,.ref 0 0),(4,as_ x),(12,.full (List.map PV.str [[38,38],[124,124],[36,35]])),(13,ai ([[38,38],[124,124],[36,35]].length:Int)),(14,ai s)],73,[V0 m n e.length f.length o p q,rTo e,rSt f]⟩) ?_)
 clear h
 rintro s m19 h
 rw[X5j]at h
 try dsimp only at h
 refine AW.st (R [0,4,12,13,14,15] ?_)
 refine seq (iz h (λh=>?_) λh=>?_)
 ·obtain⟨F,t,h⟩:=oc h λ_=>Q0l
  have y:(List.map PV.str [[38,38],[124,124],[36,35]])[Int.toNat s]?=some (PV.str F):=by rw[G0x,t.2.1];rfl
  try simp only[G2g,G2h]at y
  refine skip (seq ?_)
  refine block (seq ?_)
  refine rg hS [0,4,6,12,13,14] (di1 (an t.1 (an t.2.1 y))) ?_
  refine seq (Ua1 h [0,4,6,12,13,14,20] (Zt2 hk 1 rfl) λJ h=>?_)
  refine ik h (λh=>?_) λh=>?_
  ·exact Rt h [2,3]
  refine G [0,4,12,13,14] ?_
  exact nx h
 refine exit (seq ?_)
 refine R [0,4,24] ?_
 refine ik h (λh=>?_) λh=>?_
 ·exact Rt h [2,3]
 obtain⟨K,j,h⟩:=oc h λ_=>Q1y
 try simp only[NRM,Int.reduceToNat]at j
 obtain⟨L,k,h⟩:=oc h (Zt2 hk 2 rfl)
 replace k:=ca k
 try simp only[PVE]at k
 refine seq (seq ?_)
 refine rg hS [0,4,28] (di1 (an j.1 (an j.2.1 (an j.2.2 k)))) ?_
 refine ik h (λh=>?_) λh=>?_
 ·obtain⟨M,b,h⟩:=oc h λ_=>Q0r
  try simp only[NRM,Int.reduceToNat]at b
  have z:=b.2.2.2.2
  try simp only[NRM,Int.reduceToNat]at z
  have A:=b.2.2.1
  try simp only[NRM,Int.reduceToNat]at A
  refine seq (rg hS [2,3] (di1 (an b.1 (an b.2.1 (an A (an b.2.2.2.1 z))))) ?_)
  exact Rf h
 refine seq (R [0,4,31,32,33] ?_)
 refine block (Lp h (λu=>⟨sl [(0,.ref 0 0),(4,as_ x),(31,.full (List.map PV.str [[62,62],[62],[60],[124]])),(32,ai ([[62,62],[62],[60],[124]].length:Int)),(33,ai u)],73,[V0 m n e.length f.length o p q,rTo e,rSt f]⟩) ?_)
 clear h
 rintro u N h
 rw[J3n]at h
 try dsimp only at h
 refine AW.st (R [0,4,31,32,33,34] ?_)
 refine seq (iz h (λh=>?_) λh=>?_)
 ·obtain⟨H,w,h⟩:=oc h λ_=>Q0l
  have C:(List.map PV.str [[62,62],[62],[60],[124]])[Int.toNat u]?=some (PV.str H):=by rw[G0x,w.2.1];rfl
  try simp only[G2g,G2h]at C
  refine skip (seq ?_)
  refine block (seq ?_)
  refine rg hS [0,4,8,31,32,33] (di1 (an w.1 (an w.2.1 C))) ?_
  refine seq (seq ?_)
  refine Ua1 h [0,4,8,31,32,33,40] (Zt2 hk 1 rfl) λP h=>?_
  refine ik h (λh=>?_) λh=>?_
  ·refine exit (G [0,4,31,32,33] ?_)
   exact nx h
  obtain⟨t51,a,h⟩:=oc h λ_=>Q0r
  try simp only[NRM,Int.reduceToNat]at a
  have g:=a.2.2.2.2
  try simp only[NRM,Int.reduceToNat]at g
  have i:=a.2.2.1
  try simp only[NRM,Int.reduceToNat]at i
  obtain⟨Q,l,h⟩:=oc h (Zt2 hk 1 rfl)
  replace l:=ca l
  try simp only[PVE]at l
  refine seq (seq ?_)
  refine rg hS [0,4,8,46] (di1 (an a.1 (an a.2.1 (an i (an a.2.2.2.1 (an g l)))))) ?_
  refine ik h (λh=>?_) λh=>?_
  ·exact Rt h [2,3]
  try simp only[NRM,Int.reduceToNat]at a
  have g:=a.2.2.2.2
  try simp only[NRM,Int.reduceToNat]at g
  have i:=a.2.2.1
  try simp only[NRM,Int.reduceToNat]at i
  obtain⟨S,I,h⟩:=oc h (Zt2 hk 3 rfl)
  refine seq (rg hS [0,4,8,9] (di1 (an a.1 (an a.2.1 (an i (an a.2.2.2.1 (an g (ca I))))))) ?_)
  refine seq (R [0,4,8,9,56] ?_)
  refine ik h (λh=>?_) λh=>?_
  ·refine seq (Ua3 h [2,3] (Z9 hk 4 rfl) λT U V h=>?_)
   exact Rf h
  obtain⟨W,d,h⟩:=oc h λ_=>Q0r
  try simp only[NRM,Int.reduceToNat]at d
  have D:=d.2.2.2.2
  try simp only[NRM,Int.reduceToNat]at D
  have E:=d.2.2.1
  try simp only[NRM,Int.reduceToNat]at E
  refine seq (rg hS [2,3] (di1 (an d.1 (an d.2.1 (an E (an d.2.2.2.1 D))))) ?_)
  exact Rf h
 exact exit (Rt h [2,3])
end Go.Abs.U48
