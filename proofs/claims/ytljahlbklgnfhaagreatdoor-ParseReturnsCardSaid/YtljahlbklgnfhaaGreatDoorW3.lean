import Derived.Test.YtljahlbklgnfhaaGreatDoorD1
set_option linter.unusedVariables false
set_option linter.unusedSimpArgs false
set_option maxRecDepth 8000
set_option maxHeartbeats 4000000
namespace Go.Abs.U48
open Go.RowKit Go.Proofs AW
open Go.Proofs.Tryz
theorem V1g(c:AllG env [K1k,Q9m,J6x,S42,K1j,Q7b,Z3f,Z9h]):Q0c env K5s:=by
 refine hd c (fnq func75) 49 λO X hS hX hpf hk ⟨t,A,u,C,D,m,n⟩=>λr (h:J4k t A u C D m n=some r)=>gs ?_
 rw[J4k]at h
 refine R [0] ?_
 refine R [0,5,6] ?_
 refine block (Lp h (λ(x,y,z,o,p)=>⟨sl [(0,.ref 0 0),(5,.ref 3 0),(6,.ref 4 0)],49,[V6 t x m.length n.length u y z,rTo m,rSt n,.bld o,.bld p]⟩) ?_)
 clear h
 rintro⟨x,y,z,o,p⟩ E h
 rw[Q5g]at h
 try dsimp only at h
 obtain⟨F,a,h⟩:=oc h (Z7 hk 0 rfl)
 replace a:=cd a
 try simp only[PVE]at a
 refine AW.st (block ?_)
 refine block (seq ?_)
 refine rg hS [0,5,6,11] (di1 a) ?_
 refine iz h (λh=>?_) λh=>?_
 ·refine seq ?_
  obtain⟨H,q,h⟩:=oc h λ_=>Q6h
  obtain⟨I,b,h⟩:=oc h (Z2 hk 1 rfl)
  replace b:=ce b
  try simp only[PVE]at b
  apply dgk mixed hS [0,5,6] (ordp hpf (by kernel_rfl))
  ·exact di1 (an q.1 (an q.2.1 (an q.2.2 b)))
  refine seq (Ua1 h [0,5,6] (Z2 hk 1 rfl) λJ h=>?_)
  refine G [0,5,6] ?_
  exact nx h
 obtain⟨K,d,h⟩:=oc h (Z7 hk 2 rfl)
 replace d:=cd d
 try simp only[PVE]at d
 obtain⟨L,e,h⟩:=oc h (Zt2 hk 3 rfl)
 replace e:=ca e
 try simp only[PVE]at e
 refine seq (rg hS [0,5,6,32] (di1 (an d e)) ?_)
 refine iz h (λh=>?_) λh=>?_
 ·obtain⟨⟨M,N,P,Q,S⟩,f,h⟩:=oc h (Z7 hk 4 rfl)
  replace f:=cd f
  try simp only[PVE]at f
  refine seq (rg hS [0,5,6,7,8] (di1 f) ?_)
  refine seq (R [0,5,6,7,42] ?_)
  refine ik h (λh=>?_) λh=>?_
  ·exact Rt h [2,3,4]
  refine seq (Ua2 h [0,5,6,7] (Z2 hk 5 rfl) λT U h=>?_)
  obtain⟨V,g,h⟩:=oc h (Zt2 hk 6 rfl)
  replace g:=ca g
  try simp only[PVE]at g
  obtain⟨⟨W,Y⟩,i,h⟩:=oc h (Z2 hk 5 rfl)
  replace i:=ce i
  try simp only[PVE]at i
  refine rg hS [0,5,6] (di1 (an g i)) ?_
  exact nx h
 obtain⟨aa,j,h⟩:=oc h (Z hk 7 36 o)
 replace j:=ce j
 try simp only[PVE]at j
 obtain⟨ac,l,h⟩:=oc h (Z hk 7 36 p)
 replace l:=ce l
 try simp only[PVE]at l
 refine seq (rg hS [2,3,4] (di1 (an j l)) ?_)
 exact Rf h
theorem V1l(c:AllG env [K5u,K5s,J6w,X5y]):Q0c env V2o:=by
 refine hd c (fnq func43) 58 λO X hS hX hpf hk ⟨f,g,i,j,l,m,n⟩=>λr (h:J9s f g i j l m n=some r)=>gs ?_
 rw[J9s]at h
 refine R [0] ?_
 refine R [0,3] ?_
 refine R [0,3] ?_
 obtain⟨p,a,h⟩:=oc h (Z7 hk 0 rfl)
 replace a:=cd a
 try simp only[PVE]at a
 refine seq (rg hS [0,3] (di1 a) ?_)
 refine R [0,3,4] ?_
 obtain⟨⟨q,t,u,x,y,z⟩,b,h⟩:=oc h (Z7 hk 1 rfl)
 replace b:=cd b
 try simp only[PVE]at b
 refine seq (rg hS [0,3,4,5,6,7] (di1 b) ?_)
 refine seq (R [0,3,4,5,6,32] ?_)
 refine ik h (λh=>?_) λh=>?_
 ·exact Rt h [2]
 refine seq (R [0,3,4,5,6,38] ?_)
 refine ik h (λh=>?_) λh=>?_
 ·obtain⟨⟨A,C,D⟩,d,h⟩:=oc h (Z9 hk 2 rfl)
  replace d:=cd d
  try simp only[PVE]at d
  refine seq (rg hS [2] (di1 d) ?_)
  exact Rf h
 replace h:=ap PV.str h;obtain⟨E,o,h⟩:=h
 refine seq (rg hS [0,3,5,6] (di1 o) ?_)
 obtain⟨⟨F,H,I,J⟩,e,h⟩:=oc h (Z8 hk 3 rfl)
 replace e:=cd e
 try simp only[PVE]at e
 refine seq (rg hS [2] (di1 e) ?_)
 exact Rf h
theorem Y6o(c:AllG env []):Q0c env S76:=by
 refine hd c (fnq func76) 34 λO X hS hX hpf hk ⟨g,b,d,i,j,a,e⟩=>λr (h:F76 g b d i j a e=some r)=>gs ?_
 rw[F76]at h
 refine R [0] ?_
 refine R [0,3] ?_
 obtain⟨l,f,h⟩:=oc h λ_ q=>Q8v (Q0d q)
 refine seq (dreg mixed hS (ordp hpf (by kernel_rfl)) [(2,ab ((decide (0<(a.length:Int))&&decide (l.kind_=1))&&decide (d=b)))] [V6 g b a.length e.length d i j,rTo a,rSt e] ?_ ?_)
 ·clear h hk hS hX c
  exact dh1 (an f.1 (an f.2.1 f.2.2))
 exact Rf h
theorem V9d(c:AllG env [J9l,J4c]):Q0c env S166:=by
 refine hd c (fnq func166) 26 ?_
 rintro O X hS hX hpf hk (a:Str) (r:Bool) (h:F166 a=some r)
 have e:O.pf 189=true:=pft hpf 189 rfl
 refine gs ?_
 rw[F166]at h
 refine R [0] ?_
 refine seq (Ua2 h [0,3,4] (Zt hk 0 199 a) λb g h=>?_)
 obtain⟨i,d,h⟩:=obs h
 replace d:=Q0d d
 have f:=λj=>(hk 1 189 rfl).ret b (d j) rfl rfl
 refine seq (reg hS [(2,ab (((!g&&decide (0<=b))&&decide (b<64))&&decide (i=a)))] [] ?_ ?_)
 ·clear h hk hS hX c
  ((simp -implicitDefEqProofs only[RUNS,Q1j,Nat.reduceAdd,Nat.reduceLeDiff,Nat.reduceSub,reduceIte,Nat.reduceEqDiff,Nat.reduceLT,reduceCtorEq,Nat.reduceMul,Nat.reduceBEq,Int.reduceEq,Int.reduceToNat,G2g,G2p,if_true,G2v,eq_self,ne_eq,TYS,e,f,J5k K1d,J5j K1d]);repeat'(split<;>rename_i hb<;>(try simp only[HBS,ge_iff_le,gt_iff_lt]at hb)<;>(try simp only[hb,G2l,G2g,Int.reduceToNat,G2p,G2u,G1h]at q)<;>simp -implicitDefEqProofs only[RUNS,Q1j,Nat.reduceAdd,Nat.reduceLeDiff,Nat.reduceSub,reduceIte,Nat.reduceEqDiff,Nat.reduceLT,reduceCtorEq,Nat.reduceMul,Nat.reduceBEq,Int.reduceEq,Int.reduceToNat,G2g,G2p,if_true,G2v,eq_self,ne_eq,TYS,e,f,J5k K1d,J5j K1d, *,G4x,G7d,G8e,G6i,G5a]));all_goals(first|(simp only[Q1x];done)|(simp[*];done)|((try simp only[CLOS,G3o,G6w,ne_eq]at *)<;>omega)|(simp_all;done)|(simp_all<;>omega))
 exact Rf h
theorem Y0a(c:AllG env [Q0z,X2w,S166]):Q0c env S125:=by
 refine hd c (fnq func125) 42 λO X hS hX hpf hk ⟨j,e⟩=>λr (h:F125 j e=some r)=>?_
 have l:O.pf 166=true:=pft hpf 166 rfl
 refine gs ?_
 rw[F125]at h
 refine R [0,1] ?_
 refine seq (Ua1 h [0,1,5] (Zt2 hk 0 rfl) λm h=>?_)
 refine seq (R [0,1,5,12] ?_)
 refine ik h (λh=>?_) λh=>?_
 ·exact Rt h [4]
 obtain⟨y,a,h⟩:=oc h λ_=>Q1l
 try simp only[NRM,Int.reduceToNat]at a
 have f:=a.2.2.2.2
 try simp only[NRM,Int.reduceToNat]at f
 have g:=a.2.2.1
 try simp only[NRM,Int.reduceToNat]at g
 obtain⟨⟨n,i,o⟩,b,h⟩:=oc h (Zt2 hk 1 rfl)
 replace b:=ca b
 try simp only[PVE]at b
 refine seq (rg hS [1,5,6,7,8] (di1 (an a.1 (an a.2.1 (an g (an a.2.2.2.1 (an f b)))))) ?_)
 obtain⟨p,q,h⟩:=oc h (Zt hk 2 166 n)
 obtain⟨t,d,h⟩:=obs h
 replace d:=Q0d d
 have u:=λx=>(hk 2 166 rfl).ret i (d x) rfl rfl
 refine seq (seq ?_)
 refine reg hS [(5,ai m),(39,ab (!p||(o&&(!e||(!decide (i=[])&&!t)))))] [] ?_ ?_
 ·clear h hk hS hX c
  exact dh1 (an l (an (ca q) u))
 refine ik h (λh=>?_) λh=>?_
 ·exact Rt h [4]
 exact Rt h [4]
theorem Y6n(c:AllG env [J6x,S42,Q0z,S125,J6w]):Q0c env S77:=by
 refine hd c (fnq func77) 73 λO X hS hX hpf hk ⟨p,q,t,u,x,e,f⟩=>λr (h:F77 p q t u x e f=some r)=>gs ?_
 rw[F77]at h
 refine R [0] ?_
 obtain⟨D,j,h⟩:=oc h (Z7 hk 0 rfl)
 replace j:=cd j
 try simp only[PVE]at j
 refine seq (rg hS [0,4] (di1 j) ?_)
 refine seq (R [0,4,12,13,14] ?_)
 refine block (Lp h (λy=>⟨sl [(0,.ref 0 0),(4,as_ D),(12,.full (List.map PV.str [[38,38],[124,124],[36,35]])),(13,ai ([[38,38],[124,124],[36,35]].length:Int)),(14,ai y)],73,[V6 p q e.length f.length t u x,rTo e,rSt f]⟩) ?_)
 clear h
 rintro y P h
 rw[K1u]at h
 try dsimp only at h
 refine AW.st (R [0,4,12,13,14,15] ?_)
 refine seq (iz h (λh=>?_) λh=>?_)
 ·obtain⟨L,z,h⟩:=oc h λ_=>Q0m
  have E:(List.map PV.str [[38,38],[124,124],[36,35]])[Int.toNat y]?=some (PV.str L):=by rw[G1i,z.2.1];rfl
  try simp only[G2i,G3q]at E
  refine skip (seq ?_)
  refine block (seq ?_)
  refine rg hS [0,4,6,12,13,14] (di1 (an z.1 (an z.2.1 E))) ?_
  refine seq (Ua1 h [0,4,6,12,13,14,20] (Zt2 hk 1 rfl) λQ h=>?_)
  refine ik h (λh=>?_) λh=>?_
  ·exact Rt h [2,3]
  refine G [0,4,12,13,14] ?_
  exact nx h
 refine exit (seq ?_)
 refine R [0,4,24] ?_
 refine ik h (λh=>?_) λh=>?_
 ·exact Rt h [2,3]
 obtain⟨S,l,h⟩:=oc h λ_=>Q6h
 try simp only[NRM,Int.reduceToNat]at l
 obtain⟨T,m,h⟩:=oc h (Zt2 hk 2 rfl)
 replace m:=ca m
 try simp only[PVE]at m
 refine seq (seq ?_)
 refine rg hS [0,4,28] (di1 (an l.1 (an l.2.1 (an l.2.2 m)))) ?_
 refine ik h (λh=>?_) λh=>?_
 ·obtain⟨U,b,h⟩:=oc h λ_=>Q1l
  try simp only[NRM,Int.reduceToNat]at b
  have F:=b.2.2.2.2
  try simp only[NRM,Int.reduceToNat]at F
  have H:=b.2.2.1
  try simp only[NRM,Int.reduceToNat]at H
  refine seq (rg hS [2,3] (di1 (an b.1 (an b.2.1 (an H (an b.2.2.2.1 F))))) ?_)
  exact Rf h
 refine seq (R [0,4,31,32,33] ?_)
 refine block (Lp h (λA=>⟨sl [(0,.ref 0 0),(4,as_ D),(31,.full (List.map PV.str [[62,62],[62],[60],[124]])),(32,ai ([[62,62],[62],[60],[124]].length:Int)),(33,ai A)],73,[V6 p q e.length f.length t u x,rTo e,rSt f]⟩) ?_)
 clear h
 rintro A V h
 rw[J7a]at h
 try dsimp only at h
 refine AW.st (R [0,4,31,32,33,34] ?_)
 refine seq (iz h (λh=>?_) λh=>?_)
 ·obtain⟨M,C,h⟩:=oc h λ_=>Q0m
  have I:(List.map PV.str [[62,62],[62],[60],[124]])[Int.toNat A]?=some (PV.str M):=by rw[G1i,C.2.1];rfl
  try simp only[G2i,G3q]at I
  refine skip (seq ?_)
  refine block (seq ?_)
  refine rg hS [0,4,8,31,32,33] (di1 (an C.1 (an C.2.1 I))) ?_
  refine seq (seq ?_)
  refine Ua1 h [0,4,8,31,32,33,40] (Zt2 hk 1 rfl) λW h=>?_
  refine ik h (λh=>?_) λh=>?_
  ·refine exit (G [0,4,31,32,33] ?_)
   exact nx h
  obtain⟨Y,a,h⟩:=oc h λ_=>Q1l
  try simp only[NRM,Int.reduceToNat]at a
  have g:=a.2.2.2.2
  try simp only[NRM,Int.reduceToNat]at g
  have i:=a.2.2.1
  try simp only[NRM,Int.reduceToNat]at i
  obtain⟨aa,n,h⟩:=oc h (Zt2 hk 1 rfl)
  replace n:=ca n
  try simp only[PVE]at n
  refine seq (seq ?_)
  refine rg hS [0,4,8,46] (di1 (an a.1 (an a.2.1 (an i (an a.2.2.2.1 (an g n)))))) ?_
  refine ik h (λh=>?_) λh=>?_
  ·exact Rt h [2,3]
  try simp only[NRM,Int.reduceToNat]at a
  have g:=a.2.2.2.2
  try simp only[NRM,Int.reduceToNat]at g
  have i:=a.2.2.1
  try simp only[NRM,Int.reduceToNat]at i
  obtain⟨ac,N,h⟩:=oc h (Zt2 hk 3 rfl)
  refine seq (rg hS [0,4,8,9] (di1 (an a.1 (an a.2.1 (an i (an a.2.2.2.1 (an g (ca N))))))) ?_)
  refine seq (R [0,4,8,9,56] ?_)
  refine ik h (λh=>?_) λh=>?_
  ·obtain⟨⟨ad,ae,af⟩,o,h⟩:=oc h (Z9 hk 4 rfl)
   replace o:=cd o
   try simp only[PVE]at o
   refine seq (rg hS [2,3] (di1 o) ?_)
   exact Rf h
  obtain⟨ag,d,h⟩:=oc h λ_=>Q1l
  try simp only[NRM,Int.reduceToNat]at d
  have J:=d.2.2.2.2
  try simp only[NRM,Int.reduceToNat]at J
  have K:=d.2.2.1
  try simp only[NRM,Int.reduceToNat]at K
  refine seq (rg hS [2,3] (di1 (an d.1 (an d.2.1 (an K (an d.2.2.2.1 J))))) ?_)
  exact Rf h
 exact exit (Rt h [2,3])
theorem Y6m(c:AllG env [Q0z,X5y]):Q0c env S78:=by
 refine hd c (fnq func78) 43 λO X hS hX hpf hk ⟨a,u,f,g,i,o,p,d,b⟩=>λr (h:F78 a u f g i o p d b=some r)=>gs ?_
 rw[F78]at h
 refine R [0,2,4] ?_
 obtain⟨A,j,h⟩:=oc h λ_ q=>Q8n (Q0d q)
 try simp only[NRM,Int.reduceToNat]at j
 obtain⟨C,t,h⟩:=obs h
 replace t:=Q0d t
 have x:=λD=>(hk 0 40 rfl).ret (([36,96]:Str),A) (t D) rfl rfl
 try simp only[PVE]at x
 refine seq (reg hS [(0,.ref 0 0),(2,ab u),(4,.ref 3 0),(7,ab (decide (a.kind_=1)||((decide (a.kind_=2)&&!decide (a.text_=[]))&&decide (0<=C))))] [V6 f g d.length b.length i o p,rTo d,rSt b,V7 a] ?_ ?_)
 ·clear h hk hS hX c
  exact dh1 (an j.1 (an j.2.1 (an j.2.2 (ap1 40 hpf x))))
 refine seq (seq ?_)
 rcases bs h with⟨e,h⟩|⟨e,h⟩
 ·try simp only[G0d,G2n]at e
  obtain⟨⟨E,F,y,z⟩,l,h⟩:=oc h (Z8 hk 1 rfl)
  replace l:=cd l
  try simp only[PVE]at l
  refine reg hS [(0,.ref 0 0),(4,.ref 3 0),(39,ab (!E))] [V6 f g z.length b.length i F y,rTo z,rSt b,V7 a] ?_ ?_
  ·clear h hk hS hX c
   exact dh1 (an e l)
  refine ik h (λh=>?_) λh=>?_
  ·exact Rt h [6]
  obtain⟨⟨H,I,J,K⟩,m,h⟩:=oc h (Z8 hk 1 rfl)
  replace m:=cd m
  try simp only[PVE]at m
  refine seq (rg hS [6] (di1 m) ?_)
  exact Rf h
 try simp only[G0d,G2n]at e
 refine reg hS [(0,.ref 0 0),(4,.ref 3 0),(39,ab false)] [V6 f g d.length b.length i o p,rTo d,rSt b,V7 a] ?_ ?_
 ·clear h hk hS hX c
  exact dh1 e
 refine cF ?_
 obtain⟨⟨L,y,M,N⟩,n,h⟩:=oc h (Z8 hk 1 rfl)
 replace n:=cd n
 try simp only[PVE]at n
 refine skip (seq ?_)
 refine rg hS [6] (di1 n) ?_
 exact Rf h
end Go.Abs.U48
