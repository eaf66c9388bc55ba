import Derived.Test.YtljahlbklgnfhaaGreatDoorD1
set_option linter.unusedVariables false
set_option linter.unusedSimpArgs false
set_option maxRecDepth 8000
set_option maxHeartbeats 4000000
namespace Go.Abs.U48
open Go.RowKit Go.Proofs AW
open Go.Proofs.Tryz
theorem V9z(c:AllG env []):Q0c env S126:=by
 refine hd c (fnq func126) 33 ?_
 rintro O X hS hX hpf hk (a:Int) (r:Bool) (h:F126 a=some r)
 refine gs ?_
 rw[F126]at h
 refine R [0] ?_
 refine seq (reg hS [(2,ab (((((decide (97<=a)&&decide (a<=122))||(decide (65<=a)&&decide (a<=90)))||(decide (48<=a)&&decide (a<=57)))||decide (a=95))||decide (a=42)))] [] ?_ ?_)
 ·clear h hk hS hX c
  exact dh
 exact Rf h
theorem Y6l(c:AllG env [S126,J6w,Z3f,X5y]):Q0c env S79:=by
 refine hd c (fnq func79) 65 λO X hS hX hpf hk ⟨e,l,m,n,o,b,d⟩=>λr (h:F79 e l m n o b d=some r)=>gs ?_
 rw[F79]at h
 refine R [0] ?_
 refine R [0,3] ?_
 refine seq (block ?_)
 refine Lp h (λf=>⟨sl [(0,.ref 0 0),(3,ai l)],65,[V6 e f b.length d.length m n o,rTo b,rSt d]⟩) ?_
 clear h
 rintro f D h
 rw[Z9n]at h
 try dsimp only at h
 obtain⟨y,p,h⟩:=oc h λ_ q=>Q8n (Q0d q)
 obtain⟨z,t,h⟩:=obs h
 replace t:=Q0d t
 have A:=λC=>(hk 0 126 rfl).ret y (t C) rfl rfl
 refine AW.st (seq ?_)
 refine seq (dreg mixed hS (ordp hpf (by kernel_rfl)) [(0,.ref 0 0),(3,ai l),(30,ab (decide (f<(e.length:Int))&&z))] [V6 e f b.length d.length m n o,rTo b,rSt d] ?_ ?_)
 ·clear h hk hS hX c
  exact dh1 (an p.1 (an p.2.1 (an p.2.2 (ap1 126 hpf A))))
 refine iz h (λh=>?_) λh=>?_
 ·refine skip (block ?_)
  refine G [0,3] ?_
  exact nx h
 refine exit (seq ?_)
 refine R [0,3,43] ?_
 refine ik h (λh=>?_) λh=>?_
 ·obtain⟨⟨E,F,H⟩,g,h⟩:=oc h (Z9 hk 1 rfl)
  replace g:=cd g
  try simp only[PVE]at g
  refine seq (rg hS [2] (di1 g) ?_)
  exact Rf h
 refine seq ?_
 obtain⟨I,a,h⟩:=oc h λ_=>Q1l
 try simp only[NRM,Int.reduceToNat]at a
 have u:=a.2.2.2.2
 try simp only[NRM,Int.reduceToNat]at u
 have x:=a.2.2.1
 try simp only[NRM,Int.reduceToNat]at x
 apply dgk mixed hS [0,3,4] (ordp hpf (by kernel_rfl))
 ·exact di1 (an a.1 (an a.2.1 (an x (an a.2.2.2.1 u))))
 obtain⟨J,i,h⟩:=oc h (Zt2 hk 2 rfl)
 replace i:=ca i
 try simp only[PVE]at i
 obtain⟨⟨K,L,M,N⟩,j,h⟩:=oc h (Z8 hk 3 rfl)
 replace j:=cd j
 try simp only[PVE]at j
 refine seq (rg hS [2] (di1 (an i j)) ?_)
 exact Rf h
theorem Y7a(c:AllG env [S76,S77,S78,S79,K5s]):Q0c env S44:=by
 refine hd c (fnq func44) 64 λO X hS hX hpf hk ⟨m,n,o,q,t,u,i⟩=>λr (h:F44 m n o q t u i=some r)=>gs ?_
 rw[F44]at h
 refine R [0] ?_
 refine R [0,3] ?_
 obtain⟨z,a,h⟩:=oc h (Z7 hk 0 rfl)
 replace a:=cd a
 try simp only[PVE]at a
 refine seq (rg hS [0,3,4] (di1 a) ?_)
 obtain⟨⟨j,A,C,D⟩,b,h⟩:=oc h (Z7 hk 1 rfl)
 replace b:=cd b
 try simp only[PVE]at b
 refine seq (rg hS [0,3,4,5,6] (di1 b) ?_)
 refine seq (R [0,3,4,5,21] ?_)
 refine ik h (λh=>?_) λh=>?_
 ·exact Rt h [2]
 refine seq (R [0,3,4,5,23] ?_)
 refine ik h (λh=>?_) λh=>?_
 ·refine R [0,3,4,5] ?_
  obtain⟨⟨E,x,y,p⟩,d,h⟩:=oc h (Z9 hk 2 rfl)
  replace d:=cd d
  try simp only[PVE]at d
  refine seq (seq ?_)
  refine rg hS [0,5,39] (di1 d) ?_
  refine ik h (λh=>?_) λh=>?_
  ·exact Rt h [2]
  refine seq (seq ?_)
  refine reg hS [(0,.ref 0 0),(45,ab (decide (j=[36])||decide (j=[36,35])))] [V6 m (IntKind.wrap .i64 (n+(j.length:Int))) p.length i.length o x y,rTo p,rSt i] ?_ ?_
  ·clear h hk hS hX c
   exact dh
  refine ik h (λh=>?_) λh=>?_
  ·obtain⟨⟨F,H,I,J,K⟩,e,h⟩:=oc h (Z7 hk 3 rfl)
   replace e:=cd e
   try simp only[PVE]at e
   refine seq (rg hS [2] (di1 e) ?_)
   exact Rf h
  exact Rt h [2]
 obtain⟨⟨L,M,N,P,Q,S⟩,f,h⟩:=oc h (Z7 hk 4 rfl)
 replace f:=cd f
 try simp only[PVE]at f
 refine seq (rg hS [0,3,4,6,7,8] (di1 f) ?_)
 refine seq ?_
 rcases bs h with⟨l,h⟩|⟨l,h⟩
 ·obtain⟨⟨T,U,V,W⟩,g,h⟩:=oc h (Z9 hk 2 rfl)
  replace g:=cd g
  try simp only[PVE]at g
  exact rg hS [2] (di1 (an l g)) (Rf h)
 exact rg hS [2] (di1 l) (Rf h)
theorem Y7m(c:AllG env [K5u,J6x,Q0z,V2p,S42,V2o,S44]):Q0c env S19:=by
 refine hd c (fnq func19) 94 ?_
 rintro O X hS hX hpf hk (b:Str) (r:(List Token)×Int×Int) (h:F19 b=some r)
 refine gs ?_
 rw[F19]at h
 refine R [0] ?_
 refine seq (R [0,10] ?_)
 refine ik h (λh=>?_) λh=>?_
 ·exact Rt h [2,3,4]
 refine seq (AW.after ?_)
 refine rg hS [0,5] di ?_
 refine o2 (oC Token.pv 0 2 87 4 ?_)
 refine oC PV.str 0 3 9 1 ?_
 refine seq (block ?_)
 refine Lp h (λ(e,x,g,i,d,a)=>⟨sl [(0,as_ b),(5,.ref 0 0)],94,[V6 b e d.length a.length x g i,rTo d,rSt a]⟩) ?_
 clear h
 rintro⟨e,x,g,i,d,a⟩ F h
 rw[Z5x]at h
 try dsimp only at h
 refine AW.st (seq ?_)
 refine R [0,5,18] ?_
 refine iz h (λh=>?_) λh=>?_
 ·refine skip (block ?_)
  refine R [0,5] ?_
  obtain⟨l,m,h⟩:=oc h (Z7 hk 0 rfl)
  replace m:=cd m
  try simp only[PVE]at m
  refine seq (rg hS [0,5] (di1 m) ?_)
  obtain⟨H,n,h⟩:=oc h (Z7 hk 1 rfl)
  replace n:=cd n
  try simp only[PVE]at n
  refine seq (rg hS [0,5,6] (di1 n) ?_)
  refine block (R [0,5,6,32] ?_)
  refine iz h (λh=>?_) λh=>?_
  ·refine seq (R [0,5,40] ?_)
   refine ik h (λh=>?_) λh=>?_
   ·exact Rt h [2,3,4]
   exact Rt h [2,3,4]
  obtain⟨I,f,h⟩:=oc h λ_=>Q6h
  try simp only[NRM,Int.reduceToNat]at f
  refine seq (rg hS [0,5,6,47] (di1 (an f.1 (an f.2.1 f.2.2))) ?_)
  refine iz h (λh=>?_) λh=>?_
  ·refine R [0,5,6] ?_
   refine seq (Ua1 h [0,5,6,7] (Zt2 hk 2 rfl) λJ h=>?_)
   refine R [0,5,6,7,63] ?_
   refine ik h (λh=>?_) λh=>?_
   ·refine G [0,5] ?_
    exact nx h
   exact nx h
  refine srg hS [0,5,6,75] (di1 (an f.1 (an f.2.1 f.2.2))) ?_
  refine iz h (λh=>?_) λh=>?_
  ·obtain⟨⟨E,y,z,A,C,o⟩,D,h⟩:=obs h
   dsimp only at h
   refine AW.cases (E) (λt=>?_) (λt=>?_)
   ·subst t
    replace h:=Y1f rfl h
    have j:=(hk 3 41 rfl).ret (b,l,e,g,i,d,a) D rfl rfl
    simp only[G1a,G0v]at j
    have u:Q4u O [V6 b l d.length a.length e g i,rTo d,rSt a] 41 [.ref 0 0]=some (Q6w [ab y],[V8 b z o.length e A C,rTo o,rSt a]):=Z2y rfl rfl rfl j rfl rfl rfl
    refine AW.after ?_
    refine rg hS [0,5] (di1 (ap0 41 hpf u)) ?_
    refine oC PV.str 0 3 9 1 ?_
    exact nx h (Weak.sel [0,1,3] (L:=[(0,as_ b),(5,.ref 0 0)]) ⟨rfl,rfl,trivial⟩ (by decide) rfl rfl)
   subst t
   replace h:=Y1g rfl h
   have j:=(hk 3 41 rfl).ret (b,l,e,g,i,d,a) D rfl rfl
   simp only[G1a,G0v]at j
   have u:Q4u O [V6 b l d.length a.length e g i,rTo d,rSt a] 41 [.ref 0 0]=some (Q6w [ab y],[V6 b z o.length a.length e A C,rTo o,rSt a]):=Z2y rfl rfl rfl j rfl rfl rfl
   refine rg hS [0,5] (di1 (ap0 41 hpf u)) ?_
   exact nx h
  refine seq (Ua1 h [0,5,81] (Zt2 hk 4 rfl) λK h=>?_)
  refine iz h (λh=>?_) λh=>?_
  ·obtain⟨⟨M,N,P,Q,S,T⟩,p,h⟩:=oc h (Z7 hk 5 rfl)
   replace p:=cd p
   try simp only[PVE]at p
   refine rg hS [0,5] (di1 p) ?_
   exact nx h
  obtain⟨⟨U,V,W,Y,aa⟩,q,h⟩:=oc h (Z7 hk 6 rfl)
  replace q:=cd q
  try simp only[PVE]at q
  refine rg hS [0,5] (di1 q) ?_
  exact nx h
 refine exit (seq ?_)
 apply dgk mixed hS [2,3,4] (ordp hpf (by kernel_rfl))
 ·exact di
 exact Rf h
theorem Y6z(c:AllG env [S72]):Q0c env S46:=by
 refine hd c (fnq func46) 59 ?_
 rintro O X hS hX hpf hk ⟨b,a⟩ (r:(List Str)) (h:F46 b a=some r)
 refine gs ?_
 rw[F46]at h
 refine R [0,1] ?_
 obtain⟨x,f6,h⟩:=oc h λ_=>Y5j
 have p:=J0f (H:=[]) (k1:=.i64) (k2:=.i64) T_42 T_9 (G5d f6.1) (G5d f6.2) (by decide)
 refine seq (reg hS [(0,as_ b),(1,vTo a),(5,.vec 0 (List.length (List.replicate (Int.toNat (a.length:Int)) ([]:Str))))] [.row 9 1 (List.map PV.str (List.replicate (Int.toNat (a.length:Int)) ([]:Str))) false] ?_ ?_)
 ·simp -implicitDefEqProofs only[RUNS,Q1j,Nat.reduceAdd,Nat.reduceLeDiff,Nat.reduceSub,reduceIte,Nat.reduceEqDiff,Nat.reduceLT,reduceCtorEq,Nat.reduceMul,Nat.reduceBEq,Int.reduceEq,Int.reduceToNat,G2g,G2p,if_true,G2v,eq_self,ne_eq,TYS,p,G1z,List.map_replicate]<;>(try simp only[G1v,G1w,G1h])
 refine seq (rg hS [0,1,5,6] di ?_)
 refine weak (Weak.own 6 3 1 (by decide) rfl) ?_
 refine weak (Wq0 (L:=[(0,as_ b),(1,vTo a),(5,.vec 0 (List.length (List.replicate (Int.toNat (a.length:Int)) ([]:Str)))),(6,.vec 1 (List.length ([]:List Int)))]) ⟨rfl,rfl,rfl,rfl,trivial⟩) ?_
 refine seq (R [0,1,5,6,15,16,17] ?_)
 refine block (Lp h (λ(e,f,d)=>⟨sl [(0,as_ b),(1,vTo a),(5,.vec 0 (List.length f)),(6,.vec 1 (List.length d)),(15,vTo a),(16,ai (a.length:Int)),(17,ai e)],59,[.row 9 1 (List.map PV.str f) false,.row 3 1 (List.map (PV.int .i64) d) true]⟩) ?_)
 clear h
 rintro⟨e,f,d⟩ y h
 rw[Q3k]at h
 try dsimp only at h
 refine AW.st (R [0,1,5,6,15,16,17,18] ?_)
 refine seq (iz h (λh=>?_) λh=>?_)
 ·obtain⟨q,l,h⟩:=oc h λ_=>Q0m
  refine skip (seq ?_)
  refine block (seq ?_)
  refine rg hS [0,1,5,6,7,8,15,16,17] (di1 (an l.1 l.2.1)) ?_
  refine R [0,1,5,6,7,8,15,16,17,23] ?_
  refine block (R [0,1,5,6,7,8,15,16,17,23,24] ?_)
  refine iz h (λh=>?_) λh=>?_
  ·replace h:=ap (PV.int .i64) h;obtain⟨z,t,h⟩:=h
   refine rg hS [0,1,5,6,15,16,17] (di1 t) ?_
   refine G [0,1,5,6,15,16,17] ?_
   exact nx h
  refine R [0,1,5,6,8,15,16,17,30] ?_
  refine ik h (λh=>?_) λh=>?_
  ·refine R [0,1,5,6,9,15,16,17] ?_
   refine seq (R [0,1,5,9,15,16,17,35,36,37] ?_)
   refine block (Lp h (λ(m,n,g)=>⟨sl [(0,as_ b),(1,vTo a),(5,.vec 0 (List.length g)),(9,ai m),(15,vTo a),(16,ai (a.length:Int)),(17,ai e),(35,.vec 1 (List.length d)),(36,ai (d.length:Int)),(37,ai n)],59,[.row 9 1 (List.map PV.str g) false,.row 3 1 (List.map (PV.int .i64) d) true,V7 q]⟩) ?_)
   clear h
   rintro⟨m,n,g⟩ A h
   rw[Z9p]at h
   try dsimp only at h
   refine AW.st (R [0,1,5,9,15,16,17,35,36,37,38] ?_)
   refine seq (iz h (λh=>?_) λh=>?_)
   ·obtain⟨C,i,h⟩:=oc h λ_=>Q0m
    refine skip (seq ?_)
    refine block (seq ?_)
    refine rg hS [0,1,5,9,11,15,16,17,35,36,37] (di1 (an i.1 (an i.2.1 i.2.2))) ?_
    obtain⟨D,o,h⟩:=oc h λ_=>Q0m
    obtain⟨⟨E,F,I⟩,u,h⟩:=oc h (Zt3 hk 0 rfl)
    obtain⟨J,j,h⟩:=oc h λ_=>Q0m
    refine rg hS [0,1,5,9,15,16,17,35,36,37] (di1 (an o.1 (an o.2.1 (an (ca u) (an j.1 (an j.2.1 j.2.2)))))) ?_
    refine G [0,1,5,9,15,16,17,35,36,37] ?_
    exact nx h
   refine exit (rg hS [0,1,5,6,15,16,17] di ?_)
   refine weak (Weak.own 6 3 1 (by decide) rfl) ?_
   refine weak (Wq0 (L:=[(0,as_ b),(1,vTo a),(5,.vec 0 (List.length g)),(6,.vec 3 (List.length ([]:List Int))),(15,vTo a),(16,ai (a.length:Int)),(17,ai e)]) ⟨rfl,rfl,rfl,rfl,rfl,rfl,rfl,trivial⟩) ?_
   refine G [0,1,5,6,15,16,17] ?_
   exact nx h (Weak.sel [0,3] (L:=[(0,as_ b),(1,vTo a),(5,.vec 0 (List.length g)),(6,.vec 3 (List.length ([]:List Int))),(15,vTo a),(16,ai (a.length:Int)),(17,ai (IntKind.wrap .i64 (e+1)))]) ⟨rfl,rfl,rfl,rfl,rfl,rfl,rfl,trivial⟩ (by decide) rfl rfl)
  refine G [0,1,5,6,15,16,17] ?_
  exact nx h
 refine exit (R [4] ?_)
 refine weak (Weak.freeze 0 rfl) ?_
 refine weak (σ':=⟨sl [(4,.vec 0 (List.length f))],59,[rSt f,.row 3 1 (List.map (PV.int .i64) d) true]⟩) (Wq0 ⟨rfl,trivial⟩) ?_
 exact Rf h
end Go.Abs.U48
