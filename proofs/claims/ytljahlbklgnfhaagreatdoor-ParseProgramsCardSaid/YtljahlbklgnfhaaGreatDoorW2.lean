import Derived.Test.YtljahlbklgnfhaaGreatDoorD1
set_option linter.unusedVariables false
set_option linter.unusedSimpArgs false
set_option maxRecDepth 8000
set_option maxHeartbeats 4000000
namespace Go.Abs.U48
open Go.RowKit Go.Proofs AW
theorem Y1e(c:AllG env [Q0z,X0d]):Q0c env S78:=by
 refine hd c Y3p 43 λO X hS hX hpf hk ⟨a,o,f,g,i,l,m,d,b⟩=>λr (h:F78 a o f g i l m d b=some r)=>gs ?_
 rw[F78]at h
 refine R [0,2,4] ?_
 obtain⟨u,j,h⟩:=oc h λ_ q=>Q1x (Q0d q)
 try simp only[NRM,Int.reduceToNat]at j
 obtain⟨w,n,h⟩:=obs h
 replace n:=Q0d n
 have p:=λx=>(hk 0 40 rfl).ret (([36,96]:Str),u) (n x) rfl rfl
 try simp only[PVE]at p
 refine seq (reg hS [(0,.ref 0 0),(2,ab o),(4,.ref 3 0),(7,ab (decide (a.kind_=1)||((decide (a.kind_=2)&&!decide (a.text_=[]))&&decide (0<=w))))] [V0 f g d.length b.length i l m,rTo d,rSt b,V1 a] ?_ ?_)
 ·clear h hk hS hX c
  exact dh1 (an j.1 (an j.2.1 (an j.2.2 (ap1 40 hpf p))))
 refine seq (seq ?_)
 rcases bs h with⟨e,h⟩|⟨e,h⟩
 ·try simp only[G0k,G1x]at e
  obtain⟨⟨y,z,s,t⟩,k,h⟩:=oc h (Z8 hk 1 rfl)
  replace k:=cd k
  try simp only[PVE]at k
  refine reg hS [(0,.ref 0 0),(4,.ref 3 0),(39,ab (!y))] [V0 f g t.length b.length i z s,rTo t,rSt b,V1 a] ?_ ?_
  ·clear h hk hS hX c
   exact dh1 (an e k)
  refine ik h (λh=>?_) λh=>?_
  ·exact Rt h [6]
  refine seq (Ua4 h [6] (Z8 hk 1 rfl) λA C D E h=>?_)
  exact Rf h
 try simp only[G0k,G1x]at e
 refine reg hS [(0,.ref 0 0),(4,.ref 3 0),(39,ab false)] [V0 f g d.length b.length i l m,rTo d,rSt b,V1 a] ?_ ?_
 ·clear h hk hS hX c
  exact dh1 e
 refine cF (skip (seq ?_))
 refine Ua4 h [6] (Z8 hk 1 rfl) λF s H I h=>?_
 exact Rf h
theorem V0s(c:AllG env []):Q0c env S126:=by
 refine hd c V5h 33 ?_
 rintro O X hS hX hpf hk (a:Int) (r:Bool) (h:F126 a=some r)
 refine gs ?_
 rw[F126]at h
 refine R [0] ?_
 refine seq (reg hS [(2,ab (((((decide (97<=a)&&decide (a<=122))||(decide (65<=a)&&decide (a<=90)))||(decide (48<=a)&&decide (a<=57)))||decide (a=95))||decide (a=42)))] [] ?_ ?_)
 ·clear h hk hS hX c
  exact dh
 exact Rf h
theorem Y1d(c:AllG env [S126,J3j,Z1u,X0d]):Q0c env S79:=by
 refine hd c Y3o 65 λO X hS hX hpf hk ⟨e,i,j,k,l,b,d⟩=>λr (h:F79 e i j k l b d=some r)=>gs ?_
 rw[F79]at h
 refine R [0] ?_
 refine R [0,3] ?_
 refine seq (block ?_)
 refine Lp h (λf=>⟨sl [(0,.ref 0 0),(3,ai i)],65,[V0 e f b.length d.length j k l,rTo b,rSt d]⟩) ?_
 clear h
 rintro f m16 h
 rw[Z6y]at h
 try dsimp only at h
 obtain⟨s,m,h⟩:=oc h λ_ q=>Q1x (Q0d q)
 obtain⟨t,n,h⟩:=obs h
 replace n:=Q0d n
 have u:=λw=>(hk 0 126 rfl).ret s (n w) rfl rfl
 refine AW.st (seq ?_)
 refine seq (dreg mixed hS (ordp hpf (by kernel_rfl)) [(0,.ref 0 0),(3,ai i),(30,ab (decide (f<(e.length:Int))&&t))] [V0 e f b.length d.length j k l,rTo b,rSt d] ?_ ?_)
 ·clear h hk hS hX c
  exact dh1 (an m.1 (an m.2.1 (an m.2.2 (ap1 126 hpf u))))
 refine iz h (λh=>?_) λh=>?_
 ·refine skip (block ?_)
  refine G [0,3] ?_
  exact nx h
 refine exit (seq ?_)
 refine R [0,3,43] ?_
 refine ik h (λh=>?_) λh=>?_
 ·refine seq (Ua3 h [2] (Z9 hk 1 rfl) λy z A h=>?_)
  exact Rf h
 refine seq ?_
 obtain⟨t31,a,h⟩:=oc h λ_=>Q0r
 try simp only[NRM,Int.reduceToNat]at a
 have o:=a.2.2.2.2
 try simp only[NRM,Int.reduceToNat]at o
 have p:=a.2.2.1
 try simp only[NRM,Int.reduceToNat]at p
 apply dgk mixed hS [0,3,4] (ordp hpf (by kernel_rfl))
 ·exact di1 (an a.1 (an a.2.1 (an p (an a.2.2.2.1 o))))
 obtain⟨C,g,h⟩:=oc h (Zt2 hk 2 rfl)
 replace g:=ca g
 try simp only[PVE]at g
 obtain⟨⟨D,E,F,H⟩,x,h⟩:=oc h (Z8 hk 3 rfl)
 refine seq (rg hS [2] (di1 (an g (cd x))) ?_)
 exact Rf h
theorem Y1z(c:AllG env [S76,S77,S78,S79,X8n]):Q0c env S44:=by
 refine hd c Y4n 64 λO X hS hX hpf hk ⟨e,f,g,j,k,l,a⟩=>λr (h:F44 e f g j k l a=some r)=>gs ?_
 rw[F44]at h
 refine R [0] ?_
 refine R [0,3] ?_
 refine seq (Ua1 h [0,3,4] (Z7 hk 0 rfl) λp h=>?_)
 refine seq (Ua4 h [0,3,4,5,6] (Z7 hk 1 rfl) λb q s t h=>?_)
 refine seq (R [0,3,4,5,21] ?_)
 refine ik h (λh=>?_) λh=>?_
 ·exact Rt h [2]
 refine seq (R [0,3,4,5,23] ?_)
 refine ik h (λh=>?_) λh=>?_
 ·refine R [0,3,4,5] ?_
  refine seq (seq ?_)
  refine Ua4 h [0,5,39] (Z9 hk 2 rfl) λu m n i h=>?_
  refine ik h (λh=>?_) λh=>?_
  ·exact Rt h [2]
  refine seq (seq ?_)
  refine reg hS [(0,.ref 0 0),(45,ab (decide (b=[36])||decide (b=[36,35])))] [V0 e (IntKind.wrap .i64 (f+(b.length:Int))) i.length a.length g m n,rTo i,rSt a] ?_ ?_
  ·clear h hk hS hX c
   exact dh
  refine ik h (λh=>?_) λh=>?_
  ·refine seq (Ua5 h [2] (Z7 hk 3 rfl) λw x y z A h=>?_)
   exact Rf h
  exact Rt h [2]
 refine seq (Ua6 h [0,3,4,6,7,8] (Z7 hk 4 rfl) λC D E F H I h=>?_)
 refine seq ?_
 rcases bs h with⟨d,h⟩|⟨d,h⟩
 ·obtain⟨⟨J,K,L,M⟩,o,h⟩:=oc h (Z9 hk 2 rfl)
  exact rg hS [2] (di1 (an d (cd o))) (Rf h)
 exact rg hS [2] (di1 d) (Rf h)
theorem Y2n(c:AllG env [X8p,J3k,Q0z,K4i,S42,K4h,S44]):Q0c env S19:=by
 refine hd c Y5c 94 ?_
 rintro O X hS hX hpf hk (b:Str) (r:(List Token)×Int×Int) (h:F19 b=some r)
 refine gs ?_
 rw[F19]at h
 refine R [0] ?_
 refine seq (R [0,10] ?_)
 refine ik h (λh=>?_) λh=>?_
 ·exact Rt h [2,3,4]
 refine seq (AW.after ?_)
 refine rg hS [0,5] di ?_
 refine o2 (oC Token.pv 0 2 87 4 ?_)
 refine oC PV.str 0 3 9 1 ?_
 refine seq (block ?_)
 refine Lp h (λ(e,o,g,i,d,a)=>⟨sl [(0,as_ b),(5,.ref 0 0)],94,[V0 b e d.length a.length o g i,rTo d,rSt a]⟩) ?_
 clear h
 rintro⟨e,o,g,i,d,a⟩ x h
 rw[Z4c]at h
 try dsimp only at h
 refine AW.st (seq ?_)
 refine R [0,5,18] ?_
 refine iz h (λh=>?_) λh=>?_
 ·refine skip (block ?_)
  refine R [0,5] ?_
  refine seq (Ua1 h [0,5] (Z7 hk 0 rfl) λk h=>?_)
  refine seq (Ua1 h [0,5,6] (Z7 hk 1 rfl) λy h=>?_)
  refine block (R [0,5,6,32] ?_)
  refine iz h (λh=>?_) λh=>?_
  ·refine seq (R [0,5,40] ?_)
   refine ik h (λh=>?_) λh=>?_
   ·exact Rt h [2,3,4]
   exact Rt h [2,3,4]
  obtain⟨z,f,h⟩:=oc h λ_=>Q1y
  try simp only[NRM,Int.reduceToNat]at f
  refine seq (rg hS [0,5,6,47] (di1 (an f.1 (an f.2.1 f.2.2))) ?_)
  refine iz h (λh=>?_) λh=>?_
  ·refine R [0,5,6] ?_
   refine seq (Ua1 h [0,5,6,7] (Zt2 hk 2 rfl) λA h=>?_)
   refine R [0,5,6,7,63] ?_
   refine ik h (λh=>?_) λh=>?_
   ·refine G [0,5] ?_
    exact nx h
   exact nx h
  refine srg hS [0,5,6,75] (di1 (an f.1 (an f.2.1 f.2.2))) ?_
  refine iz h (λh=>?_) λh=>?_
  ·obtain⟨⟨w,p,q,s,t,l⟩,u,h⟩:=obs h
   dsimp only at h
   refine AW.cases (w) (λm=>?_) (λm=>?_)
   ·subst m
    replace h:=K3z rfl h
    have j:=(hk 3 41 rfl).ret (b,k,e,g,i,d,a) u rfl rfl
    simp only[G4y,G5q]at j
    have n:Q0x O [V0 b k d.length a.length e g i,rTo d,rSt a] 41 [.ref 0 0]=some (Q1c [ab p],[V3 b q l.length e s t,rTo l,rSt a]):=Q0k rfl rfl rfl j rfl rfl rfl
    refine AW.after ?_
    refine rg hS [0,5] (di1 (ap0 41 hpf n)) ?_
    refine oC PV.str 0 3 9 1 ?_
    exact nx h (Weak.sel [0,1,3] (L:=[(0,as_ b),(5,.ref 0 0)]) ⟨rfl,rfl,trivial⟩ (by decide) rfl rfl)
   subst m
   replace h:=K4a rfl h
   have j:=(hk 3 41 rfl).ret (b,k,e,g,i,d,a) u rfl rfl
   simp only[G4y,G5q]at j
   have n:Q0x O [V0 b k d.length a.length e g i,rTo d,rSt a] 41 [.ref 0 0]=some (Q1c [ab p],[V0 b q l.length a.length e s t,rTo l,rSt a]):=Q0k rfl rfl rfl j rfl rfl rfl
   refine rg hS [0,5] (di1 (ap0 41 hpf n)) ?_
   exact nx h
  refine seq (Ua1 h [0,5,81] (Zt2 hk 4 rfl) λC h=>?_)
  refine iz h (λh=>?_) λh=>?_
  ·refine Ua6 h [0,5] (Z7 hk 5 rfl) λD E F H I J h=>?_
   exact nx h
  refine Ua5 h [0,5] (Z7 hk 6 rfl) λK M N P Q h=>?_
  exact nx h
 refine exit (seq ?_)
 apply dgk mixed hS [2,3,4] (ordp hpf (by kernel_rfl))
 ·exact di
 exact Rf h
theorem Y1y(c:AllG env [S72]):Q0c env S46:=by
 refine hd c Y4m 59 ?_
 rintro O X hS hX hpf hk ⟨b,a⟩ (r:(List Str)) (h:F46 b a=some r)
 refine gs ?_
 rw[F46]at h
 refine R [0,1] ?_
 obtain⟨u,k,h⟩:=oc h λ_=>K6i
 have p:=Q9v (H:=[]) (k1:=.i64) (k2:=.i64) T_42 T_9 (G4r k.1) (G4r k.2) (by decide)
 refine seq (reg hS [(0,as_ b),(1,vTo a),(5,.vec 0 (List.length (List.replicate (Int.toNat (a.length:Int)) ([]:Str))))] [.row 9 1 (List.map PV.str (List.replicate (Int.toNat (a.length:Int)) ([]:Str))) false] ?_ ?_)
 ·simp -implicitDefEqProofs only[RUNS,Q1d,Nat.reduceAdd,Nat.reduceLeDiff,Nat.reduceSub,reduceIte,Nat.reduceEqDiff,Nat.reduceLT,reduceCtorEq,Nat.reduceMul,Nat.reduceBEq,Int.reduceEq,Int.reduceToNat,G1r,G2b,if_true,G2i,eq_self,ne_eq,TYS,p,G1w,List.map_replicate]<;>(try simp only[G1h,G0p,G1m])
 refine seq (rg hS [0,1,5,6] di ?_)
 refine weak (Weak.own 6 3 1 (by decide) rfl) ?_
 refine weak (Weak.slots (L:=[(0,as_ b),(1,vTo a),(5,.vec 0 (List.length (List.replicate (Int.toNat (a.length:Int)) ([]:Str)))),(6,.vec 1 (List.length ([]:List Int)))]) ⟨rfl,rfl,rfl,rfl,trivial⟩) ?_
 refine seq (R [0,1,5,6,15,16,17] ?_)
 refine block (Lp h (λ(e,f,d)=>⟨sl [(0,as_ b),(1,vTo a),(5,.vec 0 (List.length f)),(6,.vec 1 (List.length d)),(15,vTo a),(16,ai (a.length:Int)),(17,ai e)],59,[.row 9 1 (List.map PV.str f) false,.row 3 1 (List.map (PV.int .i64) d) true]⟩) ?_)
 clear h
 rintro⟨e,f,d⟩ w h
 rw[Q8y]at h
 try dsimp only at h
 refine AW.st (R [0,1,5,6,15,16,17,18] ?_)
 refine seq (iz h (λh=>?_) λh=>?_)
 ·obtain⟨q,l,h⟩:=oc h λ_=>Q0l
  refine skip (seq ?_)
  refine block (seq ?_)
  refine rg hS [0,1,5,6,7,8,15,16,17] (di1 (an l.1 l.2.1)) ?_
  refine R [0,1,5,6,7,8,15,16,17,23] ?_
  refine block (R [0,1,5,6,7,8,15,16,17,23,24] ?_)
  refine iz h (λh=>?_) λh=>?_
  ·replace h:=ap (PV.int .i64) h;obtain⟨x,s,h⟩:=h
   refine rg hS [0,1,5,6,15,16,17] (di1 s) ?_
   refine G [0,1,5,6,15,16,17] ?_
   exact nx h
  refine R [0,1,5,6,8,15,16,17,30] ?_
  refine ik h (λh=>?_) λh=>?_
  ·refine R [0,1,5,6,9,15,16,17] ?_
   refine seq (R [0,1,5,9,15,16,17,35,36,37] ?_)
   refine block (Lp h (λ(m,n,g)=>⟨sl [(0,as_ b),(1,vTo a),(5,.vec 0 (List.length g)),(9,ai m),(15,vTo a),(16,ai (a.length:Int)),(17,ai e),(35,.vec 1 (List.length d)),(36,ai (d.length:Int)),(37,ai n)],59,[.row 9 1 (List.map PV.str g) false,.row 3 1 (List.map (PV.int .i64) d) true,V1 q]⟩) ?_)
   clear h
   rintro⟨m,n,g⟩ y h
   rw[Z3z]at h
   try dsimp only at h
   refine AW.st (R [0,1,5,9,15,16,17,35,36,37,38] ?_)
   refine seq (iz h (λh=>?_) λh=>?_)
   ·obtain⟨z,i,h⟩:=oc h λ_=>Q0l
    refine skip (seq ?_)
    refine block (seq ?_)
    refine rg hS [0,1,5,9,11,15,16,17,35,36,37] (di1 (an i.1 (an i.2.1 i.2.2))) ?_
    obtain⟨A,o,h⟩:=oc h λ_=>Q0l
    obtain⟨⟨C,D,E⟩,t,h⟩:=oc h (Zt3 hk 0 rfl)
    obtain⟨F,j,h⟩:=oc h λ_=>Q0l
    refine rg hS [0,1,5,9,15,16,17,35,36,37] (di1 (an o.1 (an o.2.1 (an (ca t) (an j.1 (an j.2.1 j.2.2)))))) ?_
    refine G [0,1,5,9,15,16,17,35,36,37] ?_
    exact nx h
   refine exit (rg hS [0,1,5,6,15,16,17] di ?_)
   refine weak (Weak.own 6 3 1 (by decide) rfl) ?_
   refine weak (Weak.slots (L:=[(0,as_ b),(1,vTo a),(5,.vec 0 (List.length g)),(6,.vec 3 (List.length ([]:List Int))),(15,vTo a),(16,ai (a.length:Int)),(17,ai e)]) ⟨rfl,rfl,rfl,rfl,rfl,rfl,rfl,trivial⟩) ?_
   refine G [0,1,5,6,15,16,17] ?_
   exact nx h (Weak.sel [0,3] (L:=[(0,as_ b),(1,vTo a),(5,.vec 0 (List.length g)),(6,.vec 3 (List.length ([]:List Int))),(15,vTo a),(16,ai (a.length:Int)),(17,ai (IntKind.wrap .i64 (e+1)))]) ⟨rfl,rfl,rfl,rfl,rfl,rfl,rfl,trivial⟩ (by decide) rfl rfl)
  refine G [0,1,5,6,15,16,17] ?_
  exact nx h
 refine exit (R [4] ?_)
 refine weak (Weak.freeze 0 rfl) ?_
 refine weak (σ':=⟨sl [(4,.vec 0 (List.length f))],59,[rSt f,.row 3 1 (List.map (PV.int .i64) d) true]⟩) (Weak.slots ⟨rfl,trivial⟩) ?_
 exact Rf h
theorem Y0z(c:AllG env []):Q0c env S84:=by
 refine hd c Y3j 30 λO X hS hX hpf hk ⟨b,d,e,f,g⟩=>λr (h:F84 b d e f g=some r)=>gs ?_
 rw[F84]at h
 refine R [0,1,4] ?_
 refine seq (seq ?_)
 apply dgk mixed hS [0,1,4,16] (ordp hpf (by kernel_rfl))
 ·exact di
 refine ik h (λh=>?_) λh=>?_
 ·exact Rt h [4]
 refine seq ?_
 obtain⟨i,a,h⟩:=oc h λ_=>Q0l
 apply dgB mixed hS [(4,some 1),(28,none)] [4] rfl (ordB hpf (B:=[(4,some 1),(28,none)]) (by kernel_rfl))
 ·exact di1 (an a.1 a.2.1)
 exact Rf h
theorem V0q(c:AllG env []):Q0c env S128:=by
 refine hd c V5f 14 λO X hS hX hpf hk ⟨a,b⟩=>λr (h:F128 a b=some r)=>gs ?_
 rw[F128]at h
 refine R [1,2] ?_
 refine seq (reg hS [(4,ab (decide (a.kind_=2)&&decide (a.text_=b)))] [V1 a] ?_ ?_)
 ·clear h hk hS hX c
  exact dh
 exact Rf h
theorem V0r(c:AllG env [S84,S128]):Q0c env S127:=by
 refine hd c V5g 9 λO X hS hX hpf hk ⟨a,b,d,e,f⟩=>λr (h:F127 a b d e f=some r)=>gs ?_
 rw[F127]at h
 refine R [0,1] ?_
 obtain⟨j,g,h⟩:=oc h (Z5 hk 0 rfl)
 obtain⟨k,i,h⟩:=oc h (Zt2 hk 1 rfl)
 refine seq (rg hS [4] (di1 (an (cb g) (ca i))) ?_)
 exact Rf h
theorem Y1c(c:AllG env [S84,S127]):Q0c env S80:=by
 refine hd c Y3n 29 λO X hS hX hpf hk ⟨e,f,g,i⟩=>λr (h:F80 e f g i=some r)=>gs ?_
 rw[F80]at h
 refine R [0] ?_
 refine R [0,3] ?_
 refine seq (block ?_)
 refine Lp h (λj=>⟨sl [(0,.ref 0 0),(3,ai i)],29,[V4 e f g j]⟩) ?_
 clear h
 rintro j l h
 rw[Z6x]at h
 try dsimp only at h
 obtain⟨m,k,h⟩:=oc h (Z5 hk 0 rfl)
 refine AW.st (seq ?_)
 refine seq ?_
 rcases bs h with⟨d,h⟩|⟨d,h⟩
 ·refine rg hS [0,3,15] (di1 (an (cb k) d)) ?_
  refine cond (b:=true) rfl (λ_=>?_) (λhb=>absurd hb (by decide))
  refine skip (block ?_)
  refine G [0,3] ?_
  exact nx h
 obtain⟨n,a,h⟩:=oc h (Z5 hk 1 rfl)
 replace a:=cb a
 try simp only[PVE]at a
 refine rg hS [0,3,15] (di1 (an (cb k) (an d a))) ?_
 refine iz h (λh=>?_) λh=>?_
 ·refine skip (block ?_)
  refine G [0,3] ?_
  exact nx h
 exact exit (Rt h [2])
theorem V0m(c:AllG env [Q0z]):Q0c env S133:=by
 refine hd c V5a 12 ?_
 rintro O X hS hX hpf hk (a:Token) (r:Bool) (h:F133 a=some r)
 refine gs ?_
 rw[F133]at h
 refine R [1] ?_
 obtain⟨d,b,h⟩:=obs h
 replace b:=Q0d b
 have e:=λf=>(hk 0 40 rfl).ret (a.quoted_,49) (b f) rfl rfl
 refine seq (reg hS [(2,ab (decide (a.kind_=1)&&decide (d<0)))] [V1 a] ?_ ?_)
 ·clear h hk hS hX c
  exact dh1 (ap1 40 hpf e)
 exact Rf h
theorem V0l(c:AllG env [Q0z,Z3u]):Q0c env S134:=by
 refine hd c V4z 16 ?_
 rintro O X hS hX hpf hk (a:Str) (r:Bool) (h:F134 a=some r)
 have j:O.pf 40=true:=pft hpf 40 rfl
 refine gs ?_
 rw[F134]at h
 refine R [0] ?_
 obtain⟨k,b,h⟩:=obs h
 replace b:=Q0d b
 have l:=λd=>(hk 0 40 rfl).ret (a,32) (b d) rfl rfl
 obtain⟨o,e,h⟩:=oc h λ_ q=>K0e (Q0d q)
 try simp only[LNS,G1w,Nat.reduceAdd,Nat.reduceLeDiff,G2j,Nat.reduceMul]at e
 obtain⟨m,f,h⟩:=oc h λ_ q=>K0e (Q0d q)
 try simp only[LNS,G1w,Nat.reduceAdd,Nat.reduceLeDiff,G2j,Nat.reduceMul]at f
 obtain⟨n,g,h⟩:=obs h
 replace g:=Q0d g
 have i:=λd=>(hk 1 169 rfl).ret (([32,105,102,32,110,111,116,32,119,104,105,108,101,32,102,111,114,32,105,110,32,115,119,105,116,99,104,32,99,97,115,101,32,102,110,32,126,32]:Str),m) (g d) rfl rfl
 try simp only[PVE]at i
 refine seq (reg hS [(2,ab ((!decide (a=[])&&decide (k<0))&&n))] [] ?_ ?_)
 ·clear h hk hS hX c
  exact dh1 (an j (an l (an e.1 (an e.2 (an f.1 (an f.2 (ap1 169 hpf i)))))))
 exact Rf h
theorem Y1a(c:AllG env [S133,S134]):Q0c env S83:=by
 refine hd c Y3k 12 ?_
 rintro O X hS hX hpf hk (a:Token) (r:Str) (h:F83 a=some r)
 refine gs ?_
 rw[F83]at h
 refine R [1] ?_
 obtain⟨d,e,h⟩:=oc h (Zt hk 0 133 a)
 obtain⟨f,b,h⟩:=obs h
 replace b:=Q0d b
 have g:=λi=>(hk 1 134 rfl).ret a.text_ (b i) rfl rfl
 refine seq (seq ?_)
 refine reg hS [(1,.ref 0 0),(9,ab (d&&f))] [V1 a] ?_ ?_
 ·clear h hk hS hX c
  exact dh1 (an (ca e) (ap1 134 hpf g))
 refine ik h (λh=>?_) λh=>?_
 ·exact Rt h [2]
 exact Rt h [2]
theorem V0p(c:AllG env [S128]):Q0c env S129:=by
 refine hd c V5e 20 ?_
 rintro O X hS hX hpf hk (a:Token) (r:Bool) (h:F129 a=some r)
 have l:O.pf 128=true:=pft hpf 128 rfl
 refine gs ?_
 rw[F129]at h
 refine R [1] ?_
 refine seq (R [1,5] ?_)
 refine ik h (λh=>?_) λh=>?_
 ·exact Rt h [2]
 obtain⟨m,d,h⟩:=oc h (Zt2 hk 0 rfl)
 replace d:=ca d
 try simp only[PVE]at d
 obtain⟨n,e,h⟩:=obs h
 replace e:=Q0d e
 have i:=λb=>(hk 0 128 rfl).ret (a,([36,35]:Str)) (e b) rfl rfl
 try simp only[PVE]at i
 obtain⟨o,f,h⟩:=obs h
 replace f:=Q0d f
 have j:=λb=>(hk 0 128 rfl).ret (a,([40]:Str)) (f b) rfl rfl
 try simp only[PVE]at j
 obtain⟨p,g,h⟩:=obs h
 replace g:=Q0d g
 have k:=λb=>(hk 0 128 rfl).ret (a,([96]:Str)) (g b) rfl rfl
 try simp only[PVE]at k
 refine seq (reg hS [(2,ab (((m||n)||o)||p))] [V1 a] ?_ ?_)
 ·clear h hk hS hX c
  exact dh1 (an l (an d (an i (an j k))))
 exact Rf h
theorem V0o(c:AllG env []):Q0c env S130:=by
 refine hd c V5d 23 ?_
 rintro O X hS hX hpf hk (a:Token) (r:Bool) (h:F130 a=some r)
 refine gs ?_
 rw[F130]at h
 refine R [1] ?_
 obtain⟨c3,b,h⟩:=oc h λ_ q=>Q1x (Q0d q)
 try simp only[NRM,Int.reduceToNat]at b
 refine seq (reg hS [(2,ab (decide (a.kind_=4)||(decide (a.kind_=2)&&(decide (c3=60)||decide (c3=62)))))] [V1 a] ?_ ?_)
 ·clear h hk hS hX c
  exact dh1 (an b.1 (an b.2.1 b.2.2))
 exact Rf h
theorem Y1b(c:AllG env [S84,S83,S128,S129,S130]):Q0c env S81:=by
 refine hd c Y3m 38 λO X hS hX hpf hk ⟨I,d,e,f,g⟩=>λr (h:F81 I d e f g=some r)=>?_
 have w:O.pf 83=true:=pft hpf 83 rfl
 have x:O.pf 128=true:=pft hpf 128 rfl
 have y:O.pf 130=true:=pft hpf 130 rfl
 refine gs ?_
 rw[F81]at h
 refine R [0,1] ?_
 refine seq (Ua1 h [0,1,5] (Z5 hk 0 rfl) λb h=>?_)
 obtain⟨ac,l,h⟩:=obs h
 replace l:=Q0d l
 have z:=λa=>(hk 1 83 rfl).ret b (l a) rfl rfl
 refine seq (seq ?_)
 rcases bs h with⟨i,h⟩|⟨i,h⟩
 ·try simp only[G0k,G1x]at i
  obtain⟨J,K,h⟩:=oc h (Z5 hk 0 rfl)
  obtain⟨m,j,h⟩:=obs h
  have k:=(hk 2 128 rfl).ret (J,([61]:Str)) j rfl rfl
  try simp only[PVE]at k
  refine reg hS [(5,.ref 1 0),(19,ab (!m))] [V4 d e f g,V1 b] ?_ ?_
  ·clear h hk hS hX c
   exact dh1 (an w (an z (an i (an (cb K) (ap1 128 hpf k)))))
  refine ik h (λh=>?_) λh=>?_
  ·exact Rt h [4]
  obtain⟨L,M,h⟩:=oc h (Zt hk 3 129 b)
  obtain⟨N,n,h⟩:=obs h
  replace n:=Q0d n
  have P:=λa=>(hk 4 130 rfl).ret b (n a) rfl rfl
  obtain⟨Q,o,h⟩:=obs h
  replace o:=Q0d o
  have A:=λa=>(hk 2 128 rfl).ret (b,([33]:Str)) (o a) rfl rfl
  try simp only[PVE]at A
  obtain⟨S,p,h⟩:=obs h
  replace p:=Q0d p
  have C:=λa=>(hk 2 128 rfl).ret (b,([64]:Str)) (p a) rfl rfl
  try simp only[PVE]at C
  obtain⟨T,q,h⟩:=obs h
  replace q:=Q0d q
  have D:=λa=>(hk 2 128 rfl).ret (b,([123]:Str)) (q a) rfl rfl
  try simp only[PVE]at D
  refine seq (reg hS [(4,ab ((((L||N)||Q)||S)||T))] [V4 d e f g,V1 b] ?_ ?_)
  ·clear h hk hS hX c
   exact dh1 (an (ca M) (an y (an P (an x (an A (an C D))))))
  exact Rf h
 try simp only[G0k,G1x]at i
 refine reg hS [(5,.ref 1 0),(19,ab false)] [V4 d e f g,V1 b] ?_ ?_
 ·clear h hk hS hX c
  exact dh1 (an w (an z i))
 refine cF ?_
 obtain⟨U,V,h⟩:=oc h (Zt hk 3 129 b)
 obtain⟨m,j,h⟩:=obs h
 replace j:=Q0d j
 have k:=λa=>(hk 4 130 rfl).ret b (j a) rfl rfl
 obtain⟨W,s,h⟩:=obs h
 replace s:=Q0d s
 have E:=λa=>(hk 2 128 rfl).ret (b,([33]:Str)) (s a) rfl rfl
 try simp only[PVE]at E
 obtain⟨Y,t,h⟩:=obs h
 replace t:=Q0d t
 have F:=λa=>(hk 2 128 rfl).ret (b,([64]:Str)) (t a) rfl rfl
 try simp only[PVE]at F
 obtain⟨aa,u,h⟩:=obs h
 replace u:=Q0d u
 have H:=λa=>(hk 2 128 rfl).ret (b,([123]:Str)) (u a) rfl rfl
 try simp only[PVE]at H
 refine skip (seq ?_)
 refine reg hS [(4,ab ((((U||m)||W)||Y)||aa))] [V4 d e f g,V1 b] ?_ ?_
 ·clear h hk hS hX c
  exact dh1 (an (ca V) (an y (an k (an x (an E (an F H))))))
 exact Rf h
theorem V0n(c:AllG env [S127]):Q0c env S132:=by
 refine hd c V5b 18 λO X hS hX hpf hk ⟨j,f,g,i,d⟩=>λr (h:F132 j f g i d=some r)=>gs ?_
 rw[F132]at h
 refine R [0,1] ?_
 refine seq (Ua1 h [0,5] (Z5 hk 0 rfl) λa h=>?_)
 refine seqM ⟨sl [(5,ab a)],18,[V4 f g i (bif a then IntKind.wrap .i64 (d+1)else d)]⟩ ?_ ?_
 ·refine R [0,5,9] ?_
  refine cond (b:=a) rfl (λe=>?_) (λe=>?_)
  ·refine G [5] ?_
   exact Weak.of_eq (Weak.slots (L:=[(5,ab a)]) kp) (wq e)
  exact skip (Weak.of_eq (Weak.slots (L:=[(5,ab a)]) kp) (wq e))
 exact Rt h [4]
theorem K9v(c:AllG env [S84]):Q0c env S168:=by
 refine hd c V4g 13 λO X hS hX hpf hk ⟨a,b,d,f⟩=>λr (h:F168 a b d f=some r)=>gs ?_
 rw[F168]at h
 refine block (Lp h (λe=>⟨sl [(0,.ref 0 0)],13,[V4 a b d e]⟩) ?_)
 clear h
 rintro e g h
 rw[Q4j]at h
 try dsimp only at h
 refine AW.st (seq ?_)
 refine seq (Ua1 h [0,5] (Z5 hk 0 rfl) λi h=>?_)
 refine iz h (λh=>?_) λh=>?_
 ·refine skip (block ?_)
  refine G [0] ?_
  exact nx h
 exact ex h
theorem X9t{a:Y0}(c:AllG env [S200 a,S132,S168]):Q0c env (S167 a):=by
 refine hd c V4h 32 λO X hS hX hpf hk ⟨b,d,e,f,l⟩=>λr (h:F167 a b d e f l=some r)=>gs ?_
 rw[F167]at h
 refine R [0,1,4] ?_
 refine seq (xb h (Z5 hk 0 rfl) 2 ?_)
 rintro⟨t,u⟩ m h
 refine rg hS [0,1,4,5] (di1 (cb m)) ?_
 refine seq (block ?_)
 refine Lq r (Z0u d e f a b) (λ(j,i)=>⟨sl [(0,.ref 0 0),(1,ab b),(4,.ref 1 0),(5,.vec 2 (List.length i))],32,[V4 d e f j,V5 0 0 [],rCm i]⟩) ?_ ?_
 ·refine seq (seq ?_)
  refine Ua2 h [0,1,4,5,11] (Z5 hk 1 rfl) λw x h=>?_
  refine iz h (λh=>?_) λh=>?_
  ·refine skip (block ?_)
   refine seq (Ua1 h [0,1,4,5] (Z4 hk 2 rfl) λy h=>?_)
   refine xb h (Z5 hk 0 rfl) 3 ?_
   rintro⟨z,n⟩ o h
   replace h:=ap Cmd.pv h;obtain⟨k,p,h⟩:=h
   refine reg hS [(0,.ref 0 0),(1,ab b),(4,.ref 1 0),(5,.vec 2 (List.length k))] [V4 d e f n,V5 0 0 [],rCm k] (dk1 (an (cb o) p)) ?_
   exact ny h
  refine exit (seq ?_)
  refine R [4,5,22] ?_
  refine ik h (λh=>?_) λh=>?_
  ·exact Rt h [4]
  exact Rt h [4]
 clear h
 rintro⟨j,i⟩ A h
 unfold Z0u at h
 try dsimp only at h
 refine AW.st (seq ?_)
 refine seq (Ua2 h [0,1,4,5,11] (Z5 hk 1 rfl) λC D h=>?_)
 refine iz h (λh=>?_) λh=>?_
 ·refine skip (block ?_)
  refine seq (Ua1 h [0,1,4,5] (Z4 hk 2 rfl) λE h=>?_)
  refine xb h (Z5 hk 0 rfl) 3 ?_
  rintro⟨F,H⟩ q h
  replace h:=ap Cmd.pv h;obtain⟨I,s,h⟩:=h
  refine rg hS [0,1,4,5] (di1 (an (cb q) s)) ?_
  exact nx h
 refine exit (seq ?_)
 refine R [4,5,22] ?_
 refine ik h (λh=>?_) λh=>?_
 ·obtain⟨J,f45,h⟩:=oc h λ_=>Q0l
  try simp only[NRM,Int.reduceToNat]at f45
  refine seq (rg hS [4] (di1 (an f45.1 (an f45.2.1 f45.2.2))) ?_)
  exact Rf h
 obtain⟨K,g,h⟩:=oc h λ_=>Q0l
 try simp only[NRM,Int.reduceToNat]at g
 refine seq (rg hS [4] (di1 (an g.1 (an g.2.1 g.2.2))) ?_)
 exact Rf h
end Go.Abs.U48
