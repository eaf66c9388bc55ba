import Derived.Test.YtljahlbklgnfhaaGreatDoorD1
set_option linter.unusedVariables false
set_option linter.unusedSimpArgs false
set_option maxRecDepth 8000
set_option maxHeartbeats 4000000
namespace Go.Abs.U48
open Go.RowKit Go.Proofs AW
theorem Y2s{i:Y6}{j:Y4}(c:AllG env [S11 i,S27 j]):Q0c env (S11 (F11 i j)):=by
 refine hd c V5q 84 λO X hS hX hpf hk ⟨a,d⟩=>λr (h:F11 i j a d=some r)=>?_
 have s:O.pf 11=true:=pft hpf 11 rfl
 refine gs ?_
 rw[F11]at h
 refine R [0,1] ?_
 refine seq (R [0,1,8,9] ?_)
 refine block (Lp h (λi4=>⟨sl [(0,vC a),(1,vC d),(8,ai (a.length:Int)),(9,ai i4)],84,[]⟩) ?_)
 clear h
 rintro i4 z h
 rw[Z4d]at h
 try dsimp only at h
 refine AW.st (R [0,1,8,9,10] ?_)
 refine seq (iz h (λh=>?_) λh=>?_)
 ·refine skip (seq ?_)
  refine block (R [0,1,5,8,9] ?_)
  obtain⟨e,b,h⟩:=oc h λ_=>Q0l
  obtain⟨k,f,h⟩:=oc h λ_=>Q0l
  obtain⟨t,l,h⟩:=obs h
  replace l:=Q0d l
  have u:=λm=>(hk 0 11 rfl).ret (e.kids_,k.kids_) (l m) rfl rfl
  obtain⟨w,n,h⟩:=obs h
  replace n:=Q0d n
  have x:=λm=>(hk 1 27 rfl).ret (e.words_,k.words_) (n m) rfl rfl
  refine seq (seq ?_)
  refine dreg mixed hS (ordp hpf (by kernel_rfl)) [(0,vC a),(1,vC d),(5,ai i4),(8,ai (a.length:Int)),(9,ai i4),(50,ab ((!decide (e.at_=k.at_)||!t)||!w))] [] ?_ ?_
  ·clear h hk hS hX c
   exact dh1 (an b.1 (an b.2.1 (an f.1 (an f.2.1 (an s (an u (ap1 27 hpf x)))))))
  refine ik h (λh=>?_) λh=>?_
  ·exact Rt h [4]
  refine srg hS [0,1,5,8,9,56,57] (di1 (an b.1 b.2.1)) ?_
  refine block (Lp h (λo=>⟨sl [(0,vC a),(1,vC d),(5,ai i4),(8,ai (a.length:Int)),(9,ai i4),(56,ai (e.redirs_.length:Int)),(57,ai o)],84,[]⟩) ?_)
  clear h
  rintro o A h
  rw[Z9m]at h
  try dsimp only at h
  refine AW.st (R [0,1,5,8,9,56,57,58] ?_)
  refine seq (iz h (λh=>?_) λh=>?_)
  ·refine skip (seq ?_)
   refine block (R [0,1,5,6,8,9,56,57] ?_)
   obtain⟨C,p,h⟩:=oc h λ_=>Q0l
   obtain⟨D,q,h⟩:=oc h λ_=>Q0l
   obtain⟨y,g,h⟩:=oc h (Zt2 hk 1 rfl)
   replace g:=ca g
   try simp only[PVE]at g
   refine seq (dreg mixed hS (ordp hpf (by kernel_rfl)) [(0,vC a),(1,vC d),(5,ai i4),(8,ai (a.length:Int)),(9,ai i4),(56,ai (e.redirs_.length:Int)),(57,ai o),(81,ab (!y))] [] ?_ ?_)
   ·exact dk1 (an b.1 (an b.2.1 (an p.1 (an p.2.1 (an f.1 (an f.2.1 (an q.1 (an q.2.1 g))))))))
   refine ik h (λh=>?_) λh=>?_
   ·exact Rt h [4]
   refine G [0,1,5,8,9,56,57] ?_
   exact nx h
  refine exit (G [0,1,8,9] ?_)
  exact nx h
 exact exit (Rt h [4])
theorem Y2g{b:Y6}{d:Y4}(c:AllG env [S27 d,S11 b]):Q0c env (S27 (F27 b d)):=by
 refine hd c V2e 38 λO X hS hX hpf hk ⟨a,e⟩=>λr (h:F27 b d a e=some r)=>gs ?_
 rw[F27]at h
 refine R [0,1] ?_
 refine seq (R [0,1,7,8] ?_)
 refine block (Lp h (λi4=>⟨sl [(0,vWo a),(1,vWo e),(7,ai (a.length:Int)),(8,ai i4)],38,[]⟩) ?_)
 clear h
 rintro i4 q h
 rw[Z4a]at h
 try dsimp only at h
 refine AW.st (R [0,1,7,8,9] ?_)
 refine seq (iz h (λh=>?_) λh=>?_)
 ·refine skip (seq ?_)
  refine block (R [0,1,5,7,8] ?_)
  obtain⟨j,g,h⟩:=oc h λ_=>Q0l
  obtain⟨k,i,h⟩:=oc h λ_=>Q0l
  obtain⟨l,m,h⟩:=oc h (Zt2 hk 0 rfl)
  obtain⟨n,f,h⟩:=obs h
  replace f:=Q0d f
  have o:=λp=>(hk 1 11 rfl).ret (j.cmd_,k.cmd_) (f p) rfl rfl
  refine seq (dreg mixed hS (ordp hpf (by kernel_rfl)) [(0,vWo a),(1,vWo e),(7,ai (a.length:Int)),(8,ai i4),(36,ab (!l||!n))] [] ?_ ?_)
  ·clear h hk hS hX c
   exact dh1 (an g.1 (an g.2.1 (an i.1 (an i.2.1 (an (ca m) (ap1 11 hpf o))))))
  refine ik h (λh=>?_) λh=>?_
  ·exact Rt h [4]
  refine G [0,1,7,8] ?_
  exact nx h
 exact exit (Rt h [4])
theorem g_F3(c:AllG env [S7 F7,S8,S9,S10 (K10 BIG),S11 (K11 BIG)]):Q0c env S3:=by
 refine hd c fn_3 46 ?_
 rintro O X hS hX hpf hk (b:Str) (r:Bool) (h:F3 b=some r)
 have n:O.pf 10=true:=pft hpf 10 rfl
 have o:O.pf 11=true:=pft hpf 11 rfl
 refine gs ?_
 rw[F3]at h
 refine R [0] ?_
 refine seq (R [0,11] ?_)
 refine ik h (λh=>?_) λh=>?_
 ·obtain⟨z,p,h⟩:=obs h
  have d:=hk 0 7 rfl
  replace d:=d.ret () ((S7_F F7).trans p) rfl rfl
  refine seq (rg hS [2] (di1 (ap1 7 hpf d)) ?_)
  exact Rf h
 refine seq (Ua3 h [0,3,4,5] (Zt hk 1 8 b) λl q s h=>?_)
 refine seq (Ua3 h [3,4,5,6,7,8] (Zt hk 2 9 b) λm t u h=>?_)
 obtain⟨w,e,h⟩:=obs h
 have f:=hk 3 10 rfl
 replace e:=Q0d e
 replace f:=λa=>f.ret (l,m) (e a) rfl rfl
 obtain⟨x,g,h⟩:=obs h
 have i:=hk 4 11 rfl
 replace g:=Q0d g
 replace i:=λa=>i.ret (l,m) (g a) rfl rfl
 obtain⟨y,j,h⟩:=obs h
 have k:=hk 0 7 rfl
 replace j:=Q0d j
 replace k:=λa=>k.ret () ((S7_F F7).trans (j a)) rfl rfl
 refine seq (reg hS [(2,ab ((((decide (q=t)&&decide (s=u))&&w)&&x)&&y))] [] ?_ ?_)
 ·clear h hk hS hX c
  exact dh1 (an n (an f (an o (an i (ap1 7 hpf k)))))
 exact Rf h
end Go.Abs.U48
