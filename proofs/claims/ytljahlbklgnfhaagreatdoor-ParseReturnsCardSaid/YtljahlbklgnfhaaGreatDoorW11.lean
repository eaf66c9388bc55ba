import Derived.Test.YtljahlbklgnfhaaGreatDoorD1
set_option linter.unusedVariables false
set_option linter.unusedSimpArgs false
set_option maxRecDepth 8000
set_option maxHeartbeats 4000000
namespace Go.Abs.U48
open Go.RowKit Go.Proofs AW
theorem Y7i{d:Y10}{e:Y9}(c:AllG env [S26 e,S10 d]):Q0c env (S26 (F26 d e)):=by
 refine hd c (fnq Tryz.func26) 82 λO X hS hX hpf hk ⟨f,g⟩=>λr (h:F26 d e f g=some r)=>?_
 have p:O.pf 26=true:=pft hpf 26 rfl
 refine gs ?_
 rw[F26]at h
 refine R [0,1] ?_
 refine seq (R [0,1,10] ?_)
 refine ik h (λh=>?_) λh=>?_
 ·exact Rt h [4]
 refine seq (R [0,1,5] ?_)
 refine block (Lp h (λi=>⟨sl [(0,vWo f),(1,vWo g),(5,ai i)],82,[]⟩) ?_)
 clear h
 rintro i y h
 rw[Z5w]at h
 try dsimp only at h
 refine AW.st (seq ?_)
 refine R [0,1,5,14] ?_
 refine iz h (λh=>?_) λh=>?_
 ·obtain⟨a,n,h⟩:=oc h λ_=>Q0m
  obtain⟨b,o,h⟩:=oc h λ_=>Q0m
  obtain⟨q,j,h⟩:=obs h
  replace j:=Q0d j
  have t:=λl=>(hk 0 26 rfl).ret (a.words_,b.words_) (j l) rfl rfl
  obtain⟨u,m,h⟩:=obs h
  replace m:=Q0d m
  have x:=λl=>(hk 1 10 rfl).ret (a.cmd_,b.cmd_) (m l) rfl rfl
  refine skip (seq ?_)
  refine block (seq ?_)
  refine dreg mixed hS (ordp hpf (by kernel_rfl)) [(0,vWo f),(1,vWo g),(5,ai i),(81,ab ((((!decide (a.kind_=b.kind_)||!decide (a.text_=b.text_))||!decide (a.quoted_=b.quoted_))||!q)||!u))] [] ?_ ?_
  ·clear h hk hS hX c
   exact dh1 (an n.1 (an n.2.1 (an o.1 (an o.2.1 (an p (an t (ap1 10 hpf x)))))))
  refine ik h (λh=>?_) λh=>?_
  ·exact Rt h [4]
  refine G [0,1,5] ?_
  exact nx h
 exact exit (Rt h [4])
theorem g_F6(c:AllG env [S12,S14,S7 F7,S17,S8,S10 (K10 BIG)]):Q0c env S6:=by
 refine hd c (fnq Tryz.func6) 44 ?_
 rintro O X hS hX hpf hk (a:(List Cmd)) (r:Bool) (h:F6 a=some r)
 have m:O.pf 10=true:=pft hpf 10 rfl
 refine gs ?_
 rw[F6]at h
 refine R [0] ?_
 obtain⟨n,o,h⟩:=oc h (Zt hk 0 12 a)
 obtain⟨p,d,h⟩:=obs h
 replace d:=Q0d d
 have q:=λb=>(hk 1 14 rfl).ret a (d b) rfl rfl
 refine seq (seq ?_)
 refine reg hS [(0,vC a),(15,ab (!n||!p))] [] ?_ ?_
 ·clear h hk hS hX c
  exact dh1 (an (ca o) (ap1 14 hpf q))
 refine ik h (λh=>?_) λh=>?_
 ·obtain⟨A,t,h⟩:=obs h
  have e:=hk 2 7 rfl
  replace e:=e.ret () ((S7_F F7).trans t) rfl rfl
  refine seq (rg hS [2] (di1 (ap1 7 hpf e)) ?_)
  exact Rf h
 refine seq (Ua2 h [0,3,4] (Zt hk 3 17 a) λu C h=>?_)
 refine seq (R [0,3,23] ?_)
 refine ik h (λh=>?_) λh=>?_
 ·exact Rt h [2]
 refine seq (Ua3 h [0,5,7] (Zt hk 4 8 u) λx D l h=>?_)
 obtain⟨y,f,h⟩:=obs h
 have g:=hk 5 10 rfl
 replace f:=Q0d f
 replace g:=λb=>g.ret (a,x) (f b) rfl rfl
 obtain⟨z,i,h⟩:=obs h
 have j:=hk 2 7 rfl
 replace i:=Q0d i
 replace j:=λb=>j.ret () ((S7_F F7).trans (i b)) rfl rfl
 refine seq (reg hS [(2,ab ((decide (l=4)||(decide (l=0)&&y))&&z))] [] ?_ ?_)
 ·clear h hk hS hX c
  exact dh1 (an m (an g (ap1 7 hpf j)))
 exact Rf h
end Go.Abs.U48
