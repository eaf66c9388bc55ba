import Derived.Test.YtljahlbklgnfhaaGreatDoorD1
set_option linter.unusedVariables false
set_option linter.unusedSimpArgs false
set_option maxRecDepth 8000
set_option maxHeartbeats 4000000
namespace Go.Abs.U48
open Go.RowKit Go.Proofs AW
open Go.Proofs.Tryz
theorem V9k{b:Y4}{d:Y3}(c:AllG env [S146 d,S30 b]):Q0c env (S150 b d):=by
 refine hd c (fnq func150) 47 ?_
 rintro O X hS hX hpf hk (e:(List Cmd)) (r:Bool) (h:F150 b d e=some r)
 have m:O.pf 146=true:=pft hpf 146 rfl
 refine gs ?_
 rw[F150]at h
 refine R [0] ?_
 refine seq (R [0,3] ?_)
 refine block (Lp h (λf=>⟨sl [(0,vC e),(3,ai f)],47,[]⟩) ?_)
 clear h
 rintro f t h
 rw[X0e]at h
 try dsimp only at h
 refine AW.st (seq ?_)
 refine R [0,3,8] ?_
 refine iz h (λh=>?_) λh=>?_
 ·obtain⟨a,l,h⟩:=oc h λ_=>Q0m
  refine skip (seq ?_)
  refine block (seq ?_)
  refine rg hS [0,3,4] (di1 (an l.1 l.2.1)) ?_
  obtain⟨n,g,h⟩:=obs h
  replace g:=Q0d g
  have o:=λi=>(hk 0 146 rfl).ret a.words_ (g i) rfl rfl
  obtain⟨p,j,h⟩:=obs h
  replace j:=Q0d j
  have q:=λi=>(hk 1 30 rfl).ret a.kids_ (j i) rfl rfl
  refine seq (reg hS [(0,vC e),(3,ai f),(46,ab (((((!decide (a.kind_=18)||!decide (a.name_=[]))||decide (0<(a.redirs_.length:Int)))||decide ((a.words_.length:Int)=0))||!n)||!p))] [V1 a] ?_ ?_)
  ·clear h hk hS hX c
   exact dh1 (an m (an o (ap1 30 hpf q)))
  refine ik h (λh=>?_) λh=>?_
  ·exact Rt h [2]
  refine G [0,3] ?_
  exact nx h
 exact exit (Rt h [2])
theorem Y0m{e:Y4}{j:Y3}(c:AllG env [S145,S146 j,S147 j,S148,S149 e,S65 e,S30 e,S150 e j]):Q0c env (S101 (F101 e j)):=by
 refine hd c (fnq func101) 89 ?_
 rintro O X hS hX hpf hk (a:Cmd) (r:Bool) (h:F101 e j a=some r)
 have N:O.pf 65=true:=pft hpf 65 rfl
 refine gs ?_
 rw[F101]at h
 refine R [1] ?_
 obtain⟨P,Q,h⟩:=oc h (Zt hk 0 145 a)
 obtain⟨S,l,h⟩:=obs h
 replace l:=Q0d l
 have T:=λd=>(hk 1 146 rfl).ret a.words_ (l d) rfl rfl
 refine seq (seq ?_)
 refine reg hS [(1,.ref 0 0),(12,ab (!P||!S))] [V1 a] ?_ ?_
 ·clear h hk hS hX c
  exact dh1 (an (ca Q) (ap1 146 hpf T))
 refine ik h (λh=>?_) λh=>?_
 ·exact Rt h [2]
 refine seq (R [1,3] ?_)
 refine block (Lp h (λH=>⟨sl [(1,.ref 0 0),(3,ai H)],89,[V1 a]⟩) ?_)
 clear h
 rintro H ar h
 rw[X0j]at h
 try dsimp only at h
 refine AW.st (seq ?_)
 refine R [1,3,17] ?_
 refine iz h (λh=>?_) λh=>?_
 ·obtain⟨U,I,h⟩:=oc h λ_=>Q0m
  obtain⟨au,V,h⟩:=oc h (Zt hk 2 147 U)
  refine skip (seq ?_)
  refine block (seq ?_)
  refine rg hS [1,3,26] (di1 (an I.1 (an I.2.1 (ca V)))) ?_
  refine ik h (λh=>?_) λh=>?_
  ·exact Rt h [2]
  refine G [1,3] ?_
  exact nx h
 refine exit (seq ?_)
 refine R [1,28] ?_
 refine block (R [1,28,29] ?_)
 refine iz h (λh=>?_) λh=>?_
 ·obtain⟨W,m,h⟩:=oc h λ_ q=>Q8v (Q0d q)
  try simp only[NRM,Int.reduceToNat]at m
  obtain⟨Y,n,h⟩:=obs h
  replace n:=Q0d n
  have aa:=λd=>(hk 3 148 rfl).ret W (n d) rfl rfl
  refine seq (reg hS [(2,ab (decide ((a.words_.length:Int)=0)||!Y))] [V1 a] ?_ ?_)
  ·clear h hk hS hX c
   exact dh1 (an m.1 (an m.2.1 (ap1 148 hpf aa)))
  exact Rf h
 refine seqM ⟨sl [(1,.ref 0 0),(28,ai a.kind_),(43,ab (bif decide (a.kind_=8)then decide (a.kind_=8)else decide (a.kind_=11)))],89,[V1 a]⟩ ?_ ?_
 ·refine R [1,28,43] ?_
  refine cond (b:=decide (a.kind_=8)) rfl (λo=>?_) (λo=>?_)
  ·exact skip (Weak.of_eq (Wq0 (L:=[(1,.ref 0 0),(28,ai a.kind_),(43,ab (decide (a.kind_=8)))]) kp) (wq o))
  refine G [1,28,43] ?_
  exact Weak.of_eq (Wq0 (L:=[(1,.ref 0 0),(28,ai a.kind_),(43,ab (decide (a.kind_=11)))]) kp) (wq o)
 refine iz h (λh=>?_) λh=>?_
 ·obtain⟨ac,p,h⟩:=oc h λ_=>Q0m
  try simp only[NRM,Int.reduceToNat]at p
  obtain⟨ad,ae,h⟩:=oc h (Zt hk 4 149 ac)
  obtain⟨af,J,h⟩:=obs h
  have f:=J5y (Q0d J)
  try simp only[NRM,Int.reduceToNat]at f
  have t:=f.2.2.1
  have u:=J5z Cmd.pv (Q0d J)
  try simp only[NRM,Int.reduceToNat]at t u
  obtain⟨ag,x,h⟩:=obs h
  replace x:=Q0d x
  have ah:=λd=>(hk 5 65 rfl).ret (af,1) (x d) rfl rfl
  refine seq (reg hS [(2,ab (ad&&ag))] [V1 a] ?_ ?_)
  ·clear h hk hS hX c
   exact dh1 (an p.1 (an p.2.1 (an (ca ae) (an f.1 (an f.2.1 (an t (an f.2.2.2 (an u (ap1 65 hpf ah)))))))))
  clear f t u
  exact Rf h
 refine seqM ⟨sl [(1,.ref 0 0),(28,ai a.kind_),(57,ab (bif decide (a.kind_=12)then decide (a.kind_=12)else decide (a.kind_=15)))],89,[V1 a]⟩ ?_ ?_
 ·refine R [1,28,57] ?_
  refine cond (b:=decide (a.kind_=12)) rfl (λy=>?_) (λy=>?_)
  ·exact skip (Weak.of_eq (Wq0 (L:=[(1,.ref 0 0),(28,ai a.kind_),(57,ab (decide (a.kind_=12)))]) kp) (wq y))
  refine G [1,28,57] ?_
  exact Weak.of_eq (Wq0 (L:=[(1,.ref 0 0),(28,ai a.kind_),(57,ab (decide (a.kind_=15)))]) kp) (wq y)
 refine iz h (λh=>?_) λh=>?_
 ·refine seq (Ua1 h [2] (Zt hk 6 30 a.kids_) λav h=>?_)
  exact Rf h
 refine seqM ⟨sl [(1,.ref 0 0),(28,ai a.kind_),(63,ab (bif decide (a.kind_=5)then decide (a.kind_=5)else decide (a.kind_=6)))],89,[V1 a]⟩ ?_ ?_
 ·refine R [1,28,63] ?_
  refine cond (b:=decide (a.kind_=5)) rfl (λz=>?_) (λz=>?_)
  ·exact skip (Weak.of_eq (Wq0 (L:=[(1,.ref 0 0),(28,ai a.kind_),(63,ab (decide (a.kind_=5)))]) kp) (wq z))
  refine G [1,28,63] ?_
  exact Weak.of_eq (Wq0 (L:=[(1,.ref 0 0),(28,ai a.kind_),(63,ab (decide (a.kind_=6)))]) kp) (wq z)
 refine iz h (λh=>?_) λh=>?_
 ·obtain⟨aw,K,h⟩:=obs h
  have g:=Z8f K
  try simp only[NRM,Int.reduceToNat]at g
  have A:=g.2.2.1
  have C:=Z6s Cmd.pv K
  try simp only[NRM,Int.reduceToNat]at A C
  obtain⟨ak,al,h⟩:=oc h (Zt2 hk 5 rfl)
  obtain⟨am,M,h⟩:=obs h
  have i:=J5y (Q0d M)
  try simp only[NRM,Int.reduceToNat]at i
  have D:=i.2.2.1
  have E:=J5z Cmd.pv (Q0d M)
  try simp only[NRM,Int.reduceToNat]at D E
  obtain⟨ao,F,h⟩:=obs h
  replace F:=Q0d F
  have aq:=λd=>(hk 5 65 rfl).ret (am,2) (F d) rfl rfl
  refine seq (reg hS [(2,ab (ak&&ao))] [V1 a] ?_ ?_)
  ·clear h hk hS hX c
   exact dh1 (an g.1 (an g.2.1 (an A (an g.2.2.2 (an C (an N (an (ca al) (an i.1 (an i.2.1 (an D (an i.2.2.2 (an E aq))))))))))))
  clear g A C
  clear i D E
  exact Rf h
 refine R [1,28,76] ?_
 refine iz h (λh=>?_) λh=>?_
 ·refine seq (Ua1 h [2] (Zt2 hk 5 rfl) λay h=>?_)
  exact Rf h
 refine R [1,81] ?_
 refine ik h (λh=>?_) λh=>?_
 ·refine seq (Ua1 h [2] (Zt hk 7 150 a.kids_) λaz h=>?_)
  exact Rf h
 refine seq (Ua1 h [2] (Zt2 hk 5 rfl) λaA h=>?_)
 exact Rf h
theorem V7s(c:AllG env []):Q0c env S238:=by
 refine hd c (fnq func238) 22 ?_
 rintro O X hS hX hpf hk (a:Int) (r:Bool) (h:F238 a=some r)
 refine gs ?_
 rw[F238]at h
 refine R [0] ?_
 refine seq (R [3] ?_)
 refine block (seqM ⟨sl [(4,ab (bif decide (a=32)then decide (a=32)else(bif decide (a=9)then decide (a=9)else(bif decide (a=10)then decide (a=10)else(bif decide (a=59)then decide (a=59)else(bif decide (a=38)then decide (a=38)else(bif decide (a=124)then decide (a=124)else(bif decide (a=40)then decide (a=40)else(bif decide (a=41)then decide (a=41)else(bif decide (a=123)then decide (a=123)else(bif decide (a=125)then decide (a=125)else(bif decide (a=60)then decide (a=60)else(bif decide (a=62)then decide (a=62)else(bif decide (a=61)then decide (a=61)else(bif decide (a=94)then decide (a=94)else(bif decide (a=96)then decide (a=96)else(bif decide (a=36)then decide (a=36)else decide (a=39))))))))))))))))))],22,[]⟩ ?_ ?_)
 ·refine R [3,4] ?_
  refine cond (b:=decide (a=32)) rfl (λd=>?_) (λd=>?_)
  ·exact skip (Weak.of_eq (Wq0 (L:=[(4,ab (decide (a=32)))]) kp) (wq d))
  refine R [3,4] ?_
  refine cond (b:=decide (a=9)) rfl (λe=>?_) (λe=>?_)
  ·exact skip (Weak.of_eq (Wq0 (L:=[(4,ab (decide (a=9)))]) kp) (by simp only[d,e,G1a,G0v,Q1x,G0m,G0o]<;>rfl))
  refine R [3,4] ?_
  refine cond (b:=decide (a=10)) rfl (λf=>?_) (λf=>?_)
  ·exact skip (Weak.of_eq (Wq0 (L:=[(4,ab (decide (a=10)))]) kp) (by simp only[d,e,f,G1a,G0v,Q1x,G0m,G0o]<;>rfl))
  refine R [3,4] ?_
  refine cond (b:=decide (a=59)) rfl (λg=>?_) (λg=>?_)
  ·exact skip (Weak.of_eq (Wq0 (L:=[(4,ab (decide (a=59)))]) kp) (by simp only[d,e,f,g,G1a,G0v,Q1x,G0m,G0o]<;>rfl))
  refine R [3,4] ?_
  refine cond (b:=decide (a=38)) rfl (λi=>?_) (λi=>?_)
  ·exact skip (Weak.of_eq (Wq0 (L:=[(4,ab (decide (a=38)))]) kp) (by simp only[d,e,f,g,i,G1a,G0v,Q1x,G0m,G0o]<;>rfl))
  refine R [3,4] ?_
  refine cond (b:=decide (a=124)) rfl (λj=>?_) (λj=>?_)
  ·exact skip (Weak.of_eq (Wq0 (L:=[(4,ab (decide (a=124)))]) kp) (by simp only[d,e,f,g,i,j,G1a,G0v,Q1x,G0m,G0o]<;>rfl))
  refine R [3,4] ?_
  refine cond (b:=decide (a=40)) rfl (λl=>?_) (λl=>?_)
  ·exact skip (Weak.of_eq (Wq0 (L:=[(4,ab (decide (a=40)))]) kp) (by simp only[d,e,f,g,i,j,l,G1a,G0v,Q1x,G0m,G0o]<;>rfl))
  refine R [3,4] ?_
  refine cond (b:=decide (a=41)) rfl (λm=>?_) (λm=>?_)
  ·exact skip (Weak.of_eq (Wq0 (L:=[(4,ab (decide (a=41)))]) kp) (by simp only[d,e,f,g,i,j,l,m,G1a,G0v,Q1x,G0m,G0o]<;>rfl))
  refine R [3,4] ?_
  refine cond (b:=decide (a=123)) rfl (λn=>?_) (λn=>?_)
  ·exact skip (Weak.of_eq (Wq0 (L:=[(4,ab (decide (a=123)))]) kp) (by simp only[d,e,f,g,i,j,l,m,n,G1a,G0v,Q1x,G0m,G0o]<;>rfl))
  refine R [3,4] ?_
  refine cond (b:=decide (a=125)) rfl (λo=>?_) (λo=>?_)
  ·exact skip (Weak.of_eq (Wq0 (L:=[(4,ab (decide (a=125)))]) kp) (by simp only[d,e,f,g,i,j,l,m,n,o,G1a,G0v,Q1x,G0m,G0o]<;>rfl))
  refine R [3,4] ?_
  refine cond (b:=decide (a=60)) rfl (λp=>?_) (λp=>?_)
  ·exact skip (Weak.of_eq (Wq0 (L:=[(4,ab (decide (a=60)))]) kp) (by simp only[d,e,f,g,i,j,l,m,n,o,p,G1a,G0v,Q1x,G0m,G0o]<;>rfl))
  refine R [3,4] ?_
  refine cond (b:=decide (a=62)) rfl (λq=>?_) (λq=>?_)
  ·exact skip (Weak.of_eq (Wq0 (L:=[(4,ab (decide (a=62)))]) kp) (by simp only[d,e,f,g,i,j,l,m,n,o,p,q,G1a,G0v,Q1x,G0m,G0o]<;>rfl))
  refine R [3,4] ?_
  refine cond (b:=decide (a=61)) rfl (λt=>?_) (λt=>?_)
  ·exact skip (Weak.of_eq (Wq0 (L:=[(4,ab (decide (a=61)))]) kp) (by simp only[d,e,f,g,i,j,l,m,n,o,p,q,t,G1a,G0v,Q1x,G0m,G0o]<;>rfl))
  refine R [3,4] ?_
  refine cond (b:=decide (a=94)) rfl (λu=>?_) (λu=>?_)
  ·exact skip (Weak.of_eq (Wq0 (L:=[(4,ab (decide (a=94)))]) kp) (by simp only[d,e,f,g,i,j,l,m,n,o,p,q,t,u,G1a,G0v,Q1x,G0m,G0o]<;>rfl))
  refine R [3,4] ?_
  refine cond (b:=decide (a=96)) rfl (λx=>?_) (λx=>?_)
  ·exact skip (Weak.of_eq (Wq0 (L:=[(4,ab (decide (a=96)))]) kp) (by simp only[d,e,f,g,i,j,l,m,n,o,p,q,t,u,x,G1a,G0v,Q1x,G0m,G0o]<;>rfl))
  refine R [3,4] ?_
  refine cond (b:=decide (a=36)) rfl (λy=>?_) (λy=>?_)
  ·exact skip (Weak.of_eq (Wq0 (L:=[(4,ab (decide (a=36)))]) kp) (by simp only[d,e,f,g,i,j,l,m,n,o,p,q,t,u,x,y,G1a,G0v,Q1x,G0m,G0o]<;>rfl))
  refine G [4] ?_
  exact Weak.of_eq (Wq0 (L:=[(4,ab (decide (a=39)))]) kp) (by simp only[d,e,f,g,i,j,l,m,n,o,p,q,t,u,x,y,G1a,G0v,Q1x,G0m,G0o]<;>rfl)
 refine ik h (λh=>?_) λh=>?_
 ·exact Rt h [2]
 exact Rt h [2]
theorem V8i(c:AllG env [S238]):Q0c env S214:=by
 refine hd c (fnq func214) 72 ?_
 rintro O X hS hX hpf hk (w1:Word) (r:Bool) (h:F214 w1=some r)
 refine gs ?_
 rw[F214]at h
 refine R [1] ?_
 refine seq (R [1,10] ?_)
 refine ik h (λh=>?_) λh=>?_
 ·exact Rt h [2]
 refine seq (R [1,3] ?_)
 refine block (Lp h (λd=>⟨sl [(1,.ref 0 0),(3,ai d)],72,[V2 w1]⟩) ?_)
 clear h
 rintro d t h
 rw[Q9r]at h
 try dsimp only at h
 refine AW.st (seq ?_)
 refine R [1,3,15] ?_
 refine iz h (λh=>?_) λh=>?_
 ·obtain⟨e,f,h⟩:=oc h λ_=>Q6h
  obtain⟨l,g,h⟩:=oc h λ_ q=>Q8n (Q0d q)
  obtain⟨m,i,h⟩:=obs h
  replace i:=Q0d i
  have n:=λo=>(hk 0 238 rfl).ret l (i o) rfl rfl
  refine skip (seq ?_)
  refine block (seq ?_)
  refine reg hS [(1,.ref 0 0),(3,ai d),(44,ab ((!decide (e=48)&&!decide (e=49))||(decide (e=48)&&!m)))] [V2 w1] ?_ ?_
  ·clear h hk hS hX c
   exact dh1 (an f.1 (an f.2.1 (an f.2.2 (an g.1 (an g.2.1 (an g.2.2 (ap1 238 hpf n)))))))
  refine ik h (λh=>?_) λh=>?_
  ·exact Rt h [2]
  refine G [1,3] ?_
  exact nx h
 obtain⟨p,a,h⟩:=oc h λ_ q=>Q8n (Q0d q)
 try simp only[NRM,Int.reduceToNat]at a
 obtain⟨j,b,h⟩:=oc h λ_ q=>Q8n (Q0d q)
 try simp only[NRM,Int.reduceToNat]at b
 refine exit (seq ?_)
 refine reg hS [(2,ab ((decide (w1.text_=[])||decide (p=49))||((!decide (j=35)&&!decide (j=33))&&!decide (j=64))))] [V2 w1] ?_ ?_
 ·clear h hk hS hX c
  exact dh1 (an a.1 (an a.2.1 (an a.2.2 (an b.1 (an b.2.1 b.2.2)))))
 exact Rf h
theorem V8x{d:Y4}{e:Y3}(c:AllG env [S214,S172,S146 e,S30 d]):Q0c env (S184 (F184 d e)):=by
 refine hd c (fnq func184) 151 ?_
 rintro O X hS hX hpf hk (w1:Word) (r:Bool) (h:F184 d e w1=some r)
 refine gs ?_
 rw[F184]at h
 refine R [1] ?_
 refine seq (R [1,5] ?_)
 refine block (R [1,5,6] ?_)
 refine iz h (λh=>?_) λh=>?_
 ·obtain⟨o,f6,h⟩:=oc h (Zt hk 0 214 w1)
  refine seq (reg hS [(2,ab (o&&decide (IntKind.wrap .i64 ((w1.words_.length:Int)+(w1.cmd_.length:Int))=0)))] [V2 w1] ?_ ?_)
  ·clear h hk hS hX c
   exact dh1 (ca f6)
  exact Rf h
 refine seqM ⟨sl [(1,.ref 0 0),(5,ai w1.kind_),(20,ab (bif decide (w1.kind_=2)then decide (w1.kind_=2)else decide (w1.kind_=3)))],151,[V2 w1]⟩ ?_ ?_
 ·refine R [1,5,20] ?_
  refine cond (b:=decide (w1.kind_=2)) rfl (λf=>?_) (λf=>?_)
  ·exact skip (Weak.of_eq (Wq0 (L:=[(1,.ref 0 0),(5,ai w1.kind_),(20,ab (decide (w1.kind_=2)))]) kp) (wq f))
  refine G [1,5,20] ?_
  exact Weak.of_eq (Wq0 (L:=[(1,.ref 0 0),(5,ai w1.kind_),(20,ab (decide (w1.kind_=3)))]) kp) (wq f)
 refine iz h (λh=>?_) λh=>?_
 ·obtain⟨p,q,h⟩:=oc h (Zt hk 1 172 w1.text_)
  refine seq (reg hS [(2,ab ((p&&decide (w1.quoted_=[]))&&decide (IntKind.wrap .i64 ((w1.words_.length:Int)+(w1.cmd_.length:Int))=0)))] [V2 w1] ?_ ?_)
  ·clear h hk hS hX c
   exact dh1 (ca q)
  exact Rf h
 refine R [1,5,41] ?_
 refine iz h (λh=>?_) λh=>?_
 ·obtain⟨t,u,h⟩:=oc h (Zt hk 1 172 w1.text_)
  obtain⟨x,g,h⟩:=obs h
  replace g:=Q0d g
  have y:=λa=>(hk 2 146 rfl).ret w1.words_ (g a) rfl rfl
  refine seq (reg hS [(2,ab ((((t&&decide (w1.quoted_=[]))&&decide (0<(w1.words_.length:Int)))&&decide ((w1.cmd_.length:Int)=0))&&x))] [V2 w1] ?_ ?_)
  ·clear h hk hS hX c
   exact dh1 (an (ca u) (ap1 146 hpf y))
  exact Rf h
 refine R [1,5,68] ?_
 refine iz h (λh=>?_) λh=>?_
 ·obtain⟨z,i,h⟩:=obs h
  replace i:=Q0d i
  have A:=λa=>(hk 2 146 rfl).ret w1.words_ (i a) rfl rfl
  refine seq (reg hS [(2,ab (((decide (w1.text_=[])&&decide (w1.quoted_=[]))&&decide ((w1.cmd_.length:Int)=0))&&z))] [V2 w1] ?_ ?_)
  ·clear h hk hS hX c
   exact dh1 (ap1 146 hpf A)
  exact Rf h
 refine R [1,5,89] ?_
 refine iz h (λh=>?_) λh=>?_
 ·obtain⟨C,j,h⟩:=obs h
  replace j:=Q0d j
  have D:=λa=>(hk 3 30 rfl).ret w1.cmd_ (j a) rfl rfl
  refine seq (reg hS [(2,ab (((decide (w1.text_=[])&&decide (w1.quoted_=[]))&&decide ((w1.words_.length:Int)=0))&&C))] [V2 w1] ?_ ?_)
  ·clear h hk hS hX c
   exact dh1 (ap1 30 hpf D)
  exact Rf h
 refine R [1,110] ?_
 refine ik h (λh=>?_) λh=>?_
 ·refine seq (R [1,3] ?_)
  refine block (Lp h (λm=>⟨sl [(1,.ref 0 0),(3,ai m)],151,[V2 w1]⟩) ?_)
  clear h
  rintro m H h
  rw[J4p]at h
  try dsimp only at h
  refine AW.st (seq ?_)
  refine R [1,3,116] ?_
  refine iz h (λh=>?_) λh=>?_
  ·obtain⟨I,n,h⟩:=oc h λ_=>Q0m
   refine skip (seq ?_)
   refine block (seq ?_)
   refine rg hS [1,3,125] (di1 (an n.1 n.2.1)) ?_
   refine ik h (λh=>?_) λh=>?_
   ·exact Rt h [2]
   refine G [1,3] ?_
   exact nx h
  obtain⟨E,l,h⟩:=obs h
  replace l:=Q0d l
  have F:=λa=>(hk 2 146 rfl).ret w1.words_ (l a) rfl rfl
  refine exit (seq ?_)
  refine reg hS [(2,ab ((((decide (w1.text_=[])&&decide (w1.quoted_=[]))&&decide (1<(w1.words_.length:Int)))&&decide ((w1.cmd_.length:Int)=0))&&E))] [V2 w1] ?_ ?_
  ·clear h hk hS hX c
   exact dh1 (ap1 146 hpf F)
  exact Rf h
 exact Rt h [2]
theorem Y7q(c:AllG env [S16 (K16 BIG),S25 (K25 BIG),S30 (K101 BIG)]):Q0c env S14:=by
 refine hd c (fnq func14) 15 ?_
 rintro O X hS hX hpf hk (a:(List Cmd)) (r:Bool) (h:F14 a=some r)
 have j:O.pf 16=true:=pft hpf 16 rfl
 have l:O.pf 25=true:=pft hpf 25 rfl
 refine gs ?_
 rw[F14]at h
 refine R [0] ?_
 obtain⟨m,n,h⟩:=obs h
 have b:=hk 0 16 rfl
 replace b:=b.ret a n rfl rfl
 obtain⟨o,d,h⟩:=obs h
 have e:=hk 1 25 rfl
 replace d:=Q0d d
 replace e:=λf=>e.ret a (d f) rfl rfl
 obtain⟨p,g,h⟩:=obs h
 have i:=hk 2 30 rfl
 replace g:=Q0d g
 replace i:=λf=>i.ret a (g f) rfl rfl
 refine seq (reg hS [(2,ab ((decide (m<=1024)&&decide (o<=32))&&p))] [] ?_ ?_)
 ·clear h hk hS hX c
  exact dh1 (an j (an b (an l (an e (ap1 30 hpf i)))))
 exact Rf h
theorem Y6p(c:AllG env []):Q0c env S74:=by
 refine hd c (fnq func74) 18 λO X hS hX hpf hk ⟨b,a⟩=>λr (h:F74 b a=some r)=>gs ?_
 rw[F74]at h
 refine R [0,1] ?_
 obtain⟨f,f6,h⟩:=oc h λ_ q=>X0w (Q0d q)
 try simp only[NRM,Int.reduceToNat]at f6
 have d:=f6.2.2.2.2
 try simp only[NRM,Int.reduceToNat]at d
 have e:=f6.2.2.1
 try simp only[NRM,Int.reduceToNat]at e
 refine seq (reg hS [(4,ab (decide ((a.length:Int)<=(b.length:Int))&&decide (f=a)))] [] ?_ ?_)
 ·clear h hk hS hX c
  exact dh1 (an f6.1 (an f6.2.1 (an e (an f6.2.2.2.1 d))))
 exact Rf h
theorem Y7b(c:AllG env [S74]):Q0c env S42:=by
 refine hd c (fnq func42) 8 λO X hS hX hpf hk ⟨a,b⟩=>λr (h:F42 a b=some r)=>gs ?_
 rw[F42]at h
 refine R [0,1] ?_
 refine seq (Ua1 h [4] (Zt2 hk 0 rfl) λd h=>?_)
 exact Rf h
theorem Y0d(c:AllG env [X2w]):Q0c env S117:=by
 refine hd c (fnq func117) 40 λO X hS hX hpf hk ⟨a,l⟩=>λr (h:F117 a l=some r)=>gs ?_
 rw[F117]at h
 refine R [0,1] ?_
 refine seq (rg hS [0,1,6] di ?_)
 refine weak (Weak.own 6 9 1 (by decide) rfl) ?_
 refine weak (Wq0 (L:=[(0,as_ a),(1,ai l),(6,.vec 0 (List.length ([]:List Str)))]) ⟨rfl,rfl,rfl,trivial⟩) ?_
 refine seq (rg hS [0,1,6,7] di ?_)
 refine weak (Weak.own 7 3 1 (by decide) rfl) ?_
 refine weak (Wq0 (L:=[(0,as_ a),(1,ai l),(6,.vec 0 (List.length ([]:List Str))),(7,.vec 1 (List.length ([]:List Int)))]) ⟨rfl,rfl,rfl,rfl,trivial⟩) ?_
 refine seq (block ?_)
 refine Lp h (λ(g,d,e)=>⟨sl [(0,as_ a),(1,ai g),(6,.vec 0 (List.length d)),(7,.vec 1 (List.length e))],40,[rSt d,.row 3 1 (List.map (PV.int .i64) e) true]⟩) ?_
 clear h
 rintro⟨g,d,e⟩ u h
 rw[Q7c]at h
 try dsimp only at h
 refine AW.st (seq ?_)
 refine R [0,1,6,7,14] ?_
 refine iz h (λh=>?_) λh=>?_
 ·obtain⟨x,i,h⟩:=oc h λ_=>Q1l
  try simp only[NRM,Int.reduceToNat]at i
  have o:=i.2.2.2.2
  try simp only[NRM,Int.reduceToNat]at o
  have p:=i.2.2.1
  try simp only[NRM,Int.reduceToNat]at p
  obtain⟨⟨f,y,q⟩,j,h⟩:=oc h (Zt2 hk 0 rfl)
  replace j:=ca j
  try simp only[PVE]at j
  refine skip (block ?_)
  refine seq (rg hS [0,1,6,7,8,10] (di1 (an i.1 (an i.2.1 (an p (an i.2.2.2.1 (an o j)))))) ?_)
  refine R [0,1,6,7,8,10] ?_
  refine seqM ⟨sl [(0,as_ a),(1,ai (bif q then IntKind.wrap .i64 ((IntKind.wrap .i64 (g+(f.length:Int)))+1)else IntKind.wrap .i64 (g+(f.length:Int)))),(6,.vec 0 (List.length d)),(7,.vec 1 (List.length e)),(8,as_ f)],40,[rSt d,.row 3 1 (List.map (PV.int .i64) e) true]⟩ ?_ ?_
  ·refine R [0,1,6,7,8,27] ?_
   refine cond (b:=q) rfl (λm=>?_) (λm=>?_)
   ·refine G [0,1,6,7,8] ?_
    exact Weak.of_eq (Wq0 (L:=[(0,as_ a),(1,ai (IntKind.wrap .i64 ((IntKind.wrap .i64 (g+(f.length:Int)))+1))),(6,.vec 0 (List.length d)),(7,.vec 1 (List.length e)),(8,as_ f)]) kp) (wq m)
   exact skip (Weak.of_eq (Wq0 (L:=[(0,as_ a),(1,ai (IntKind.wrap .i64 (g+(f.length:Int)))),(6,.vec 0 (List.length d)),(7,.vec 1 (List.length e)),(8,as_ f)]) kp) (wq m))
  replace h:=ap PV.str h;obtain⟨z,n,h⟩:=h
  replace h:=ap (PV.int .i64) h;obtain⟨A,t,h⟩:=h
  refine rg hS [0,1,6,7] (di1 (an n.1 (an n.2.1 (an n.2.2 t)))) ?_
  exact nx h
 exact exit (Rt h [4,5])
theorem Y0c(c:AllG env []):Q0c env S118:=by
 refine hd c (fnq func118) 19 λO X hS hX hpf hk ⟨a,b⟩=>λr (h:F118 a b=some r)=>gs ?_
 rw[F118]at h
 refine R [0,1] ?_
 refine seq (R [0,1,7,8] ?_)
 refine block (Lp h (λd=>⟨sl [(0,.pv (.slice (List.map PV.str a))),(1,as_ b),(7,ai (a.length:Int)),(8,ai d)],19,[]⟩) ?_)
 clear h
 rintro d f h
 rw[X0h]at h
 try dsimp only at h
 refine AW.st (R [0,1,7,8,9] ?_)
 refine seq (iz h (λh=>?_) λh=>?_)
 ·refine skip (seq ?_)
  refine block (R [0,1,5,7,8] ?_)
  obtain⟨g,e,h⟩:=oc h λ_=>Q0m
  refine seq (rg hS [0,1,5,7,8,16] (di1 (an e.1 e.2.1)) ?_)
  refine ik h (λh=>?_) λh=>?_
  ·exact Rt h [4]
  refine G [0,1,7,8] ?_
  exact nx h
 exact exit (Rt h [4])
theorem Y6q(c:AllG env [S117,S118,K1g]):Q0c env S72:=by
 refine hd c (fnq func72) 44 λO X hS hX hpf hk ⟨e,b,j⟩=>λr (h:F72 e b j=some r)=>gs ?_
 rw[F72]at h
 refine R [0,1,2] ?_
 refine seq (seq ?_)
 refine reg hS [(0,as_ e),(1,ai b),(2,as_ j),(20,ab (decide (b<0)||decide ((e.length:Int)<b)))] [] ?_ ?_
 ·clear h hk hS hX c
  exact dh
 refine ik h (λh=>?_) λh=>?_
 ·exact Rt h [6,7,8]
 refine seq (Ua2 h [2,9,10] (Zt2 hk 0 rfl) λo p h=>?_)
 refine seq (Ua1 h [9,10,11] (Zt2 hk 1 rfl) λq h=>?_)
 refine seq (R [9,10,11,31] ?_)
 refine ik h (λh=>?_) λh=>?_
 ·exact Rt h [6,7,8]
 refine R [9,10,11,12] ?_
 refine seq (R [9,10,11,12,33] ?_)
 refine ik h (λh=>?_) λh=>?_
 ·obtain⟨t,l,h⟩:=obs h
  have a:=Z8f l
  try simp only[NRM,Int.reduceToNat]at a
  have f:=a.2.2.1
  have g:=Z6s PV.str l
  try simp only[NRM,Int.reduceToNat]at f g
  obtain⟨u,d,h⟩:=oc h (Zt2 hk 2 rfl)
  replace d:=ca d
  try simp only[PVE]at d
  obtain⟨x,i,h⟩:=oc h λ_=>Z3a
  try simp only[LNS,G1z,Nat.reduceAdd,Nat.reduceLeDiff,G3m,Nat.reduceMul]at i
  refine rg hS [10,11,12] (di1 (an a.1 (an a.2.1 (an f (an a.2.2.2 (an g (an d (an i.1 i.2)))))))) ?_
  clear a f g
  refine seq ?_
  obtain⟨y,m,h⟩:=oc h λ_=>Q0m
  apply dgk mixed hS [6,7,8] (ordp hpf (by kernel_rfl))
  ·exact di1 (an m.1 m.2.1)
  exact Rf h
 refine seq ?_
 obtain⟨z,n,h⟩:=oc h λ_=>Q0m
 apply dgk mixed hS [6,7,8] (ordp hpf (by kernel_rfl))
 ·exact di1 (an n.1 n.2.1)
 exact Rf h
theorem V1h(c:AllG env []):Q0c env J6w:=by
 refine hd c (fnq func73) 15 λO X hS hX hpf hk ⟨a,b,d,e,f,g,i,j,l⟩=>λr (h:Z4l a b d e f g i j l=some r)=>gs ?_
 rw[Z4l]at h
 refine R [0,1,2] ?_
 refine R [] ?_
 exact Rt h [6]
theorem V1i(c:AllG env [J6w]):Q0c env X5y:=by
 refine hd c (fnq func71) 25 λO X hS hX hpf hk ⟨d,e,f,g,i,j,m,b⟩=>λr (h:Q8l d e f g i j m b=some r)=>gs ?_
 rw[Q8l]at h
 refine R [0,3] ?_
 refine seq (R [0,3,10] ?_)
 refine ik h (λh=>?_) λh=>?_
 ·obtain⟨⟨o,p,q⟩,a,h⟩:=oc h (Z9 hk 0 rfl)
  replace a:=cd a
  try simp only[PVE]at a
  refine seq (rg hS [4] (di1 a) ?_)
  exact Rf h
 replace h:=ap Token.pv h;obtain⟨l,n,h⟩:=h
 refine seq (AW.dregB mixed hS [(3,some 3)] rfl (ordB hpf (B:=[(3,some 3)]) (by kernel_rfl)) [] [V6 e f l.length b.length g i j,rTo l,rSt b,V7 d] ?_ ?_)
 ·exact dk1 n
 exact Rt h [4]
theorem V1n(c:AllG env []):Q0c env J6x:=by
 refine hd c (fnq func39) 12 λO X hS hX hpf hk ⟨e,f,g,i,j,l,m⟩=>λr (h:Z6g e f g i j l m=some r)=>gs ?_
 rw[Z6g]at h
 refine R [0] ?_
 refine seq ?_
 obtain⟨n,a,h⟩:=oc h λ_=>Q1l
 try simp only[NRM,Int.reduceToNat]at a
 have b:=a.2.2.2.2
 try simp only[NRM,Int.reduceToNat]at b
 have d:=a.2.2.1
 try simp only[NRM,Int.reduceToNat]at d
 apply dgk mixed hS [2] (ordp hpf (by kernel_rfl))
 ·exact di1 (an a.1 (an a.2.1 (an d (an a.2.2.2.1 b))))
 exact Rf h
theorem V1o(c:AllG env [J6x,S42]):Q0c env K5u:=by
 refine hd c (fnq func38) 29 λO X hS hX hpf hk ⟨f,p,g,i,j,a,b⟩=>λr (h:J9u f p g i j a b=some r)=>?_
 have q:O.pf 42=true:=pft hpf 42 rfl
 refine gs ?_
 rw[J9u]at h
 refine block (Lp h (λl=>⟨sl [(0,.ref 0 0)],29,[V6 f l a.length b.length g i j,rTo a,rSt b]⟩) ?_)
 clear h
 rintro l y h
 rw[Q3u]at h
 try dsimp only at h
 obtain⟨n,d,h⟩:=oc h (Z7 hk 0 rfl)
 replace d:=cd d
 try simp only[PVE]at d
 refine AW.st (block ?_)
 refine seq (rg hS [0,2] (di1 d) ?_)
 obtain⟨t,e,h⟩:=oc h (Zt2 hk 1 rfl)
 replace e:=ca e
 try simp only[PVE]at e
 obtain⟨u,m,h⟩:=obs h
 replace m:=Q0d m
 have o:=λx=>(hk 1 42 rfl).ret (n,([9]:Str)) (m x) rfl rfl
 try simp only[PVE]at o
 refine block (seq ?_)
 refine reg hS [(0,.ref 0 0),(2,as_ n),(5,ab (t||u))] [V6 f l a.length b.length g i j,rTo a,rSt b] ?_ ?_
 ·clear h hk hS hX c
  exact dh1 (an q (an e o))
 refine iz h (λh=>?_) λh=>?_
 ·refine G [0] ?_
  exact nx h
 refine seq (Ua1 h [0,19] (Zt2 hk 1 rfl) λz h=>?_)
 refine iz h (λh=>?_) λh=>?_
 ·refine G [0] ?_
  exact nx h
 exact Rf h
theorem V1m(c:AllG env [X5y,S72,J6w]):Q0c env V2p:=by
 refine hd c (fnq func41) 63 λO X hS hX hpf hk ⟨f,m,g,n,o,p,a⟩=>λr (h:J9t f m g n o p a=some r)=>gs ?_
 rw[J9t]at h
 refine R [0] ?_
 obtain⟨⟨x,q,t,i⟩,b,h⟩:=oc h (Z8 hk 0 rfl)
 replace b:=cd b
 try simp only[PVE]at b
 refine seq (seq ?_)
 refine rg hS [0,15] (di1 b) ?_
 refine ik h (λh=>?_) λh=>?_
 ·exact Rt h [2]
 refine R [0] ?_
 refine seq (R [0,26,27,28] ?_)
 refine block (Lp h (λ(j,l)=>⟨sl [(0,.ref 0 0),(26,.vec 2 (List.length a)),(27,ai (a.length:Int)),(28,ai j)],63,[V6 f l i.length a.length g q t,rTo i,rSt a]⟩) ?_)
 clear h
 rintro⟨j,l⟩ y h
 rw[J4l]at h
 try dsimp only at h
 refine AW.st (R [0,26,27,28,29] ?_)
 refine seq (iz h (λh=>?_) λh=>?_)
 ·obtain⟨z,e,h⟩:=oc h λ_=>Q0m
  refine skip (seq ?_)
  refine block (seq ?_)
  refine rg hS [0,4,26,27,28] (di1 (an e.1 (an e.2.1 e.2.2))) ?_
  refine seq ?_
  obtain⟨⟨A,C,D⟩,u,h⟩:=oc h (Zt3 hk 1 rfl)
  apply dgk mixed hS [0,6,7,26,27,28] (ordp hpf (by kernel_rfl))
  ·exact di1 (ca u)
  refine seq (R [0,6,7,26,27,28,47] ?_)
  refine ik h (λh=>?_) λh=>?_
  ·obtain⟨⟨E,F,H⟩,d,h⟩:=oc h (Z9 hk 2 rfl)
   replace d:=cd d
   try simp only[PVE]at d
   refine seq (rg hS [2] (di1 d) ?_)
   exact Rf h
  refine G [0,26,27,28] ?_
  refine G [0,26,27,28] ?_
  exact nx h
 refine exit (R [] ?_)
 exact Rt h [2]
theorem K4p(c:AllG env [J6x,Q0z,S42]):Q0c env K1k:=by
 refine hd c (fnq func120) 19 λO X hS hX hpf hk ⟨j,l,m,n,o,d,e⟩=>λr (h:J2h j l m n o d e=some r)=>?_
 have x:O.pf 40=true:=pft hpf 40 rfl
 refine gs ?_
 rw[J2h]at h
 refine R [0] ?_
 obtain⟨p,a,h⟩:=oc h (Z7 hk 0 rfl)
 replace a:=cd a
 try simp only[PVE]at a
 refine seq (rg hS [3] (di1 a) ?_)
 obtain⟨y,b,h⟩:=oc h λ_ q=>Q8n (Q0d q)
 try simp only[NRM,Int.reduceToNat]at b
 obtain⟨z,f,h⟩:=obs h
 replace f:=Q0d f
 have t:=λg=>(hk 1 40 rfl).ret (([32,9,10,59,38,124,40,41,123,125,60,62,61,94,96,36,39]:Str),y) (f g) rfl rfl
 try simp only[PVE]at t
 obtain⟨A,i,h⟩:=obs h
 replace i:=Q0d i
 have u:=λg=>(hk 2 42 rfl).ret (p,([92,10]:Str)) (i g) rfl rfl
 try simp only[PVE]at u
 refine seq (reg hS [(2,ab ((!decide (p=[])&&decide (z<0))&&!A))] [V6 j l d.length e.length m n o,rTo d,rSt e] ?_ ?_)
 ·clear h hk hS hX c
  exact dh1 (an b.1 (an b.2.1 (an b.2.2 (an x (an t (ap1 42 hpf u))))))
 exact Rf h
theorem K4o(c:AllG env [J6x,Q0z,J6w,Q7b,S42,Z9h,Q9m]):Q0c env K1j:=by
 refine hd c (fnq func122) 64 λO X hS hX hpf hk ⟨l,m,n,o,p,i,j⟩=>λr (h:Z9w l m n o p i j=some r)=>gs ?_
 rw[Z9w]at h
 refine R [0] ?_
 refine R [0,4] ?_
 refine R [0,4] ?_
 refine R [0,4,5] ?_
 refine block (Lp h (λ(q,t)=>⟨sl [(0,.ref 0 0),(4,ai m),(5,.ref 3 0)],64,[V6 l q i.length j.length n o p,rTo i,rSt j,.bld t]⟩) ?_)
 clear h
 rintro⟨q,t⟩ A h
 rw[Q2q]at h
 try dsimp only at h
 obtain⟨C,b,h⟩:=oc h (Z7 hk 0 rfl)
 replace b:=cd b
 try simp only[PVE]at b
 obtain⟨D,y,h⟩:=oc h (Zt2 hk 1 rfl)
 refine AW.st (block ?_)
 refine seq (rg hS [0,4,5,6] (di1 (an b (ca y))) ?_)
 refine seq (R [0,4,5,6,22] ?_)
 refine ik h (λh=>?_) λh=>?_
 ·obtain⟨⟨E,F,H⟩,d,h⟩:=oc h (Z9 hk 2 rfl)
  replace d:=cd d
  try simp only[PVE]at d
  refine seq (rg hS [2,3] (di1 d) ?_)
  exact Rf h
 refine seq ?_
 obtain⟨I,a,h⟩:=oc h λ_=>Q1l
 try simp only[NRM,Int.reduceToNat]at a
 have u:=a.2.2.2.2
 try simp only[NRM,Int.reduceToNat]at u
 have x:=a.2.2.1
 try simp only[NRM,Int.reduceToNat]at x
 obtain⟨⟨J,z⟩,e,h⟩:=oc h (Z2 hk 3 rfl)
 replace e:=ce e
 try simp only[PVE]at e
 apply dgk mixed hS [0,4,5,6] (ordp hpf (by kernel_rfl))
 ·exact di1 (an a.1 (an a.2.1 (an x (an a.2.2.2.1 (an u e)))))
 refine R [0,4,5] ?_
 obtain⟨K,f,h⟩:=oc h (Z7 hk 0 rfl)
 replace f:=cd f
 try simp only[PVE]at f
 obtain⟨L,g,h⟩:=oc h (Zt2 hk 4 rfl)
 replace g:=ca g
 try simp only[PVE]at g
 refine seq (seq ?_)
 refine rg hS [0,4,5,54] (di1 (an f g)) ?_
 refine ik h (λh=>?_) λh=>?_
 ·refine seq (Ua1 h [2,3] (Z hk 5 36 z) λM h=>?_)
  exact Rf h
 refine seq (Ua1 h [0,4,5] (Z2 hk 6 rfl) λN h=>?_)
 refine G [0,4,5] ?_
 exact nx h
end Go.Abs.U48
