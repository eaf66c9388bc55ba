import Derived.Test.YtljahlbklgnfhaaGreatDoorD1
set_option linter.unusedVariables false
set_option linter.unusedSimpArgs false
set_option maxRecDepth 8000
set_option maxHeartbeats 4000000
namespace Go.Abs.U48
open Go.RowKit Go.Proofs AW
open Go.Proofs.Tryz
theorem Y6h(c:AllG env []):Q0c env S84:=by
 refine hd c (fnq func84) 30 λO X hS hX hpf hk ⟨b,d,e,f,g⟩=>λr (h:F84 b d e f g=some r)=>gs ?_
 rw[F84]at h
 refine R [0,1,4] ?_
 refine seq (seq ?_)
 apply dgk mixed hS [0,1,4,16] (ordp hpf (by kernel_rfl))
 ·exact di
 refine ik h (λh=>?_) λh=>?_
 ·exact Rt h [4]
 refine seq ?_
 obtain⟨i,a,h⟩:=oc h λ_=>Q0m
 apply dgB mixed hS [(4,some 1),(28,none)] [4] rfl (ordB hpf (B:=[(4,some 1),(28,none)]) (by kernel_rfl))
 ·exact di1 (an a.1 a.2.1)
 exact Rf h
theorem V9x(c:AllG env []):Q0c env S128:=by
 refine hd c (fnq func128) 14 λO X hS hX hpf hk ⟨a,b⟩=>λr (h:F128 a b=some r)=>gs ?_
 rw[F128]at h
 refine R [1,2] ?_
 refine seq (reg hS [(4,ab (decide (a.kind_=2)&&decide (a.text_=b)))] [V7 a] ?_ ?_)
 ·clear h hk hS hX c
  exact dh
 exact Rf h
theorem V9y(c:AllG env [S84,S128]):Q0c env S127:=by
 refine hd c (fnq func127) 9 λO X hS hX hpf hk ⟨a,b,d,e,f⟩=>λr (h:F127 a b d e f=some r)=>gs ?_
 rw[F127]at h
 refine R [0,1] ?_
 obtain⟨j,g,h⟩:=oc h (Z5 hk 0 rfl)
 obtain⟨l,i,h⟩:=oc h (Zt2 hk 1 rfl)
 refine seq (rg hS [4] (di1 (an (cb g) (ca i))) ?_)
 exact Rf h
theorem Y6k(c:AllG env [S84,S127]):Q0c env S80:=by
 refine hd c (fnq func80) 29 λO X hS hX hpf hk ⟨e,f,g,i⟩=>λr (h:F80 e f g i=some r)=>gs ?_
 rw[F80]at h
 refine R [0] ?_
 refine R [0,3] ?_
 refine seq (block ?_)
 refine Lp h (λj=>⟨sl [(0,.ref 0 0),(3,ai i)],29,[V10 e f g j]⟩) ?_
 clear h
 rintro j m h
 rw[Z1d]at h
 try dsimp only at h
 obtain⟨n,l,h⟩:=oc h (Z5 hk 0 rfl)
 refine AW.st (seq ?_)
 refine seq ?_
 rcases bs h with⟨d,h⟩|⟨d,h⟩
 ·refine rg hS [0,3,15] (di1 (an (cb l) d)) ?_
  refine cond (b:=true) rfl (λ_=>?_) (λhb=>absurd hb (by decide))
  refine skip (block ?_)
  refine G [0,3] ?_
  exact nx h
 obtain⟨o,a,h⟩:=oc h (Z5 hk 1 rfl)
 replace a:=cb a
 try simp only[PVE]at a
 refine rg hS [0,3,15] (di1 (an (cb l) (an d a))) ?_
 refine iz h (λh=>?_) λh=>?_
 ·refine skip (block ?_)
  refine G [0,3] ?_
  exact nx h
 exact exit (Rt h [2])
theorem V9t(c:AllG env [Q0z]):Q0c env S133:=by
 refine hd c (fnq func133) 12 ?_
 rintro O X hS hX hpf hk (a:Token) (r:Bool) (h:F133 a=some r)
 refine gs ?_
 rw[F133]at h
 refine R [1] ?_
 obtain⟨d,b,h⟩:=obs h
 replace b:=Q0d b
 have e:=λf=>(hk 0 40 rfl).ret (a.quoted_,49) (b f) rfl rfl
 refine seq (reg hS [(2,ab (decide (a.kind_=1)&&decide (d<0)))] [V7 a] ?_ ?_)
 ·clear h hk hS hX c
  exact dh1 (ap1 40 hpf e)
 exact Rf h
theorem V9s(c:AllG env [Q0z,Z5t]):Q0c env S134:=by
 refine hd c (fnq func134) 16 ?_
 rintro O X hS hX hpf hk (a:Str) (r:Bool) (h:F134 a=some r)
 have j:O.pf 40=true:=pft hpf 40 rfl
 refine gs ?_
 rw[F134]at h
 refine R [0] ?_
 obtain⟨l,b,h⟩:=obs h
 replace b:=Q0d b
 have m:=λd=>(hk 0 40 rfl).ret (a,32) (b d) rfl rfl
 obtain⟨p,e,h⟩:=oc h λ_ q=>K7v (Q0d q)
 try simp only[LNS,G1z,Nat.reduceAdd,Nat.reduceLeDiff,G3m,Nat.reduceMul]at e
 obtain⟨n,f,h⟩:=oc h λ_ q=>K7v (Q0d q)
 try simp only[LNS,G1z,Nat.reduceAdd,Nat.reduceLeDiff,G3m,Nat.reduceMul]at f
 obtain⟨o,g,h⟩:=obs h
 replace g:=Q0d g
 have i:=λd=>(hk 1 169 rfl).ret (([32,105,102,32,110,111,116,32,119,104,105,108,101,32,102,111,114,32,105,110,32,115,119,105,116,99,104,32,99,97,115,101,32,102,110,32,126,32]:Str),n) (g d) rfl rfl
 try simp only[PVE]at i
 refine seq (reg hS [(2,ab ((!decide (a=[])&&decide (l<0))&&o))] [] ?_ ?_)
 ·clear h hk hS hX c
  exact dh1 (an j (an m (an e.1 (an e.2 (an f.1 (an f.2 (ap1 169 hpf i)))))))
 exact Rf h
theorem Y6i(c:AllG env [S133,S134]):Q0c env S83:=by
 refine hd c (fnq func83) 12 ?_
 rintro O X hS hX hpf hk (a:Token) (r:Str) (h:F83 a=some r)
 refine gs ?_
 rw[F83]at h
 refine R [1] ?_
 obtain⟨d,e,h⟩:=oc h (Zt hk 0 133 a)
 obtain⟨f,b,h⟩:=obs h
 replace b:=Q0d b
 have g:=λi=>(hk 1 134 rfl).ret a.text_ (b i) rfl rfl
 refine seq (seq ?_)
 refine reg hS [(1,.ref 0 0),(9,ab (d&&f))] [V7 a] ?_ ?_
 ·clear h hk hS hX c
  exact dh1 (an (ca e) (ap1 134 hpf g))
 refine ik h (λh=>?_) λh=>?_
 ·exact Rt h [2]
 exact Rt h [2]
theorem V9w(c:AllG env [S128]):Q0c env S129:=by
 refine hd c (fnq func129) 20 ?_
 rintro O X hS hX hpf hk (a:Token) (r:Bool) (h:F129 a=some r)
 have l:O.pf 128=true:=pft hpf 128 rfl
 refine gs ?_
 rw[F129]at h
 refine R [1] ?_
 refine seq (R [1,5] ?_)
 refine ik h (λh=>?_) λh=>?_
 ·exact Rt h [2]
 obtain⟨m,f6,h⟩:=oc h (Zt2 hk 0 rfl)
 replace f6:=ca f6
 try simp only[PVE]at f6
 obtain⟨n,d,h⟩:=obs h
 replace d:=Q0d d
 have g:=λb=>(hk 0 128 rfl).ret (a,([36,35]:Str)) (d b) rfl rfl
 try simp only[PVE]at g
 obtain⟨o,e,h⟩:=obs h
 replace e:=Q0d e
 have i:=λb=>(hk 0 128 rfl).ret (a,([40]:Str)) (e b) rfl rfl
 try simp only[PVE]at i
 obtain⟨p,f,h⟩:=obs h
 replace f:=Q0d f
 have j:=λb=>(hk 0 128 rfl).ret (a,([96]:Str)) (f b) rfl rfl
 try simp only[PVE]at j
 refine seq (reg hS [(2,ab (((m||n)||o)||p))] [V7 a] ?_ ?_)
 ·clear h hk hS hX c
  exact dh1 (an l (an f6 (an g (an i j))))
 exact Rf h
theorem V9v(c:AllG env []):Q0c env S130:=by
 refine hd c (fnq func130) 23 ?_
 rintro O X hS hX hpf hk (a:Token) (r:Bool) (h:F130 a=some r)
 refine gs ?_
 rw[F130]at h
 refine R [1] ?_
 obtain⟨d,b,h⟩:=oc h λ_ q=>Q8n (Q0d q)
 try simp only[NRM,Int.reduceToNat]at b
 refine seq (reg hS [(2,ab (decide (a.kind_=4)||(decide (a.kind_=2)&&(decide (d=60)||decide (d=62)))))] [V7 a] ?_ ?_)
 ·clear h hk hS hX c
  exact dh1 (an b.1 (an b.2.1 b.2.2))
 exact Rf h
theorem Y6j(c:AllG env [S84,S83,S128,S129,S130]):Q0c env S81:=by
 refine hd c (fnq func81) 38 λO X hS hX hpf hk ⟨L,d,e,f,g⟩=>λr (h:F81 L d e f g=some r)=>?_
 have z:O.pf 83=true:=pft hpf 83 rfl
 have A:O.pf 128=true:=pft hpf 128 rfl
 have C:O.pf 130=true:=pft hpf 130 rfl
 refine gs ?_
 rw[F81]at h
 refine R [0,1] ?_
 refine seq (Ua1 h [0,1,5] (Z5 hk 0 rfl) λb h=>?_)
 obtain⟨af,m,h⟩:=obs h
 replace m:=Q0d m
 have D:=λa=>(hk 1 83 rfl).ret b (m a) rfl rfl
 refine seq (seq ?_)
 rcases bs h with⟨i,h⟩|⟨i,h⟩
 ·try simp only[G0d,G2n]at i
  obtain⟨M,N,h⟩:=oc h (Z5 hk 0 rfl)
  obtain⟨n,j,h⟩:=obs h
  have l:=(hk 2 128 rfl).ret (M,([61]:Str)) j rfl rfl
  try simp only[PVE]at l
  refine reg hS [(5,.ref 1 0),(19,ab (!n))] [V10 d e f g,V7 b] ?_ ?_
  ·clear h hk hS hX c
   exact dh1 (an z (an D (an i (an (cb N) (ap1 128 hpf l)))))
  refine ik h (λh=>?_) λh=>?_
  ·exact Rt h [4]
  obtain⟨P,Q,h⟩:=oc h (Zt hk 3 129 b)
  obtain⟨S,o,h⟩:=obs h
  replace o:=Q0d o
  have T:=λa=>(hk 4 130 rfl).ret b (o a) rfl rfl
  obtain⟨U,p,h⟩:=obs h
  replace p:=Q0d p
  have E:=λa=>(hk 2 128 rfl).ret (b,([33]:Str)) (p a) rfl rfl
  try simp only[PVE]at E
  obtain⟨V,q,h⟩:=obs h
  replace q:=Q0d q
  have F:=λa=>(hk 2 128 rfl).ret (b,([64]:Str)) (q a) rfl rfl
  try simp only[PVE]at F
  obtain⟨W,t,h⟩:=obs h
  replace t:=Q0d t
  have H:=λa=>(hk 2 128 rfl).ret (b,([123]:Str)) (t a) rfl rfl
  try simp only[PVE]at H
  refine seq (reg hS [(4,ab ((((P||S)||U)||V)||W))] [V10 d e f g,V7 b] ?_ ?_)
  ·clear h hk hS hX c
   exact dh1 (an (ca Q) (an C (an T (an A (an E (an F H))))))
  exact Rf h
 try simp only[G0d,G2n]at i
 refine reg hS [(5,.ref 1 0),(19,ab false)] [V10 d e f g,V7 b] ?_ ?_
 ·clear h hk hS hX c
  exact dh1 (an z (an D i))
 refine cF ?_
 obtain⟨Y,aa,h⟩:=oc h (Zt hk 3 129 b)
 obtain⟨n,j,h⟩:=obs h
 replace j:=Q0d j
 have l:=λa=>(hk 4 130 rfl).ret b (j a) rfl rfl
 obtain⟨ac,u,h⟩:=obs h
 replace u:=Q0d u
 have I:=λa=>(hk 2 128 rfl).ret (b,([33]:Str)) (u a) rfl rfl
 try simp only[PVE]at I
 obtain⟨ad,x,h⟩:=obs h
 replace x:=Q0d x
 have J:=λa=>(hk 2 128 rfl).ret (b,([64]:Str)) (x a) rfl rfl
 try simp only[PVE]at J
 obtain⟨ae,y,h⟩:=obs h
 replace y:=Q0d y
 have K:=λa=>(hk 2 128 rfl).ret (b,([123]:Str)) (y a) rfl rfl
 try simp only[PVE]at K
 refine skip (seq ?_)
 refine reg hS [(4,ab ((((Y||n)||ac)||ad)||ae))] [V10 d e f g,V7 b] ?_ ?_
 ·clear h hk hS hX c
  exact dh1 (an (ca aa) (an C (an l (an A (an I (an J K))))))
 exact Rf h
theorem V9u(c:AllG env [S127]):Q0c env S132:=by
 refine hd c (fnq func132) 18 λO X hS hX hpf hk ⟨j,f,g,i,d⟩=>λr (h:F132 j f g i d=some r)=>gs ?_
 rw[F132]at h
 refine R [0,1] ?_
 refine seq (Ua1 h [0,5] (Z5 hk 0 rfl) λa h=>?_)
 refine seqM ⟨sl [(5,ab a)],18,[V10 f g i (bif a then IntKind.wrap .i64 (d+1)else d)]⟩ ?_ ?_
 ·refine R [0,5,9] ?_
  refine cond (b:=a) rfl (λe=>?_) (λe=>?_)
  ·refine G [5] ?_
   exact Weak.of_eq (Wq0 (L:=[(5,ab a)]) kp) (wq e)
  exact skip (Weak.of_eq (Wq0 (L:=[(5,ab a)]) kp) (wq e))
 exact Rt h [4]
theorem V9c(c:AllG env [S84]):Q0c env S168:=by
 refine hd c (fnq func168) 13 λO X hS hX hpf hk ⟨a,b,d,f⟩=>λr (h:F168 a b d f=some r)=>gs ?_
 rw[F168]at h
 refine block (Lp h (λe=>⟨sl [(0,.ref 0 0)],13,[V10 a b d e]⟩) ?_)
 clear h
 rintro e g h
 rw[Z9t]at h
 try dsimp only at h
 refine AW.st (seq ?_)
 refine seq (Ua1 h [0,5] (Z5 hk 0 rfl) λi h=>?_)
 refine iz h (λh=>?_) λh=>?_
 ·refine skip (block ?_)
  refine G [0] ?_
  exact nx h
 exact ex h
theorem K7m{a:Y0}(c:AllG env [S200 a,S132,S168]):Q0c env (S167 a):=by
 refine hd c (fnq func167) 32 λO X hS hX hpf hk ⟨b,d,e,f,m⟩=>λr (h:F167 a b d e f m=some r)=>gs ?_
 rw[F167]at h
 refine R [0,1,4] ?_
 refine seq (xb h (Z5 hk 0 rfl) 2 ?_)
 rintro⟨x,y⟩ n h
 refine rg hS [0,1,4,5] (di1 (cb n)) ?_
 refine seq (block ?_)
 refine Lq r (Q9t d e f a b) (λ(j,i)=>⟨sl [(0,.ref 0 0),(1,ab b),(4,.ref 1 0),(5,.vec 2 (List.length i))],32,[V10 d e f j,V11 0 0 [],rCm i]⟩) ?_ ?_
 ·refine seq (seq ?_)
  refine Ua2 h [0,1,4,5,11] (Z5 hk 1 rfl) λz A h=>?_
  refine iz h (λh=>?_) λh=>?_
  ·refine skip (block ?_)
   refine seq (Ua1 h [0,1,4,5] (Z4 hk 2 rfl) λC h=>?_)
   refine xb h (Z5 hk 0 rfl) 3 ?_
   rintro⟨D,o⟩ p h
   replace h:=ap Cmd.pv h;obtain⟨l,q,h⟩:=h
   refine reg hS [(0,.ref 0 0),(1,ab b),(4,.ref 1 0),(5,.vec 2 (List.length l))] [V10 d e f o,V11 0 0 [],rCm l] (dk1 (an (cb p) q)) ?_
   exact ny h
  refine exit (seq ?_)
  refine R [4,5,22] ?_
  refine ik h (λh=>?_) λh=>?_
  ·exact Rt h [4]
  exact Rt h [4]
 clear h
 rintro⟨j,i⟩ E h
 unfold Q9t at h
 try dsimp only at h
 refine AW.st (seq ?_)
 refine seq (Ua2 h [0,1,4,5,11] (Z5 hk 1 rfl) λF H h=>?_)
 refine iz h (λh=>?_) λh=>?_
 ·refine skip (block ?_)
  refine seq (Ua1 h [0,1,4,5] (Z4 hk 2 rfl) λI h=>?_)
  refine xb h (Z5 hk 0 rfl) 3 ?_
  rintro⟨J,K⟩ t h
  replace h:=ap Cmd.pv h;obtain⟨L,u,h⟩:=h
  refine rg hS [0,1,4,5] (di1 (an (cb t) u)) ?_
  exact nx h
 refine exit (seq ?_)
 refine R [4,5,22] ?_
 refine ik h (λh=>?_) λh=>?_
 ·obtain⟨M,f45,h⟩:=oc h λ_=>Q0m
  try simp only[NRM,Int.reduceToNat]at f45
  refine seq (rg hS [4] (di1 (an f45.1 (an f45.2.1 f45.2.2))) ?_)
  exact Rf h
 obtain⟨N,g,h⟩:=oc h λ_=>Q0m
 try simp only[NRM,Int.reduceToNat]at g
 refine seq (rg hS [4] (di1 (an g.1 (an g.2.1 g.2.2))) ?_)
 exact Rf h
theorem K7n{o:Y0}(c:AllG env [S167 o,S132,S168]):Q0c env (S131 o):=by
 refine hd c (fnq func131) 28 λO X hS hX hpf hk ⟨i,j,l,m,z⟩=>λr (h:F131 o i j l m z=some r)=>gs ?_
 rw[F131]at h
 refine R [0,1,4] ?_
 refine seq (Xa2 h [0,1,4,5] (Z5 hk 0 rfl) 2 λa I h=>?_)
 refine block (Lp h (λ(t,b,d,e,f,g)=>⟨sl [(0,.ref 0 0),(1,ab i),(4,.ref 1 0),(5,.ref 2 0)],28,[V10 j l m t,V11 0 0 [],V12 b a.at_ d e f g]⟩) ?_)
 clear h
 rintro⟨t,b,d,e,f,g⟩ A h
 rw[Q6d]at h
 try dsimp only at h
 refine AW.st (block ?_)
 refine R [0,1,4,5] ?_
 refine seqJ (α:=Int×Int) (λ(n,u)=>⟨sl [(0,.ref 0 0),(1,ab i),(4,.ref 1 0),(5,.ref 2 0),(6,ai n)],28,[V10 j l m u,V11 0 0 [],V12 b a.at_ d e f g]⟩) (λx=>Z4v j l m o i (iter (Q6d j l m o i a) A) b a d e f g x=some r) ?_ ?_
 ·intro⟨n,u⟩ h
  rw[Z4v]at h
  try dsimp only at h
  refine AW.st (seq ?_)
  refine Ua1 h [0,1,4,5,6] (Z4 hk 2 rfl) λy h=>?_
  rcases Q1g h with⟨J,q,rfl⟩|⟨⟨p,C⟩,q,h⟩
  ·have D:=(hk 0 167 rfl).boom (i,j,l,m,y) q rfl rfl
   have E:=Q6g D rfl rfl
   exact dS 19 9 6 [0,1,2,3,4,5] [ai n,.ref 2 1,ai a.at_,.pv (PV.agg [.int .i64 b,.int .i64 a.at_,.str d,.slice (List.map Word.pv e),.slice (List.map Redir.pv f),.slice (List.map Cmd.pv g)]),.ref 0 0,ab i,.any,.any,.any,.any] [.gone,V11 0 0 [],V12 b a.at_ d e f g] trivial E
  dsimp only at h
  have F:=(hk 0 167 rfl).ret (i,j,l,m,y) q rfl rfl
  have H:=Q9d F rfl rfl rfl rfl
  refine dV 19 9 [6,9] [(0,0),(0,1),(1,0),(1,1),(2,0),(2,1),(3,0),(3,1),(4,0),(5,0),(6,0),(7,1),(8,1),(9,1)] [ai n,.ref 2 1,ai a.at_,.pv (PV.agg [.int .i64 b,.int .i64 a.at_,.str d,.slice (List.map Word.pv e),.slice (List.map Redir.pv f),.slice (List.map Cmd.pv g)]),.ref 0 0,ab i,.pv (V13 p),.full (List.map Cmd.pv [Cmd.mk b a.at_ d e f g,p]),.agg [ai n,ai a.at_,as_ [],.nils,.nils,.full (List.map Cmd.pv [Cmd.mk b a.at_ d e f g,p])],.any] [[(0,V10 j l m C)],[(2,.var [ai n,ai a.at_,as_ [],.nils,.nils,.full (List.map Cmd.pv [Cmd.mk b a.at_ d e f g,p])])]] [0,1,4,5] (ap0 167 hpf H) ?_
  exact nx h (Wc 2)
 refine block (seq ?_)
 refine Ua2 h [0,1,4,5,11] (Z5 hk 1 rfl) λK L h=>?_
 refine iz h (λh=>?_) λh=>?_
 ·refine G [0,1,4,5,6] ?_
  exact jn h
 refine seq (Ua2 h [0,1,4,5,14] (Z5 hk 1 rfl) λM N h=>?_)
 refine iz h (λh=>?_) λh=>?_
 ·refine G [0,1,4,5,6] ?_
  exact jn h
 exact Rt h [4]
theorem V6p{a:Y0}(c:AllG env [S131 a,S132]):Q0c env (S82 a):=by
 refine hd c (fnq func82) 17 λO X hS hX hpf hk ⟨b,d,e,f,g⟩=>λr (h:F82 a b d e f g=some r)=>gs ?_
 rw[F82]at h
 refine R [0,1,4] ?_
 refine seq (Xa2 h [0,4,5] (Z5 hk 0 rfl) 2 λi j h=>?_)
 refine seq (seq ?_)
 refine Ua2 h [4,5,10] (Z5 hk 1 rfl) λl m h=>?_
 refine ik h (λh=>?_) λh=>?_
 ·exact seq (rg hS [4] di (Rf h))
 exact Rt h [4]
theorem Y6y(c:AllG env []):Q0c env S48:=by
 refine hd c (fnq func48) 30 λO X hS hX hpf hk ⟨e,b,f,d⟩=>λr (h:F48 e b f d=some r)=>gs ?_
 rw[F48]at h
 refine seq (seq ?_)
 apply dgk mixed hS [0,11] (ordp hpf (by kernel_rfl))
 ·exact di
 refine ik h (λh=>?_) λh=>?_
 ·obtain⟨a,g,h⟩:=oc h λ_=>Q0m
  cases h
  refine dregS mixed hS hX 12 [0,1,2,3,4,5,6,7,8,9,10,11] [.ref 0 0,.ref 0 0,.ref 0 1,vTo b,.ref 0 0,.ref 0 0,.ref 0 3,ai d,.pptr [.int .i64 a.kind_,.int .i64 a.at_,.str a.text_,.str a.quoted_],.pptr [.int .i64 a.at_,.str a.text_,.str a.quoted_],ai a.at_,.ifc 73 (.int .i64 a.at_),.any] [(12,.ref 0 0),(13,.ref 0 0),(14,.ref 0 1),(15,vTo b),(16,.ref 0 0),(17,.ref 0 0),(18,.ref 0 3),(19,ai d),(20,.pptr [.int .i64 a.kind_,.int .i64 a.at_,.str a.text_,.str a.quoted_]),(21,.pptr [.int .i64 a.at_,.str a.text_,.str a.quoted_]),(22,ai a.at_),(23,.ifc 73 (.int .i64 a.at_)),(0,.ref 0 0),(11,ab (decide (d<(b.length:Int))))] rfl (by kernel_rfl) rfl (H':=[V10 e b f d]) ?_ ?_ (J9f rfl rfl rfl)
  ·repeat'(first|exact Q5f.nil|refine Q5f.cons rfl rfl rfl ?_ ?_)
   all_goals exact dv1 (an g.1 g.2.1)
  exact Q7k.panic rfl rfl rfl
 cases h
 apply regS hS hX 6 rfl
 ·exact dp
 exact J9f rfl rfl rfl
theorem V6t{b:Y0}(c:AllG env [S80,S81,S82 b,S84,S83,S48]):Q0c env (S47 b):=by
 refine hd c (fnq func47) 36 λO X hS hX hpf hk ⟨a,d,e,f,n⟩=>λr (h:F47 b a d e f n=some r)=>gs ?_
 rw[F47]at h
 refine R [0,1] ?_
 refine seq (rg hS [0,1,5] di ?_)
 refine weak (Weak.own 5 36 6 (by decide) rfl) ?_
 refine weak (Wq0 (L:=[(0,.ref 0 0),(1,ab a),(5,.vec 1 (List.length ([]:List Cmd)))]) ⟨rfl,rfl,rfl,trivial⟩) ?_
 refine seq (Ua2 h [0,1,5] (Z4 hk 0 rfl) λz A h=>?_)
 refine seq (block ?_)
 refine Lp h (λ(j,g)=>⟨sl [(0,.ref 0 0),(1,ab a),(5,.vec 1 (List.length g))],36,[V10 d e f j,rCm g]⟩) ?_
 clear h
 rintro⟨j,g⟩ C h
 rw[Z9o]at h
 try dsimp only at h
 refine AW.st (seq ?_)
 refine seq (Ua1 h [0,1,5,11] (Z5 hk 1 rfl) λD h=>?_)
 refine iz h (λh=>?_) λh=>?_
 ·refine skip (block ?_)
  refine seq (Xa2 h [0,1,5,6] (Z5 hk 2 rfl) 2 λl E h=>?_)
  replace h:=ap Cmd.pv h;obtain⟨m,o,h⟩:=h
  refine seq (rg hS [0,1,5,6] (di1 o) ?_)
  obtain⟨⟨p,q⟩,t,h⟩:=oc h (Z4 hk 0 rfl)
  refine seq (seq ?_)
  refine reg hS [(0,.ref 0 0),(1,ab a),(5,.vec 1 (List.length m)),(25,ab (p||decide (l.kind_=14)))] [V10 d e f q,rCm m,V1 l] ?_ ?_
  ·clear h hk hS hX c
   exact dh1 (cb t)
  refine ik h (λh=>?_) λh=>?_
  ·exact exit (nx h)
  refine seq (seq ?_)
  rcases bs h with⟨i,h⟩|⟨i,h⟩
  ·obtain⟨u,x,h⟩:=oc h (Z5 hk 3 rfl)
   obtain⟨F,y,h⟩:=oc h (Zt hk 4 83 u)
   refine rg hS [0,5,32] (di1 (an i (an (cb x) (ca y)))) ?_
   refine ik h (λh=>?_) λh=>?_
   ·refine Xa1 h [5] (Z4 hk 5 rfl) 1 λ_ h=>?_
    exact exit (Rt h [4])
   exact exit (Rt h [4])
  refine rg hS [0,5,32] (di1 i) ?_
  refine cF (skip (exit ?_))
  exact Rt h [4]
 exact exit (Rt h [4])
theorem V9q(c:AllG env []):Q0c env S144:=by
 refine hd c (fnq func144) 46 ?_
 rintro O X hS hX hpf hk (b:Str) (r:Bool) (h:F144 b=some r)
 refine gs ?_
 rw[F144]at h
 refine R [0] ?_
 refine seq (R [0,6,7] ?_)
 refine block (Lp h (λd=>⟨sl [(0,as_ b),(6,ai (b.length:Int)),(7,ai d)],46,[]⟩) ?_)
 clear h
 rintro d f h
 rw[J4s]at h
 try dsimp only at h
 refine AW.st (R [0,6,7,8] ?_)
 refine seq (iz h (λh=>?_) λh=>?_)
 ·refine skip (seq ?_)
  refine block (R [0,3,6,7] ?_)
  obtain⟨a,e,h⟩:=oc h λ_=>Q6h
  refine seq (rg hS [0,4,6,7] (di1 (an e.1 (an e.2.1 e.2.2))) ?_)
  refine seq (reg hS [(0,as_ b),(6,ai (b.length:Int)),(7,ai d),(42,ab (((((decide (a<97)||decide (122<a))&&(decide (a<65)||decide (90<a)))&&(decide (a<48)||decide (57<a)))&&!decide (a=95))&&!decide (a=42)))] [] ?_ ?_)
  ·clear h hk hS hX c
   exact dh
  refine ik h (λh=>?_) λh=>?_
  ·exact Rt h [2]
  refine G [0,6,7] ?_
  exact nx h
 exact exit (Rt h [2])
theorem V8h{a:Y0}{b:Y1}(c:AllG env [S84,S252 b,S81,S200 a]):Q0c env (S223 a b):=by
 refine hd c (fnq func223) 32 λO X hS hX hpf hk ⟨e,f,g,i,j⟩=>λr (h:F223 a b e f g i j=some r)=>gs ?_
 rw[F223]at h
 refine R [0,1,4] ?_
 obtain⟨n,d,h⟩:=oc h (Z5 hk 0 rfl)
 refine seq (rg hS [0,1,4,5] (di1 (an (cb d) (cb d))) ?_)
 refine R [0,1,4,5] ?_
 refine seq (xb h (Z4 hk 1 rfl) 1 ?_)
 rintro⟨o,p⟩ l h
 refine rg hS [0,1,4,5] (di1 (cb l)) ?_
 refine seq (seq ?_)
 refine Ua1 h [0,1,4,5,25] (Z5 hk 2 rfl) λq h=>?_
 refine ik h (λh=>?_) λh=>?_
 ·refine xb h (Z5 hk 3 rfl) 2 ?_
  rintro⟨t,u⟩ m h
  refine rg hS [4,5] (di1 (cb m)) ?_
  exact Rt h [4]
 exact Rt h [4]
theorem V8g{a:Y0}(c:AllG env [S84,S168,S200 a]):Q0c env (S224 a):=by
 refine hd c (fnq func224) 33 λO X hS hX hpf hk ⟨Q0k,j,b,d,e,f,l⟩=>λr (h:F224 a Q0k j b d e f l=some r)=>gs ?_
 rw[F224]at h
 refine R [0,1,2,3,8] ?_
 refine seq (Ua1 h [0,1,2,3,8,9] (Z5 hk 0 rfl) λg h=>?_)
 refine R [0,1,3,8,9] ?_
 refine seqJ (α:=Int) (λi=>⟨sl [(0,.ref 0 0),(3,ab b),(8,.ref 1 0),(9,.ref 2 0)],33,[V10 d e f i,V11 0 0 [],V11 Q0k g.at_ []]⟩) (λx=>Z4o a b d e f Q0k g x=some r) ?_ ?_
 ·intro i h
  rw[Z4o]at h
  try dsimp only at h
  refine AW.st (seq ?_)
  refine xb h (Z5 hk 2 rfl) 2 ?_
  rintro⟨n,o⟩ m h
  refine rg hS [8,9] (di1 (cb m)) ?_
  exact Rt h [8]
 refine R [0,3,8,9,24] ?_
 refine ik h (λh=>?_) λh=>?_
 ·refine Ua1 h [0,3,8,9] (Z4 hk 1 rfl) λp h=>?_
  exact jn h
 exact jn h
theorem V7o(c:AllG env [S84,S132,S48]):Q0c env S255:=by
 refine hd c (fnq func255) 16 λO X hS hX hpf hk ⟨a,b,d,e,f⟩=>λr (h:F255 a b d e f=some r)=>gs ?_
 rw[F255]at h
 refine R [0,1] ?_
 refine seq (Ua1 h [0,1,5] (Z5 hk 0 rfl) λg h=>?_)
 refine seq (seq ?_)
 refine Ua2 h [0,5,12] (Z5 hk 1 rfl) λi j h=>?_
 refine ik h (λh=>?_) λh=>?_
 ·refine Xa1 h [5] (Z4 hk 2 rfl) 1 λ_ h=>?_
  exact Rt h [4]
 exact Rt h [4]
theorem V7q{a:Y0}(c:AllG env [S255,S47 a]):Q0c env (S253 a):=by
 refine hd c (fnq func253) 11 λO X hS hX hpf hk ⟨b,d,e,f⟩=>λr (h:F253 a b d e f=some r)=>gs ?_
 rw[F253]at h
 refine R [0] ?_
 refine seq (Xa2 h [0] (Z5 hk 0 rfl) 1 λg i h=>?_)
 refine seq (Xa2 h [0,3] (Z5 hk 1 rfl) 1 λj l h=>?_)
 refine seq (Xa2 h [3] (Z5 hk 0 rfl) 1 λm n h=>?_)
 exact Rt h [2]
end Go.Abs.U48
