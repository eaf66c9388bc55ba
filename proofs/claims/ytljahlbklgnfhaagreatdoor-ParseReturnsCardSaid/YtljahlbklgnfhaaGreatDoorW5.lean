import Derived.Test.YtljahlbklgnfhaaGreatDoorD1
set_option linter.unusedVariables false
set_option linter.unusedSimpArgs false
set_option maxRecDepth 8000
set_option maxHeartbeats 4000000
namespace Go.Abs.U48
open Go.RowKit Go.Proofs AW
open Go.Proofs.Tryz
theorem V6x(c:AllG env [S74]):Q0c env S288:=by
 refine hd c (fnq func288) 13 λO X hS hX hpf hk ⟨e,f⟩=>λr (h:F288 e f=some r)=>gs ?_
 rw[F288]at h
 refine R [0,1] ?_
 refine seq (seq ?_)
 refine Ua1 h [0,1,7] (Zt2 hk 0 rfl) λg h=>?_
 refine ik h (λh=>?_) λh=>?_
 ·obtain⟨i,a,h⟩:=oc h λ_=>Q1l
  try simp only[NRM,Int.reduceToNat]at a
  have b:=a.2.2.2.2
  try simp only[NRM,Int.reduceToNat]at b
  have d:=a.2.2.1
  try simp only[NRM,Int.reduceToNat]at d
  refine seq (rg hS [4] (di1 (an a.1 (an a.2.1 (an d (an a.2.2.2.1 b))))) ?_)
  exact Rf h
 exact Rt h [4]
theorem V7c(c:AllG env [S288]):Q0c env S276:=by
 refine hd c (fnq func276) 8 λO X hS hX hpf hk ⟨a,b⟩=>λr (h:F276 a b=some r)=>gs ?_
 rw[F276]at h
 refine R [0,1] ?_
 refine seq (Ua1 h [4] (Zt2 hk 0 rfl) λd h=>?_)
 exact Rf h
theorem V9f(c:AllG env []):Q0c env S155:=by
 refine hd c (fnq func155) 21 λO X hS hX hpf hk ⟨b,a⟩=>λr (h:F155 b a=some r)=>gs ?_
 rw[F155]at h
 refine R [0,1] ?_
 obtain⟨f,f6,h⟩:=oc h λ_ q=>X0w (Q0d q)
 try simp only[NRM,Int.reduceToNat]at f6
 have d:=f6.2.2.2.2
 try simp only[NRM,Int.reduceToNat]at d
 have e:=f6.2.2.1
 try simp only[NRM,Int.reduceToNat]at e
 refine seq (reg hS [(4,ab (decide ((a.length:Int)<=(b.length:Int))&&decide (f=a)))] [] ?_ ?_)
 ·clear h hk hS hX c
  exact dh1 (an f6.1 (an f6.2.1 (an e (an f6.2.2.2.1 d))))
 exact Rf h
theorem V6y(c:AllG env [S155]):Q0c env S287:=by
 refine hd c (fnq func287) 16 λO X hS hX hpf hk ⟨e,f⟩=>λr (h:F287 e f=some r)=>gs ?_
 rw[F287]at h
 refine R [0,1] ?_
 refine seq (seq ?_)
 refine Ua1 h [0,1,7] (Zt2 hk 0 rfl) λg h=>?_
 refine ik h (λh=>?_) λh=>?_
 ·obtain⟨i,a,h⟩:=oc h λ_=>Q1l
  try simp only[NRM,Int.reduceToNat]at a
  have b:=a.2.2.2.2
  try simp only[NRM,Int.reduceToNat]at b
  have d:=a.2.2.1
  try simp only[NRM,Int.reduceToNat]at d
  refine seq (rg hS [4] (di1 (an a.1 (an a.2.1 (an d (an a.2.2.2.1 b))))) ?_)
  exact Rf h
 exact Rt h [4]
theorem V7d(c:AllG env [S287]):Q0c env S275:=by
 refine hd c (fnq func275) 8 λO X hS hX hpf hk ⟨a,b⟩=>λr (h:F275 a b=some r)=>gs ?_
 rw[F275]at h
 refine R [0,1] ?_
 refine seq (Ua1 h [4] (Zt2 hk 0 rfl) λd h=>?_)
 exact Rf h
theorem V7b(c:AllG env [J9l]):Q0c env S277:=by
 refine hd c (fnq func277) 11 ?_
 rintro O X hS hX hpf hk (a:Str) (r:Int) (h:F277 a=some r)
 refine gs ?_
 rw[F277]at h
 refine R [0] ?_
 refine seq (Ua2 h [3] (Zt hk 0 199 a) λb d h=>?_)
 exact Rt h [2]
theorem V7p{i:Y1}(c:AllG env [S84,Z3f,Q0z,S42,S276,S275,X2w,S277,S252 i]):Q0c env (S254 i):=by
 refine hd c (fnq func254) 102 λO X hS hX hpf hk ⟨a,b,d,e⟩=>λr (h:F254 i a b d e=some r)=>gs ?_
 rw[F254]at h
 refine R [0,2] ?_
 refine seq (Ua1 h [0,2,3] (Z5 hk 0 rfl) λo h=>?_)
 refine seq (R [0,2,3,16] ?_)
 refine ik h (λh=>?_) λh=>?_
 ·refine seq ?_
  obtain⟨K,q,h⟩:=oc h λ_=>Q0m
  apply dgk mixed hS [0,2,3,4] (ordp hpf (by kernel_rfl))
  ·exact di1 (an q.1 q.2.1)
  refine R [2,3,4] ?_
  refine seq (Ua1 h [2,3,5] (Zt2 hk 1 rfl) λL h=>?_)
  refine seq ?_
  obtain⟨M,F,h⟩:=oc h (Zt2 hk 2 rfl)
  apply dgB mixed hS [(2,some 1),(3,some 2),(5,some 3),(40,some 2)] [2] rfl (ordB hpf (B:=[(2,some 1),(3,some 2),(5,some 3),(40,some 2)]) (by kernel_rfl))
  ·exact di1 (ca F)
  exact Rf h
 refine R [0,2,3] ?_
 refine R [0,2,3,6] ?_
 obtain⟨N,f,h⟩:=oc h λ_=>Q1l
 try simp only[NRM,Int.reduceToNat]at f
 have t:=f.2.2.2.2
 try simp only[NRM,Int.reduceToNat]at t
 have u:=f.2.2.1
 try simp only[NRM,Int.reduceToNat]at u
 refine seq (rg hS [0,2,3,6,7] (di1 (an f.1 (an f.2.1 (an u (an f.2.2.2.1 t))))) ?_)
 refine seqJ (α:=Str×Int×Int) (λ(y,j,z)=>⟨sl [(0,.ref 0 0),(2,.ref 1 0),(6,.ref 3 0),(7,as_ y)],102,[V10 a b d (IntKind.wrap .i64 (e+1)),V15 0 0 0 0 [] [] false,V7 o,.var [ai j,ai z,ai 0,ai 0,as_ [],as_ [],vWo [],vC [],ab false]]⟩) (λx=>Q2x e i a b d x=some r) ?_ ?_
 ·intro⟨y,j,z⟩ h
  rw[Q2x]at h
  try dsimp only at h
  refine AW.st (seqJ (α:=Int) (λA=>⟨sl [(0,.ref 0 0),(2,.ref 1 0),(6,.ref 3 0)],102,[V10 a b d (IntKind.wrap .i64 (e+1)),V15 0 0 0 0 [] [] false,V7 o,.var [ai j,ai A,ai 0,ai 0,as_ [],as_ [],vWo [],vC [],ab false]]⟩) (λx=>Q9o i a b d e j x=some r) ?_ ?_)
  ·intro A h
   rw[Q9o]at h
   try dsimp only at h
   refine AW.st (seq ?_)
   refine Xa2 h [2,6] (Z4 hk 8 rfl) 1 λP Q h=>?_
   exact Rt h [2]
  refine R [0,2,6,7,69] ?_
  refine ik h (λh=>?_) λh=>?_
  ·obtain⟨S,l,h⟩:=oc h (Zt2 hk 4 rfl)
   replace l:=ca l
   try simp only[PVE]at l
   obtain⟨T,m,h⟩:=oc h (Zt2 hk 5 rfl)
   replace m:=ca m
   try simp only[PVE]at m
   refine seq (rg hS [0,2,6,8] (di1 (an l m)) ?_)
   refine seq (Ua3 h [0,2,6,9,10,11] (Zt2 hk 6 rfl) λH p C h=>?_)
   refine seq (Ua1 h [0,2,6,10,11] (Zt hk 7 277 H) λI h=>?_)
   refine block (seq ?_)
   refine reg hS [(0,.ref 0 0),(2,.ref 1 0),(6,.ref 3 0),(10,as_ p),(11,ab C),(82,ab (C&&decide (p=[])))] [V10 a b d (IntKind.wrap .i64 (e+1)),V15 0 0 0 0 [] [] false,V7 o,.var [ai j,ai I,ai 0,ai 0,as_ [],as_ [],vWo [],vC [],ab false]] ?_ ?_
   ·clear h hk hS hX c
    exact dh
   refine iz h (λh=>?_) λh=>?_
   ·exact Rt h [2]
   refine R [0,2,6,10,91] ?_
   refine ik h (λh=>?_) λh=>?_
   ·refine seq ?_
    obtain⟨U,J,h⟩:=oc h (Zt hk 7 277 p)
    apply dgB mixed hS [(2,some 1),(6,some 3),(93,some 3)] [2] rfl (ordB hpf (B:=[(2,some 1),(6,some 3),(93,some 3)]) (by kernel_rfl))
    ·exact di1 (ca J)
    exact Rf h
   exact jn h
  exact jn h
 obtain⟨V,n,h⟩:=oc h λ_=>Q6h
 try simp only[NRM,Int.reduceToNat]at n
 refine block (seq ?_)
 refine rg hS [0,2,6,7,56] (di1 (an n.1 (an n.2.1 n.2.2))) ?_
 refine iz h (λh=>?_) λh=>?_
 ·refine G [0,2,6,7] ?_
  exact jn h
 refine seq (Ua1 h [0,2,6,7,62] (Zt2 hk 3 rfl) λW h=>?_)
 refine ik h (λh=>?_) λh=>?_
 ·refine R [0,2,6,7] ?_
  obtain⟨Y,g,h⟩:=oc h λ_=>Q1l
  try simp only[NRM,Int.reduceToNat]at g
  have D:=g.2.2.2.2
  try simp only[NRM,Int.reduceToNat]at D
  have E:=g.2.2.1
  try simp only[NRM,Int.reduceToNat]at E
  refine rg hS [0,2,6,7] (di1 (an g.1 (an g.2.1 (an E (an g.2.2.2.1 D))))) ?_
  exact jn h
 exact jn h
theorem V8f{g:Y0}{i:Y1}(c:AllG env [S84,S253 g,S130,S254 i]):Q0c env (S225 g i):=by
 refine hd c (fnq func225) 21 λO X hS hX hpf hk ⟨a,b,d,j⟩=>λr (h:F225 g i a b d j=some r)=>?_
 have u:O.pf 254=false:=pft hpf 254 rfl
 refine gs ?_
 rw[F225]at h
 refine R [0,2] ?_
 refine seq ?_
 obtain⟨l,q,h⟩:=oc h (Z5 hk 0 rfl)
 rcases Q1g h with⟨M,m,rfl⟩|⟨⟨n,N⟩,m,h⟩
 ·have x:=(hk 1 253 rfl).boom (a,b,d,j) m rfl rfl
  have y:=Q6g x rfl rfl
  apply regS hS hX 4 rfl
  ·exact dp1 (an (cb q) y)
  exact J9f rfl rfl rfl
 dsimp only at h
 have z:=(hk 1 253 rfl).ret (a,b,d,j) m rfl rfl
 have A:=Q9d z rfl rfl rfl rfl
 refine AW.after ?_
 refine rg hS [0,2,3] (di1 (an (cb q) (ap0 253 hpf A))) ?_
 refine oC Redir.pv 2 4 51 9 ?_
 refine seq (block ?_)
 refine Lp h (λ(f,e)=>⟨sl [(0,.ref 0 0),(2,.ref 1 0),(3,.ref 2 0)],21,[V10 a b d f,V11 0 0 [],V17 12 l.at_ [] e.length n,rRe e]⟩) ?_
 clear h
 rintro⟨f,e⟩ P h
 rw[Z1w]at h
 try dsimp only at h
 obtain⟨C,D,h⟩:=oc h (Z5 hk 0 rfl)
 obtain⟨Q,E,h⟩:=oc h (Zt hk 2 130 C)
 refine AW.st (seq ?_)
 refine seq (rg hS [0,2,3,12] (di1 (an (cb D) (ca E))) ?_)
 refine iz h (λh=>?_) λh=>?_
 ·refine skip (block ?_)
  rcases Q1g h with⟨S,o,rfl⟩|⟨⟨t,F⟩,o,h⟩
  ·have H:=(hk 3 254 rfl).boom (a,b,d,f) o rfl rfl
   have I:=Q6g H rfl rfl
   exact dS 13 7 3 [0,1,2] [.ref 2 4,.vec 3 (List.length e),.ref 0 0,.any,.any,.any,.any,.any] [.gone,V11 0 0 [],V17 12 l.at_ [] e.length n,rRe e] trivial I
  dsimp only at h
  have J:=(hk 3 254 rfl).ret (a,b,d,f) o rfl rfl
  have K:=Q9d J rfl rfl rfl rfl
  replace h:=ap Redir.pv h;obtain⟨p,L,h⟩:=h
  refine dV 13 7 [3,5,7] [(0,0),(0,1),(1,0),(1,1),(2,0),(3,0),(4,1),(5,1),(6,2),(7,2)] [.ref 2 4,.vec 3 (List.length e),.ref 0 0,.pv (V19 t),.full [V19 t],.vec 3 (List.length p),.ref 2 4,.any] [[(0,V10 a b d F)],[(3,rRe p)],[(2,V17 12 l.at_ [] p.length n)]] [0,2,3] (an u (an K L)) ?_
  exact nx h
 exact exit (Rt h [2])
theorem V8e{e:Y0}(c:AllG env [S84,S255,S47 e,S168,S200 e]):Q0c env (S226 e):=by
 refine hd c (fnq func226) 38 λO X hS hX hpf hk ⟨Q0k,a,f,g,i,o⟩=>λr (h:F226 e Q0k a f g i o=some r)=>gs ?_
 rw[F226]at h
 refine R [0,1,2,6] ?_
 refine seq (Ua1 h [0,2,6,7] (Z5 hk 0 rfl) λm h=>?_)
 refine R [0,2,6,7] ?_
 refine seq (Xa2 h [0,2,6,7,8] (Z5 hk 1 rfl) 1 λb x h=>?_)
 refine seq (Xa2 h [0,2,6,7,8] (Z5 hk 2 rfl) 1 λd y h=>?_)
 refine seq (Xa2 h [0,2,6,7,8] (Z5 hk 1 rfl) 1 λz A h=>?_)
 refine seq (Ua1 h [0,2,6,7,8] (Z4 hk 3 rfl) λn h=>?_)
 refine seq ?_
 rcases Q1g h with⟨C,j,rfl⟩|⟨⟨l,p⟩,j,h⟩
 ·have q:=(hk 4 200 rfl).boom (a,f,g,i,n) j rfl rfl
  have e47:=Q6g q rfl rfl
  exact dS 31 6 3 [0,1,2] [.agg [ai 12,ai b,as_ [],.nils,.nils,vC d],.ref 0 0,ab a,.any,.any,.any,.any] [.gone,V11 0 0 [],V11 Q0k m.at_ [],V16 12 b [] d] trivial e47
 dsimp only at h
 have t:=(hk 4 200 rfl).ret (a,f,g,i,n) j rfl rfl
 have u:=Q9d t rfl rfl rfl rfl
 refine dV 31 6 [3,6] [(0,0),(0,1),(1,0),(2,0),(3,0),(4,1),(5,1),(6,1)] [.agg [ai 12,ai b,as_ [],.nils,.nils,vC d],.ref 0 0,ab a,.pv (V13 l),.full (List.map Cmd.pv [Cmd.mk 12 b [] [] [] d,l]),.ref 2 5,.any] [[(0,V10 f g i p)],[(2,.var [ai Q0k,ai m.at_,as_ [],.nils,.nils,.full (List.map Cmd.pv [Cmd.mk 12 b [] [] [] d,l])])]] [6,7] (ap0 200 hpf u) ?_
 exact Rt h [6]
theorem V7n(c:AllG env [S84,S133,S144,S48]):Q0c env S256:=by
 refine hd c (fnq func256) 26 λO X hS hX hpf hk ⟨d,e,f,g⟩=>λr (h:F256 d e f g=some r)=>gs ?_
 rw[F256]at h
 refine R [0] ?_
 refine seq (Ua1 h [0,3] (Z5 hk 0 rfl) λa h=>?_)
 obtain⟨i,j,h⟩:=oc h (Zt hk 1 133 a)
 obtain⟨l,b,h⟩:=obs h
 replace b:=Q0d b
 have m:=λn=>(hk 2 144 rfl).ret a.text_ (b n) rfl rfl
 refine seq (seq ?_)
 refine reg hS [(0,.ref 0 0),(3,.ref 1 0),(14,ab (!i||!l))] [V10 d e f g,V7 a] ?_ ?_
 ·clear h hk hS hX c
  exact dh1 (an (ca j) (ap1 144 hpf m))
 refine ik h (λh=>?_) λh=>?_
 ·refine Xa1 h [0,3] (Z4 hk 3 rfl) 1 λ_ h=>?_
  refine R [3] ?_
  exact Rt h [2]
 refine R [3] ?_
 exact Rt h [2]
theorem V7m{a:Y1}(c:AllG env [S168,S84,S129,S252 a]):Q0c env (S257 a):=by
 refine hd c (fnq func257) 16 λO X hS hX hpf hk ⟨d,e,f,i⟩=>λr (h:F257 a d e f i=some r)=>gs ?_
 rw[F257]at h
 refine R [0] ?_
 refine seq (rg hS [0,3] di ?_)
 refine weak (Weak.own 3 49 5 (by decide) rfl) ?_
 refine weak (Wq0 (L:=[(0,.ref 0 0),(3,.vec 1 (List.length ([]:List Word)))]) ⟨rfl,rfl,trivial⟩) ?_
 refine block (Lp h (λ(g,b)=>⟨sl [(0,.ref 0 0),(3,.vec 1 (List.length b))],16,[V10 d e f g,rWo b]⟩) ?_)
 clear h
 rintro⟨g,b⟩ p h
 rw[Z1u]at h
 try dsimp only at h
 refine AW.st (block ?_)
 refine seq (Ua1 h [0,3] (Z4 hk 0 rfl) λq h=>?_)
 obtain⟨j,l,h⟩:=oc h (Z5 hk 1 rfl)
 obtain⟨t,m,h⟩:=oc h (Zt hk 2 129 j)
 refine seq (seq ?_)
 refine rg hS [0,3,9] (di1 (an (cb l) (ca m))) ?_
 refine ik h (λh=>?_) λh=>?_
 ·exact Rt h [2]
 refine xb h (Z4 hk 3 rfl) 2 ?_
 rintro⟨u,x⟩ n h
 replace h:=ap Word.pv h;obtain⟨y,o,h⟩:=h
 refine rg hS [0,3] (di1 (an (cb n) o)) ?_
 exact nx h
theorem V8d{a:Y0}{b:Y1}(c:AllG env [S84,S255,S256,S83,S257 b,S168,S200 a]):Q0c env (S227 a b):=by
 refine hd c (fnq func227) 49 λO X hS hX hpf hk ⟨d,e,f,g,i⟩=>λr (h:F227 a b d e f g i=some r)=>gs ?_
 rw[F227]at h
 refine R [0,1,4] ?_
 refine seq (Ua1 h [0,1,4,5] (Z5 hk 0 rfl) λp h=>?_)
 refine R [0,1,4,5] ?_
 refine seq (Xa2 h [0,1,4,5] (Z5 hk 1 rfl) 1 λq t h=>?_)
 refine seq (Xa2 h [0,1,4,5] (Z4 hk 2 rfl) 1 λu x h=>?_)
 obtain⟨j,l,h⟩:=oc h (Z5 hk 0 rfl)
 obtain⟨y,m,h⟩:=oc h (Zt hk 3 83 j)
 refine seq (seq ?_)
 refine rg hS [0,1,4,5,25] (di1 (an (cb l) (ca m))) ?_
 refine iz h (λh=>?_) λh=>?_
 ·refine R [0,1,4,5] ?_
  refine Xa2 h [0,1,4,5] (Z4 hk 4 rfl) 1 λz A h=>?_
  refine seq (Xa2 h [0,1,4,5] (Z5 hk 1 rfl) 1 λC D h=>?_)
  refine seq (Ua1 h [0,1,4,5] (Z4 hk 5 rfl) λE h=>?_)
  refine seq (xb h (Z5 hk 6 rfl) 2 ?_)
  rintro⟨F,H⟩ n h
  refine rg hS [4,5] (di1 (cb n)) ?_
  exact Rt h [4]
 refine rg hS [0,1,4,5] di ?_
 refine seq (Xa2 h [0,1,4,5] (Z5 hk 1 rfl) 1 λI J h=>?_)
 refine seq (Ua1 h [0,1,4,5] (Z4 hk 5 rfl) λK h=>?_)
 refine seq (xb h (Z5 hk 6 rfl) 2 ?_)
 rintro⟨L,M⟩ o h
 refine rg hS [4,5] (di1 (cb o)) ?_
 exact Rt h [4]
theorem V7l{j:Y0}{l:Y1}(c:AllG env [S84,S252 l,S129,S80,S47 j]):Q0c env (S258 j l):=by
 refine hd c (fnq func258) 35 λO X hS hX hpf hk ⟨a,b,d,z⟩=>λr (h:F258 j l a b d z=some r)=>?_
 have x:O.pf 252=false:=pft hpf 252 rfl
 refine gs ?_
 rw[F258]at h
 refine R [0,2] ?_
 refine seq (Ua1 h [0,2,3] (Z5 hk 0 rfl) λe h=>?_)
 refine R [0,2,3] ?_
 refine seq (xb h (Z4 hk 1 rfl) 1 ?_)
 rintro⟨f,p⟩ A h
 refine rg hS [0,2,3] (di1 (cb A)) ?_
 refine seq (block ?_)
 refine Lq r (Q9n a b d l j e) (λ(m,g)=>⟨sl [(0,.ref 0 0),(2,.ref 1 0),(3,.ref 2 0)],35,[V10 a b d m,V11 0 0 [],V18 18 e.at_ [] g.length,rWo g]⟩) ?_ ?_
 ·obtain⟨C,D,h⟩:=oc h (Z5 hk 0 rfl)
  obtain⟨E,F,h⟩:=oc h (Zt hk 2 129 C)
  refine seq (seq ?_)
  refine rg hS [0,2,3,21] (di1 (an (cb D) (ca F))) ?_
  refine iz h (λh=>?_) λh=>?_
  ·refine skip (block ?_)
   rcases Q1g h with⟨Y,q,rfl⟩|⟨⟨n,o⟩,q,h⟩
   ·have H:=(hk 1 252 rfl).boom (a,b,d,p) q rfl rfl
    have I:=Q6g H rfl rfl
    exact dS 22 7 3 [0,1,2] [.ref 2 3,.full [V14 f],.ref 0 0,.any,.any,.any,.any,.any] [.gone,V11 0 0 [],.var [ai 18,ai e.at_,as_ [],.full [V14 f],.nils,.nils]] trivial I
   dsimp only at h
   have J:=(hk 1 252 rfl).ret (a,b,d,p) q rfl rfl
   have K:=Q9d J rfl rfl rfl rfl
   replace h:=ap Word.pv h;obtain⟨i,L,h⟩:=h
   refine dregV mixed hS [3,5,7] [(0,0),(0,1),(1,0),(1,1),(2,0),(3,0),(4,1),(5,1),(6,2),(7,2)] [.ref 2 3,.full [V14 f],.ref 0 0,.pv (V14 n),.full [V14 n],.vec 3 (List.length i),.ref 2 3,.any] [[V10 a b d p,V11 0 0 [],.var [ai 18,ai e.at_,as_ [],.full [V14 f],.nils,.nils]],[V10 a b d o,V11 0 0 [],.var [ai 18,ai e.at_,as_ [],.full [V14 f],.nils,.nils]],[V10 a b d o,V11 0 0 [],.var [ai 18,ai e.at_,as_ [],.full [V14 f],.nils,.nils],rWo i],[V10 a b d o,V11 0 0 [],V18 18 e.at_ [] i.length,rWo i]] [(22,.ref 2 3),(23,.full [V14 f]),(24,.ref 0 0),(25,.pv (V14 n)),(26,.full [V14 n]),(27,.vec 3 (List.length i)),(28,.ref 2 3),(0,.ref 0 0),(2,.ref 1 0),(3,.ref 2 0),(21,ab E)] (by kernel_rfl) (by kernel_rfl) (by kernel_rfl) ?_ [(0,.ref 0 0),(2,.ref 1 0),(3,.ref 2 0)] [V10 a b d o,V11 0 0 [],V18 18 e.at_ [] i.length,rWo i] ⟨rfl,rfl,rfl,trivial⟩ rfl ?_
   ·repeat'(first|exact Q5f.nil|refine Q5f.cons rfl rfl rfl ?_ ?_)
    all_goals exact dv1 (an x (an K L))
   exact ny h
  refine exit (seq ?_)
  refine seq (Ua2 h [0,2,3,30] (Z4 hk 3 rfl) λaa ac h=>?_)
  refine ik h (λh=>?_) λh=>?_
  ·refine Xa2 h [2,3] (Z5 hk 4 rfl) 1 λad ae h=>?_
   exact Rt h [2]
  exact Rt h [2]
 clear h
 rintro⟨m,g⟩ af h
 unfold Q9n at h
 try dsimp only at h
 obtain⟨M,N,h⟩:=oc h (Z5 hk 0 rfl)
 obtain⟨ag,P,h⟩:=oc h (Zt hk 2 129 M)
 refine AW.st (seq ?_)
 refine seq (rg hS [0,2,3,21] (di1 (an (cb N) (ca P))) ?_)
 refine iz h (λh=>?_) λh=>?_
 ·refine skip (block ?_)
  rcases Q1g h with⟨ah,t,rfl⟩|⟨⟨y,Q⟩,t,h⟩
  ·have S:=(hk 1 252 rfl).boom (a,b,d,m) t rfl rfl
   have T:=Q6g S rfl rfl
   exact dS 22 7 3 [0,1,2] [.ref 2 3,.vec 3 (List.length g),.ref 0 0,.any,.any,.any,.any,.any] [.gone,V11 0 0 [],V18 18 e.at_ [] g.length,rWo g] trivial T
  dsimp only at h
  have U:=(hk 1 252 rfl).ret (a,b,d,m) t rfl rfl
  have V:=Q9d U rfl rfl rfl rfl
  replace h:=ap Word.pv h;obtain⟨u,W,h⟩:=h
  refine dV 22 7 [3,5,7] [(0,0),(0,1),(1,0),(1,1),(2,0),(3,0),(4,1),(5,1),(6,2),(7,2)] [.ref 2 3,.vec 3 (List.length g),.ref 0 0,.pv (V14 y),.full [V14 y],.vec 3 (List.length u),.ref 2 3,.any] [[(0,V10 a b d Q)],[(3,rWo u)],[(2,V18 18 e.at_ [] u.length)]] [0,2,3] (an x (an V W)) ?_
  exact nx h
 refine exit (seq ?_)
 refine seq (Ua2 h [0,2,3,30] (Z4 hk 3 rfl) λak al h=>?_)
 refine ik h (λh=>?_) λh=>?_
 ·refine Xa2 h [2,3] (Z5 hk 4 rfl) 1 λam ao h=>?_
  exact Rt h [2]
 exact Rt h [2]
theorem V8c{i:Y0}{f:Y1}(c:AllG env [S84,S252 f,S255,S80,S83,S258 i f]):Q0c env (S228 i f):=by
 refine hd c (fnq func228) 37 λO X hS hX hpf hk ⟨b,d,e,p⟩=>λr (h:F228 i f b d e p=some r)=>?_
 have q:O.pf 258=false:=pft hpf 258 rfl
 refine gs ?_
 rw[F228]at h
 refine R [0,2] ?_
 obtain⟨j,t,h⟩:=oc h (Z5 hk 0 rfl)
 refine seq (AW.after ?_)
 refine rg hS [0,2,3] (di1 (cb t)) ?_
 refine oC Cmd.pv 2 5 36 6 ?_
 refine R [0,2,3] ?_
 refine seq (xb h (Z4 hk 1 rfl) 1 ?_)
 rintro⟨l,I⟩ u h
 refine rg hS [0,2,3] (di1 (cb u)) ?_
 refine seq (Xa2 h [0,2,3] (Z5 hk 2 rfl) 1 λJ K h=>?_)
 refine seq (Ua2 h [0,2,3] (Z4 hk 3 rfl) λL M h=>?_)
 refine seq (block ?_)
 refine Lp h (λ(g,a)=>⟨sl [(0,.ref 0 0),(2,.ref 1 0),(3,.ref 2 0)],37,[V10 b d e g,V11 0 0 [],.var [ai 17,ai j.at_,as_ [],.full [V14 l],.nils,.vec 3 (List.length a)],rCm a]⟩) ?_
 clear h
 rintro⟨g,a⟩ N h
 rw[Z1v]at h
 try dsimp only at h
 obtain⟨x,y,h⟩:=oc h (Z5 hk 0 rfl)
 obtain⟨P,z,h⟩:=oc h (Zt hk 4 83 x)
 refine AW.st (seq ?_)
 refine seq (rg hS [0,2,3,26] (di1 (an (cb y) (ca z))) ?_)
 refine iz h (λh=>?_) λh=>?_
 ·refine skip (block ?_)
  rcases Q1g h with⟨Q,m,rfl⟩|⟨⟨o,A⟩,m,h⟩
  ·have C:=(hk 5 258 rfl).boom (b,d,e,g) m rfl rfl
   have D:=Q6g C rfl rfl
   exact dS 27 7 3 [0,1,2] [.ref 2 5,.vec 3 (List.length a),.ref 0 0,.any,.any,.any,.any,.any] [.gone,V11 0 0 [],.var [ai 17,ai j.at_,as_ [],.full [V14 l],.nils,.vec 3 (List.length a)],rCm a] trivial D
  dsimp only at h
  have E:=(hk 5 258 rfl).ret (b,d,e,g) m rfl rfl
  have F:=Q9d E rfl rfl rfl rfl
  replace h:=ap Cmd.pv h;obtain⟨n,H,h⟩:=h
  refine dV 27 7 [3,5,7] [(0,0),(0,1),(1,0),(1,1),(2,0),(3,0),(4,1),(5,1),(6,2),(7,2)] [.ref 2 5,.vec 3 (List.length a),.ref 0 0,.pv (V13 o),.full [V13 o],.vec 3 (List.length n),.ref 2 5,.any] [[(0,V10 b d e A)],[(3,rCm n)],[(2,.var [ai 17,ai j.at_,as_ [],.full [V14 l],.nils,.vec 3 (List.length n)])]] [0,2,3] (an q (an F H)) ?_
  exact nx h
 refine exit (seq ?_)
 refine Xa2 h [2,3] (Z5 hk 2 rfl) 1 λS T h=>?_
 exact Rt h [2]
end Go.Abs.U48
