import Derived.Test.YtljahlbklgnfhaaGreatDoorD1
set_option linter.unusedVariables false
set_option linter.unusedSimpArgs false
set_option maxRecDepth 8000
set_option maxHeartbeats 4000000
namespace Go.Abs.U48
open Go.RowKit Go.Proofs AW
open Go.Proofs.Tryz
theorem V7f(c:AllG env []):Q0c env S264:=by
 refine hd c (fnq func264) 28 ?_
 rintro O X hS hX hpf hk (w1:Word) (r:Bool) (h:F264 w1=some r)
 refine gs ?_
 rw[F264]at h
 refine R [1] ?_
 refine seq (reg hS [(2,ab ((((decide (w1.kind_=0)&&decide (w1.text_=[]))&&decide (w1.quoted_=[]))&&decide ((w1.words_.length:Int)=0))&&decide ((w1.cmd_.length:Int)=0)))] [V2 w1] ?_ ?_)
 ·clear h hk hS hX c
  exact dh
 exact Rf h
theorem V7t{f:Y3}(c:AllG env [S234 f,S108,S263,Q0z,S264]):Q0c env (S237 f):=by
 refine hd c (fnq func237) 102 ?_
 rintro O X hS hX hpf hk (a:Redir) (r:Bool) (h:F237 f a=some r)
 have p:O.pf 263=true:=pft hpf 263 rfl
 refine gs ?_
 rw[F237]at h
 refine R [1] ?_
 refine seq (seq ?_)
 refine reg hS [(1,.ref 0 0),(41,ab (((((decide (a.fd_<0)||decide (64<=a.fd_))||decide (a.from_<0))||decide (64<=a.from_))||(!decide (a.kind_=4)&&a.raw_))||(!decide (a.kind_=5)&&!decide (a.from_=0))))] [V0 a] ?_ ?_
 ·clear h hk hS hX c
  exact dh
 refine ik h (λh=>?_) λh=>?_
 ·exact Rt h [2]
 refine seq (R [1,43] ?_)
 refine block (seqM ⟨sl [(1,.ref 0 0),(43,ai a.kind_),(44,ab (bif decide (a.kind_=1)then decide (a.kind_=1)else(bif decide (a.kind_=2)then decide (a.kind_=2)else decide (a.kind_=3))))],102,[V0 a]⟩ ?_ ?_)
 ·refine R [1,43,44] ?_
  refine cond (b:=decide (a.kind_=1)) rfl (λe=>?_) (λe=>?_)
  ·exact skip (Weak.of_eq (Wq0 (L:=[(1,.ref 0 0),(43,ai a.kind_),(44,ab (decide (a.kind_=1)))]) kp) (wq e))
  refine R [1,43,44] ?_
  refine cond (b:=decide (a.kind_=2)) rfl (λg=>?_) (λg=>?_)
  ·exact skip (Weak.of_eq (Wq0 (L:=[(1,.ref 0 0),(43,ai a.kind_),(44,ab (decide (a.kind_=2)))]) kp) (by simp only[e,g,G1a,G0v,Q1x,G0m,G0o]<;>rfl))
  refine G [1,43,44] ?_
  exact Weak.of_eq (Wq0 (L:=[(1,.ref 0 0),(43,ai a.kind_),(44,ab (decide (a.kind_=3)))]) kp) (by simp only[e,g,G1a,G0v,Q1x,G0m,G0o]<;>rfl)
 refine iz h (λh=>?_) λh=>?_
 ·refine seq (Ua1 h [2] (Zt hk 0 234 a.word_) λy h=>?_)
  exact Rf h
 refine R [1,43,51] ?_
 refine iz h (λh=>?_) λh=>?_
 ·refine R [1,3] ?_
  obtain⟨n,i,h⟩:=obs h
  replace i:=Q0d i
  have o:=λd=>(hk 1 108 rfl).ret (a.word_.text_,([10]:Str)) (i d) rfl rfl
  try simp only[PVE]at o
  refine seq (reg hS [(1,.ref 0 0),(3,.ref 1 0),(4,ab (decide (a.word_.text_=[])||n))] [V0 a,V3 a] ?_ ?_)
  ·clear h hk hS hX c
   exact dh1 (ap1 108 hpf o)
  obtain⟨q,j,h⟩:=obs h
  replace j:=Q0d j
  have t:=λd=>(hk 2 263 rfl).ret a.word_ (j d) rfl rfl
  obtain⟨u,l,h⟩:=obs h
  replace l:=Q0d l
  have x:=λd=>(hk 3 40 rfl).ret (a.word_.quoted_,49) (l d) rfl rfl
  refine seq (reg hS [(2,ab ((((((decide (a.fd_=0)&&decide (a.word_.kind_=1))&&decide ((a.word_.words_.length:Int)=0))&&decide ((a.word_.cmd_.length:Int)=0))&&q)&&decide (u<0))&&(decide (a.word_.text_=[])||n)))] [V0 a,V3 a] ?_ ?_)
  ·clear h hk hS hX c
   exact dh1 (an p (an t (ap1 40 hpf x)))
  exact Rf h
 refine seqM ⟨sl [(1,.ref 0 0),(96,ab (bif decide (a.kind_=5)then decide (a.kind_=5)else decide (a.kind_=6)))],102,[V0 a]⟩ ?_ ?_
 ·refine R [1,43,96] ?_
  refine cond (b:=decide (a.kind_=5)) rfl (λm=>?_) (λm=>?_)
  ·exact skip (Weak.of_eq (Wq0 (L:=[(1,.ref 0 0),(96,ab (decide (a.kind_=5)))]) kp) (wq m))
  refine G [1,96] ?_
  exact Weak.of_eq (Wq0 (L:=[(1,.ref 0 0),(96,ab (decide (a.kind_=6)))]) kp) (wq m)
 refine ik h (λh=>?_) λh=>?_
 ·refine seq (Ua1 h [2] (Zt hk 4 264 a.word_) λz h=>?_)
  exact Rf h
 exact Rt h [2]
theorem V7u{a:Y3}(c:AllG env [S237 a]):Q0c env (S236 a):=by
 refine hd c (fnq func236) 6 ?_
 rintro O X hS hX hpf hk (b:Redir) (r:Bool) (h:F236 a b=some r)
 refine gs ?_
 rw[F236]at h
 refine R [1] ?_
 refine seq (Ua1 h [2] (Zt hk 0 237 b) λd h=>?_)
 exact Rf h
theorem V7h{a:Y3}(c:AllG env [S236 a]):Q0c env (S262 a):=by
 refine hd c (fnq func262) 19 ?_
 rintro O X hS hX hpf hk (b:(List Redir)) (r:Int) (h:F262 a b=some r)
 refine gs ?_
 rw[F262]at h
 refine R [0,1] ?_
 refine seq (R [0,1,7,8] ?_)
 refine block (Lp h (λd=>⟨sl [(0,vRe b),(1,.fn 236 []),(7,ai (b.length:Int)),(8,ai d)],19,[]⟩) ?_)
 clear h
 rintro d i h
 rw[J9w]at h
 try dsimp only at h
 refine AW.st (R [0,1,7,8,9] ?_)
 refine seq (iz h (λh=>?_) λh=>?_)
 ·refine skip (seq ?_)
  refine block (R [0,1,5,7,8] ?_)
  obtain⟨f,e,h⟩:=oc h λ_=>Q0m
  obtain⟨j,g,h⟩:=oc h (Zt hk 0 236 f)
  refine seq (rg hS [0,1,5,7,8,16] (di1 (an e.1 (an e.2.1 (ca g)))) ?_)
  refine ik h (λh=>?_) λh=>?_
  ·exact Rt h [4]
  refine G [0,1,7,8] ?_
  exact nx h
 exact exit (Rt h [4])
theorem V7v{a:Y3}(c:AllG env [S262 a]):Q0c env (S235 a):=by
 refine hd c (fnq func235) 9 ?_
 rintro O X hS hX hpf hk (b:(List Redir)) (r:Bool) (h:F235 a b=some r)
 refine gs ?_
 rw[F235]at h
 refine R [0,1] ?_
 refine seq (Ua1 h [4] (Z hk 0 262 b) λd h=>?_)
 exact Rf h
theorem V8n{a:Y3}(c:AllG env [S235 a]):Q0c env (S209 a):=by
 refine hd c (fnq func209) 6 ?_
 rintro O X hS hX hpf hk (b:(List Redir)) (r:Bool) (h:F209 a b=some r)
 refine gs ?_
 rw[F209]at h
 refine R [0] ?_
 refine seq (Ua1 h [2] (Z hk 0 235 b) λd h=>?_)
 exact Rf h
theorem V8m{b:Y4}(c:AllG env [S99,S29 b]):Q0c env (S210 b):=by
 refine hd c (fnq func210) 16 ?_
 rintro O X hS hX hpf hk (a:Cmd) (r:Bool) (h:F210 b a=some r)
 have g:O.pf 99=true:=pft hpf 99 rfl
 refine gs ?_
 rw[F210]at h
 refine R [1] ?_
 obtain⟨i,d,h⟩:=obs h
 replace d:=Q0d d
 have j:=λe=>(hk 0 99 rfl).ret (a,Shape.mk false false false) (d e) rfl rfl
 obtain⟨l,f,h⟩:=obs h
 replace f:=Q0d f
 have m:=λe=>(hk 1 29 rfl).ret a.kids_ (f e) rfl rfl
 refine seq (reg hS [(2,ab ((decide (a.kind_=12)&&i)&&l))] [V1 a] ?_ ?_)
 ·clear h hk hS hX c
  exact dh1 (an g (an j (ap1 29 hpf m)))
 exact Rf h
theorem V8k{d:Y4}{e:Y3}(c:AllG env [S99,S207 e,S29 d]):Q0c env (S212 d e):=by
 refine hd c (fnq func212) 27 ?_
 rintro O X hS hX hpf hk (a:Cmd) (r:Bool) (h:F212 d e a=some r)
 have j:O.pf 99=true:=pft hpf 99 rfl
 have l:O.pf 207=true:=pft hpf 207 rfl
 refine gs ?_
 rw[F212]at h
 refine R [1] ?_
 obtain⟨m,f,h⟩:=obs h
 replace f:=Q0d f
 have n:=λb=>(hk 0 99 rfl).ret (a,Shape.mk false true false) (f b) rfl rfl
 obtain⟨o,g,h⟩:=obs h
 replace g:=Q0d g
 have p:=λb=>(hk 1 207 rfl).ret a.words_ (g b) rfl rfl
 obtain⟨q,i,h⟩:=obs h
 replace i:=Q0d i
 have t:=λb=>(hk 2 29 rfl).ret a.kids_ (i b) rfl rfl
 refine seq (reg hS [(2,ab ((((decide (a.kind_=18)&&m)&&decide (1<=(a.words_.length:Int)))&&o)&&q))] [V1 a] ?_ ?_)
 ·clear h hk hS hX c
  exact dh1 (an j (an n (an l (an p (ap1 29 hpf t)))))
 exact Rf h
theorem V8l{a:Y4}{b:Y3}(c:AllG env [S212 a b]):Q0c env (S211 a b):=by
 refine hd c (fnq func211) 6 ?_
 rintro O X hS hX hpf hk (k1:Cmd) (r:Bool) (h:F211 a b k1=some r)
 refine gs ?_
 rw[F211]at h
 refine R [1] ?_
 refine seq (Ua1 h [2] (Zt hk 0 212 k1) λd h=>?_)
 exact Rf h
theorem V1e{a:Y4}{b:Y3}(c:AllG env [S211 a b]):Q0c env (V2k a b):=by
 refine hd c K4t 19 ?_
 rintro O X hS hX hpf hk (d:(List Cmd)) (r:Int) (h:K1q a b d=some r)
 refine gs ?_
 rw[K1q]at h
 refine R [0,1] ?_
 refine seq (R [0,1,7,8] ?_)
 refine block (Lp h (λe=>⟨sl [(0,vC d),(1,.fn 211 []),(7,ai (d.length:Int)),(8,ai e)],19,[]⟩) ?_)
 clear h
 rintro e j h
 rw[J4h]at h
 try dsimp only at h
 refine AW.st (R [0,1,7,8,9] ?_)
 refine seq (iz h (λh=>?_) λh=>?_)
 ·refine skip (seq ?_)
  refine block (R [0,1,5,7,8] ?_)
  obtain⟨g,f,h⟩:=oc h λ_=>Q0m
  obtain⟨l,i,h⟩:=oc h (Zt hk 0 211 g)
  refine seq (rg hS [0,1,5,7,8,16] (di1 (an f.1 (an f.2.1 (ca i)))) ?_)
  refine ik h (λh=>?_) λh=>?_
  ·exact Rt h [4]
  refine G [0,1,7,8] ?_
  exact nx h
 exact exit (Rt h [4])
theorem V1j{a:Y4}{b:Y3}(c:AllG env [V2k a b]):Q0c env (V2m a b):=by
 refine hd c K4u 9 ?_
 rintro O X hS hX hpf hk (d:(List Cmd)) (r:Bool) (h:X6a a b d=some r)
 refine gs ?_
 rw[X6a]at h
 refine R [0,1] ?_
 refine seq (Ua1 h [4] (Z hk 0 85 d) λe h=>?_)
 exact Rf h
theorem V8j{g:Y3}(c:AllG env [S207 g,S209 g,Q0z,S134]):Q0c env (S213 g):=by
 refine hd c (fnq func213) 66 ?_
 rintro O X hS hX hpf hk (a:Cmd) (r:Bool) (h:F213 g a=some r)
 have y:O.pf 40=true:=pft hpf 40 rfl
 have z:O.pf 207=true:=pft hpf 207 rfl
 refine gs ?_
 rw[F213]at h
 refine R [1] ?_
 obtain⟨A,l,h⟩:=obs h
 replace l:=Q0d l
 have C:=λb=>(hk 0 207 rfl).ret a.words_ (l b) rfl rfl
 obtain⟨D,m,h⟩:=obs h
 replace m:=Q0d m
 have E:=λb=>(hk 1 209 rfl).ret a.redirs_ (m b) rfl rfl
 refine seq (seq ?_)
 refine reg hS [(1,.ref 0 0),(24,ab ((decide (IntKind.wrap .i64 ((a.words_.length:Int)+(a.redirs_.length:Int))=0)||!A)||!D))] [V1 a] ?_ ?_
 ·clear h hk hS hX c
  exact dh1 (an z (an C (ap1 209 hpf E)))
 refine ik h (λh=>?_) λh=>?_
 ·exact Rt h [2]
 refine seq (R [1,28] ?_)
 refine ik h (λh=>?_) λh=>?_
 ·exact Rt h [2]
 obtain⟨I,n,h⟩:=oc h λ_=>Q0m
 try simp only[NRM,Int.reduceToNat]at n
 refine seq (rg hS [3] (di1 (an n.1 n.2.1)) ?_)
 refine seqJ (α:=Int×Str×Str×(List Word)×(List Cmd)) (λ(e,d,f,i,j)=>⟨sl [(3,.ref 1 0)],66,[V1 a,V4 e d f i j]⟩) (λx=>Z4p x=some r) ?_ ?_
 ·intro⟨e,d,f,i,j⟩ h
  rw[Z4p]at h
  try dsimp only at h
  obtain⟨t,o,h⟩:=obs h
  replace o:=Q0d o
  have F:=λb=>(hk 2 40 rfl).ret (f,49) (o b) rfl rfl
  obtain⟨u,p,h⟩:=obs h
  replace p:=Q0d p
  have H:=λb=>(hk 3 134 rfl).ret d (p b) rfl rfl
  refine AW.st (seq ?_)
  refine reg hS [(3,.ref 1 0),(4,ab ((decide (e=1)&&decide (t<0))&&u))] [V1 a,V4 e d f i j] ?_ ?_
  ·clear h hk hS hX c
   exact dh1 (an y (an F (ap1 134 hpf H)))
  refine seq (reg hS [(2,ab ((!((decide (e=1)&&decide (t<0))&&u)||decide (d=[110,111,116]))||decide (d=[105,110])))] [V1 a,V4 e d f i j] ?_ ?_)
  ·clear h hk hS hX c
   exact dh
  exact Rf h
 refine R [3,35] ?_
 refine ik h (λh=>?_) λh=>?_
 ·obtain⟨J,q,h⟩:=oc h λ_=>Q0m
  try simp only[NRM,Int.reduceToNat]at q
  refine rg hS [3] (di1 (an q.1 q.2.1)) ?_
  exact jn h
 exact jn h
theorem V8z{f i:Y4}{e:Y3}(c:AllG env [S99,S207 e,S208 i,S29 f,S209 e,S210 f,S182 i,V2m f e,S213 e]):Q0c env (S182 (F182 f i e)):=by
 refine hd c (fnq func182) 169 ?_
 rintro O X hS hX hpf hk (a:Cmd) (r:Bool) (h:F182 f i e a=some r)
 have M:O.pf 29=true:=pft hpf 29 rfl
 have j:O.pf 207=true:=pft hpf 207 rfl
 have N:O.pf 210=true:=pft hpf 210 rfl
 refine gs ?_
 rw[F182]at h
 refine R [1] ?_
 refine seq (R [1,4] ?_)
 refine block (R [1,4,5] ?_)
 refine iz h (λh=>?_) λh=>?_
 ·obtain⟨P,f6,h⟩:=oc h (Zt2 hk 0 rfl)
  obtain⟨Q,m,h⟩:=obs h
  replace m:=Q0d m
  have S:=λd=>(hk 1 207 rfl).ret a.words_ (m d) rfl rfl
  obtain⟨T,n,h⟩:=obs h
  replace n:=Q0d n
  have U:=λd=>(hk 2 208 rfl).ret a.kids_ (n d) rfl rfl
  refine seq (reg hS [(2,ab (((P&&decide ((a.words_.length:Int)=1))&&Q)&&(decide ((a.kids_.length:Int)=0)||T)))] [V1 a] ?_ ?_)
  ·clear h hk hS hX c
   exact dh1 (an (ca f6) (an j (an S (ap1 208 hpf U))))
  exact Rf h
 refine seqM ⟨sl [(1,.ref 0 0),(4,ai a.kind_),(32,ab (bif decide (a.kind_=7)then decide (a.kind_=7)else(bif decide (a.kind_=13)then decide (a.kind_=13)else decide (a.kind_=9))))],169,[V1 a]⟩ ?_ ?_
 ·refine R [1,4,32] ?_
  refine cond (b:=decide (a.kind_=7)) rfl (λl=>?_) (λl=>?_)
  ·exact skip (Weak.of_eq (Wq0 (L:=[(1,.ref 0 0),(4,ai a.kind_),(32,ab (decide (a.kind_=7)))]) kp) (wq l))
  refine R [1,4,32] ?_
  refine cond (b:=decide (a.kind_=13)) rfl (λo=>?_) (λo=>?_)
  ·exact skip (Weak.of_eq (Wq0 (L:=[(1,.ref 0 0),(4,ai a.kind_),(32,ab (decide (a.kind_=13)))]) kp) (by simp only[l,o,G1a,G0v,Q1x,G0m,G0o]<;>rfl))
  refine G [1,4,32] ?_
  exact Weak.of_eq (Wq0 (L:=[(1,.ref 0 0),(4,ai a.kind_),(32,ab (decide (a.kind_=9)))]) kp) (by simp only[l,o,G1a,G0v,Q1x,G0m,G0o]<;>rfl)
 refine iz h (λh=>?_) λh=>?_
 ·obtain⟨V,W,h⟩:=oc h (Zt2 hk 0 rfl)
  obtain⟨Y,p,h⟩:=obs h
  replace p:=Q0d p
  have aa:=λd=>(hk 2 208 rfl).ret a.kids_ (p d) rfl rfl
  refine seq (reg hS [(2,ab (V&&Y))] [V1 a] ?_ ?_)
  ·clear h hk hS hX c
   exact dh1 (an (ca W) (ap1 208 hpf aa))
  exact Rf h
 refine R [1,4,44] ?_
 refine iz h (λh=>?_) λh=>?_
 ·obtain⟨ac,ad,h⟩:=oc h (Zt2 hk 0 rfl)
  obtain⟨ae,t,h⟩:=obs h
  replace t:=Q0d t
  have af:=λd=>(hk 3 29 rfl).ret a.kids_ (t d) rfl rfl
  obtain⟨ag,u,h⟩:=obs h
  replace u:=Q0d u
  have ah:=λd=>(hk 4 209 rfl).ret a.redirs_ (u d) rfl rfl
  refine seq (reg hS [(2,ab ((ac&&ae)&&ag))] [V1 a] ?_ ?_)
  ·clear h hk hS hX c
   exact dh1 (an (ca ad) (an M (an af (ap1 209 hpf ah))))
  exact Rf h
 refine seqM ⟨sl [(1,.ref 0 0),(4,ai a.kind_),(59,ab (bif decide (a.kind_=8)then decide (a.kind_=8)else decide (a.kind_=11)))],169,[V1 a]⟩ ?_ ?_
 ·refine R [1,4,59] ?_
  refine cond (b:=decide (a.kind_=8)) rfl (λx=>?_) (λx=>?_)
  ·exact skip (Weak.of_eq (Wq0 (L:=[(1,.ref 0 0),(4,ai a.kind_),(59,ab (decide (a.kind_=8)))]) kp) (wq x))
  refine G [1,4,59] ?_
  exact Weak.of_eq (Wq0 (L:=[(1,.ref 0 0),(4,ai a.kind_),(59,ab (decide (a.kind_=11)))]) kp) (wq x)
 refine iz h (λh=>?_) λh=>?_
 ·obtain⟨ak,al,h⟩:=oc h (Zt2 hk 0 rfl)
  obtain⟨am,y,h⟩:=oc h λ_ q=>Q8v (Q0d q)
  try simp only[NRM,Int.reduceToNat]at y
  obtain⟨ao,z,h⟩:=obs h
  replace z:=Q0d z
  have aq:=λd=>(hk 5 210 rfl).ret am (z d) rfl rfl
  obtain⟨ar,f45,h⟩:=oc h λ_ q=>Q8v (Q0d q)
  try simp only[NRM,Int.reduceToNat]at f45
  obtain⟨au,A,h⟩:=obs h
  replace A:=Q0d A
  have av:=λd=>(hk 6 182 rfl).ret ar (A d) rfl rfl
  refine seq (reg hS [(2,ab (((ak&&decide ((a.kids_.length:Int)=2))&&ao)&&au))] [V1 a] ?_ ?_)
  ·clear h hk hS hX c
   exact dh1 (an (ca al) (an y.1 (an y.2.1 (an N (an aq (an f45.1 (an f45.2.1 (ap1 182 hpf av))))))))
  exact Rf h
 refine R [1,4,85] ?_
 refine iz h (λh=>?_) λh=>?_
 ·obtain⟨aw,ay,h⟩:=oc h (Zt2 hk 0 rfl)
  obtain⟨az,C,h⟩:=obs h
  replace C:=Q0d C
  have aA:=λd=>(hk 1 207 rfl).ret a.words_ (C d) rfl rfl
  obtain⟨aB,D,h⟩:=obs h
  replace D:=Q0d D
  have aD:=λd=>(hk 2 208 rfl).ret a.kids_ (D d) rfl rfl
  refine seq (reg hS [(2,ab ((aw&&az)&&aB))] [V1 a] ?_ ?_)
  ·clear h hk hS hX c
   exact dh1 (an (ca ay) (an j (an aA (ap1 208 hpf aD))))
  exact Rf h
 refine R [1,4,100] ?_
 refine iz h (λh=>?_) λh=>?_
 ·obtain⟨aX,J,h⟩:=oc h (Zt2 hk 0 rfl)
  obtain⟨aY,E,h⟩:=obs h
  replace E:=Q0d E
  have K:=λd=>(hk 1 207 rfl).ret a.words_ (E d) rfl rfl
  refine seq ?_
  rcases bs h with⟨g,h⟩|⟨g,h⟩
  ·try simp only[G0d,G2n]at g
   obtain⟨aE,aF,h⟩:=oc h (Z hk 7 49 a.kids_)
   refine reg hS [(2,ab (!aE))] [V1 a] ?_ ?_
   ·clear h hk hS hX c
    exact dh1 (an (ca J) (an j (an K (an g (cc aF)))))
   exact Rf h
  try simp only[G0d,G2n]at g
  refine reg hS [(2,ab false)] [V1 a] ?_ ?_
  ·clear h hk hS hX c
   exact dh1 (an (ca J) (an j (an K g)))
  exact Rf h
 refine R [1,4,122] ?_
 refine iz h (λh=>?_) λh=>?_
 ·obtain⟨aG,aH,h⟩:=oc h (Zt2 hk 0 rfl)
  obtain⟨aI,F,h⟩:=obs h
  replace F:=Q0d F
  have aL:=λd=>(hk 3 29 rfl).ret a.kids_ (F d) rfl rfl
  refine seq (reg hS [(2,ab (aG&&aI))] [V1 a] ?_ ?_)
  ·clear h hk hS hX c
   exact dh1 (an (ca aH) (ap1 29 hpf aL))
  exact Rf h
 refine R [1,4,132] ?_
 refine iz h (λh=>?_) λh=>?_
 ·obtain⟨aM,aN,h⟩:=oc h (Zt2 hk 0 rfl)
  obtain⟨aO,H,h⟩:=obs h
  replace H:=Q0d H
  have aP:=λd=>(hk 1 207 rfl).ret a.words_ (H d) rfl rfl
  refine seq (reg hS [(2,ab (((aM&&decide (1<=(a.words_.length:Int)))&&decide ((a.kids_.length:Int)=0))&&aO))] [V1 a] ?_ ?_)
  ·clear h hk hS hX c
   exact dh1 (an (ca aN) (ap1 207 hpf aP))
  exact Rf h
 refine R [1,154] ?_
 refine ik h (λh=>?_) λh=>?_
 ·obtain⟨aQ,aS,h⟩:=oc h (Zt2 hk 0 rfl)
  obtain⟨aU,I,h⟩:=obs h
  replace I:=Q0d I
  have aV:=λd=>(hk 8 213 rfl).ret a (I d) rfl rfl
  refine seq (reg hS [(2,ab ((aQ&&decide ((a.kids_.length:Int)=0))&&aU))] [V1 a] ?_ ?_)
  ·clear h hk hS hX c
   exact dh1 (an (ca aS) (ap1 213 hpf aV))
  exact Rf h
 exact Rt h [2]
theorem V7a(c:AllG env [S263,Q0z]):Q0c env S278:=by
 refine hd c (fnq func278) 44 ?_
 rintro O X hS hX hpf hk (w1:Word) (r:Bool) (h:F278 w1=some r)
 have n:O.pf 40=true:=pft hpf 40 rfl
 refine gs ?_
 rw[F278]at h
 refine R [1] ?_
 refine seq (seq ?_)
 refine Ua1 h [1,7] (Zt hk 0 263 w1) λt h=>?_
 refine ik h (λh=>?_) λh=>?_
 ·exact Rt h [2]
 refine seq (R [1,10,11] ?_)
 refine block (Lp h (λa=>⟨sl [(1,.ref 0 0),(10,ai (w1.text_.length:Int)),(11,ai a)],44,[V2 w1]⟩) ?_)
 clear h
 rintro a u h
 rw[Q4w]at h
 try dsimp only at h
 refine AW.st (R [1,10,11,12] ?_)
 refine seq (iz h (λh=>?_) λh=>?_)
 ·refine skip (seq ?_)
  refine block (R [1,3,10,11] ?_)
  obtain⟨i,b,h⟩:=oc h λ_=>Q6h
  refine seq (rg hS [1,3,4,10,11] (di1 (an b.1 (an b.2.1 b.2.2))) ?_)
  obtain⟨j,d,h⟩:=oc h λ_ q=>Q8n (Q0d q)
  obtain⟨o,e,h⟩:=obs h
  replace e:=Q0d e
  have l:=λf=>(hk 1 40 rfl).ret (([32,9,10,59,38,124,40,41,123,125,60,62,61,94,96,36,39]:Str),j) (e f) rfl rfl
  try simp only[PVE]at l
  obtain⟨p,g,h⟩:=obs h
  replace g:=Q0d g
  have m:=λf=>(hk 1 40 rfl).ret (([35,33,64]:Str),j) (g f) rfl rfl
  try simp only[PVE]at m
  refine seq (reg hS [(1,.ref 0 0),(10,ai (w1.text_.length:Int)),(11,ai a),(42,ab ((decide (i=48)&&decide (0<=o))||((decide (i=48)&&decide (a=0))&&decide (0<=p))))] [V2 w1] ?_ ?_)
  ·clear h hk hS hX c
   exact dh1 (an d.1 (an d.2.1 (an d.2.2 (an n (an l m)))))
  refine ik h (λh=>?_) λh=>?_
  ·exact Rt h [2]
  refine G [1,10,11] ?_
  exact nx h
 exact exit (Rt h [2])
theorem V7j{e:Y4}{f:Y3}(c:AllG env [S144,S278,S207 f,S29 e]):Q0c env (S260 (F260 e f)):=by
 refine hd c (fnq func260) 97 ?_
 rintro O X hS hX hpf hk (w1:Word) (r:Bool) (h:F260 e f w1=some r)
 refine gs ?_
 rw[F260]at h
 refine R [1] ?_
 obtain⟨a,n,h⟩:=oc h (Zt hk 0 144 w1.text_)
 refine seq (reg hS [(1,.ref 0 0),(3,ab ((a&&decide (w1.quoted_=[]))&&decide ((w1.cmd_.length:Int)=0)))] [V2 w1] ?_ ?_)
 ·clear h hk hS hX c
  exact dh1 (ca n)
 refine seq (reg hS [(1,.ref 0 0),(3,ab ((a&&decide (w1.quoted_=[]))&&decide ((w1.cmd_.length:Int)=0))),(4,ab (decide (w1.text_=[])&&decide (w1.quoted_=[])))] [V2 w1] ?_ ?_)
 ·clear h hk hS hX c
  exact dh
 refine seq (R [1,3,4,28] ?_)
 refine block (R [1,3,4,28,29] ?_)
 refine iz h (λh=>?_) λh=>?_
 ·obtain⟨o,g,h⟩:=obs h
  replace g:=Q0d g
  have p:=λd=>(hk 1 278 rfl).ret w1 (g d) rfl rfl
  refine seq (reg hS [(2,ab ((decide ((w1.words_.length:Int)=0)&&decide ((w1.cmd_.length:Int)=0))&&o))] [V2 w1] ?_ ?_)
  ·clear h hk hS hX c
   exact dh1 (ap1 278 hpf p)
  exact Rf h
 refine seqM ⟨sl [(1,.ref 0 0),(3,ab ((a&&decide (w1.quoted_=[]))&&decide ((w1.cmd_.length:Int)=0))),(4,ab (decide (w1.text_=[])&&decide (w1.quoted_=[]))),(28,ai w1.kind_),(45,ab (bif decide (w1.kind_=2)then decide (w1.kind_=2)else decide (w1.kind_=3)))],97,[V2 w1]⟩ ?_ ?_
 ·refine R [1,3,4,28,45] ?_
  refine cond (b:=decide (w1.kind_=2)) rfl (λi=>?_) (λi=>?_)
  ·exact skip (Weak.of_eq (Wq0 (L:=[(1,.ref 0 0),(3,ab ((a&&decide (w1.quoted_=[]))&&decide ((w1.cmd_.length:Int)=0))),(4,ab (decide (w1.text_=[])&&decide (w1.quoted_=[]))),(28,ai w1.kind_),(45,ab (decide (w1.kind_=2)))]) kp) (wq i))
  refine G [1,3,4,28,45] ?_
  exact Weak.of_eq (Wq0 (L:=[(1,.ref 0 0),(3,ab ((a&&decide (w1.quoted_=[]))&&decide ((w1.cmd_.length:Int)=0))),(4,ab (decide (w1.text_=[])&&decide (w1.quoted_=[]))),(28,ai w1.kind_),(45,ab (decide (w1.kind_=3)))]) kp) (wq i)
 refine iz h (λh=>?_) λh=>?_
 ·refine seq (reg hS [(2,ab (((a&&decide (w1.quoted_=[]))&&decide ((w1.cmd_.length:Int)=0))&&decide ((w1.words_.length:Int)=0)))] [V2 w1] ?_ ?_)
  ·clear h hk hS hX c
   exact dh
  exact Rf h
 refine R [1,3,4,28,55] ?_
 refine iz h (λh=>?_) λh=>?_
 ·obtain⟨q,j,h⟩:=obs h
  replace j:=Q0d j
  have t:=λd=>(hk 2 207 rfl).ret w1.words_ (j d) rfl rfl
  refine seq (reg hS [(2,ab ((((a&&decide (w1.quoted_=[]))&&decide ((w1.cmd_.length:Int)=0))&&decide (1<=(w1.words_.length:Int)))&&q))] [V2 w1] ?_ ?_)
  ·clear h hk hS hX c
   exact dh1 (ap1 207 hpf t)
  exact Rf h
 refine R [1,4,28,69] ?_
 refine iz h (λh=>?_) λh=>?_
 ·obtain⟨u,l,h⟩:=obs h
  replace l:=Q0d l
  have x:=λd=>(hk 2 207 rfl).ret w1.words_ (l d) rfl rfl
  refine seq (reg hS [(2,ab (((decide (w1.text_=[])&&decide (w1.quoted_=[]))&&decide ((w1.cmd_.length:Int)=0))&&u))] [V2 w1] ?_ ?_)
  ·clear h hk hS hX c
   exact dh1 (ap1 207 hpf x)
  exact Rf h
 refine R [1,4,83] ?_
 refine ik h (λh=>?_) λh=>?_
 ·obtain⟨y,m,h⟩:=obs h
  replace m:=Q0d m
  have z:=λd=>(hk 3 29 rfl).ret w1.cmd_ (m d) rfl rfl
  refine seq (reg hS [(2,ab (((decide (w1.text_=[])&&decide (w1.quoted_=[]))&&decide ((w1.words_.length:Int)=0))&&y))] [V2 w1] ?_ ?_)
  ·clear h hk hS hX c
   exact dh1 (ap1 29 hpf z)
  exact Rf h
 exact Rt h [2]
theorem Y7r(c:AllG env [S21,S29 (K98 BIG)]):Q0c env S13:=by
 refine hd c (fnq func13) 9 ?_
 rintro O X hS hX hpf hk (a:(List Cmd)) (r:Bool) (h:F13 a=some r)
 refine gs ?_
 rw[F13]at h
 refine R [0] ?_
 obtain⟨e,f,h⟩:=oc h (Zt hk 0 21 a)
 obtain⟨g,b,h⟩:=obs h
 have d:=hk 1 29 rfl
 replace b:=Q0d b
 replace d:=λi=>d.ret a (b i) rfl rfl
 refine seq (reg hS [(2,ab (e&&g))] [] ?_ ?_)
 ·clear h hk hS hX c
  exact dh1 (an (ca f) (ap1 29 hpf d))
 exact Rf h
theorem Y0b(c:AllG env [S163]):Q0c env S123:=by
 refine hd c (fnq func123) 19 λO X hS hX hpf hk ⟨b,e,a⟩=>λr (h:F123 b e a=some r)=>gs ?_
 rw[F123]at h
 refine R [0,1] ?_
 refine seq (Ua1 h [0,1] (Z2 hk 0 rfl) λ_ h=>?_)
 refine seq (AW.after ?_)
 refine weak (Weak.explode 0 rfl) ?_
 refine weak (σ':=⟨sl [(0,.ref 0 0),(1,as_ b)],19,[V22 e.length a.length,.brow 5 e,rRe a]⟩) (Weak.of_eq (Wq0 (L:=[(0,.ref 0 0),(1,as_ b)]) ⟨rfl,rfl,trivial⟩) (by first|rfl|(simp only[G1h];rfl))) ?_
 obtain⟨d,f,h⟩:=obs h
 have i:=Y8p f
 have g:Q6p env [V22 e.length a.length,.brow 5 e,rRe a] 58 9 (.vec 1 (List.length e)) (as_ b)=some (.vec 1 (List.length d),[V22 e.length a.length,.brow 5 d,rRe a]):=X5e T_58 T_9 T_5 rfl rfl f
 refine rg hS [1] (di1 g) ?_
 refine⟨⟨sl [(1,as_ b)],19,[.prn 5 d 51 9 (List.map Redir.pv a),.moved 5 1 (List.length d),.moved 51 9 (List.length a)]⟩,(Weak.trans (Weak.implode (σ:=⟨sl [(1,as_ b)],19,[V22 d.length a.length,.brow 5 d,rRe a]⟩) 0 1 2 rfl rfl rfl rfl (by first|rfl|simp only[G1h])) (Weak.of_eq (σ'':=⟨sl [(1,as_ b)],19,[.prn 5 d 51 9 (List.map Redir.pv a),.moved 5 1 (List.length d),.moved 51 9 (List.length a)]⟩) (Wq0 (L:=[(1,as_ b)]) ⟨rfl,trivial⟩) (by first|rfl|(simp only[G1h];rfl)))),?_⟩
 exact Rt h [4,5]
theorem Y0k(c:AllG env [S123]):Q0c env S103:=by
 refine hd c (fnq func103) 18 λO X hS hX hpf hk ⟨a,g,b⟩=>λr (h:F103 a g b=some r)=>gs ?_
 rw[F103]at h
 refine R [0,6,7,8] ?_
 refine block (Lp h (λ(d,e)=>⟨sl [(0,.ref 0 0),(6,.pv (.slice (List.map PV.str a))),(7,ai (a.length:Int)),(8,ai d)],18,[.prn 5 e 51 9 (List.map Redir.pv b)]⟩) ?_)
 clear h
 rintro⟨d,e⟩ i h
 rw[X0i]at h
 try dsimp only at h
 refine AW.st (R [0,6,7,8,9] ?_)
 refine seq (iz h (λh=>?_) λh=>?_)
 ·obtain⟨j,f,h⟩:=oc h λ_=>Q0m
  refine skip (seq ?_)
  refine block (seq ?_)
  refine rg hS [0,5,6,7,8] (di1 (an f.1 f.2.1)) ?_
  refine Ua2 h [0,6,7,8] (Z3 hk 0 rfl) λl m h=>?_
  refine G [0,6,7,8] ?_
  exact nx h
 exact ex h
theorem Y0e(c:AllG env [X2v,Z9i]):Q0c env S109:=by
 refine hd c (fnq func109) 13 ?_
 rintro O X hS hX hpf hk (d r:Str) (h:F109 d=some r)
 refine gs ?_
 rw[F109]at h
 refine R [0] ?_
 refine seq (Ua1 h [3] (Zt2 hk 0 rfl) λe h=>?_)
 refine R [3,4] ?_
 refine seq (block ?_)
 refine Lp h (λb=>⟨sl [(3,.pv (.slice (List.map PV.str e))),(4,as_ b)],13,[]⟩) ?_
 clear h
 rintro b f h
 rw[Z4y]at h
 try dsimp only at h
 refine AW.st (seq ?_)
 refine seq (Ua1 h [3,4,9] (Zt2 hk 1 rfl) λg h=>?_)
 refine iz h (λh=>?_) λh=>?_
 ·obtain⟨i,a,h⟩:=oc h λ_=>Z3a
  try simp only[LNS,G1z,Nat.reduceAdd,Nat.reduceLeDiff,G3m,Nat.reduceMul]at a
  refine skip (block ?_)
  refine rg hS [3,4] (di1 (an a.1 a.2)) ?_
  exact nx h
 exact exit (Rt h [2])
theorem Y6r(c:AllG env [S36,S108,S103,S109]):Q0c env S67:=by
 refine hd c (fnq func67) 38 λO X hS hX hpf hk ⟨m,b⟩=>λr (h:F67 m b=some r)=>gs ?_
 rw[F67]at h
 refine seqJ (α:=Str) (λj=>⟨sl [(0,.ref 0 0)],38,[.prn 5 j 51 9 (List.map Redir.pv b)]⟩) (λx=>J1x b x=some r) ?_ ?_
 ·intro j h
  rw[J1x]at h
  try dsimp only at h
  refine AW.st (seq ?_)
  refine Ua1 h [0] (Z3 hk 2 rfl) λd h=>?_
  refine seq (seq ?_)
  refine AW.after ?_
  refine weak (Weak.explode 0 rfl) ?_
  refine weak (σ':=⟨sl [(0,.ref 0 0)],38,[V22 d.length b.length,.brow 5 d,rRe b]⟩) (Weak.of_eq (Wq0 (L:=[(0,.ref 0 0)]) ⟨rfl,trivial⟩) (by first|rfl|(simp only[G1h];rfl))) ?_
  refine G [0,18,19,20] ?_
  refine⟨⟨sl [(0,.ref 0 0),(18,vRe b),(19,ai (b.length:Int)),(20,ai 0)],38,[.prn 5 d 51 9 (List.map Redir.pv b),.moved 5 1 (List.length d),.moved 51 9 (List.length b)]⟩,(Weak.trans (Weak.slotPV (σ:=⟨sl [(0,.ref 0 0),(18,.vec 2 (List.length b)),(19,ai (b.length:Int)),(20,ai 0)],38,[V22 d.length b.length,.brow 5 d,rRe b]⟩) 18 (a:=.vec 2 (List.length b)) (p:=.slice (List.map Redir.pv b)) rfl (by first|rfl|simp only[toPV,G0s,G1f,G1h,if_true,G3q])) (Weak.trans (Weak.of_eq (σ'':=⟨sl [(0,.ref 0 0),(18,vRe b),(19,ai (b.length:Int)),(20,ai 0)],38,[V22 d.length b.length,.brow 5 d,rRe b]⟩) (Wq0 (L:=[(0,.ref 0 0),(18,vRe b),(19,ai (b.length:Int)),(20,ai 0)]) ⟨rfl,rfl,rfl,rfl,trivial⟩) (by first|rfl|(simp only[G1h];rfl))) (Weak.trans (Weak.implode (σ:=⟨sl [(0,.ref 0 0),(18,vRe b),(19,ai (b.length:Int)),(20,ai 0)],38,[V22 d.length b.length,.brow 5 d,rRe b]⟩) 0 1 2 rfl rfl rfl rfl (by first|rfl|simp only[G1h])) (Weak.of_eq (σ'':=⟨sl [(0,.ref 0 0),(18,vRe b),(19,ai (b.length:Int)),(20,ai 0)],38,[.prn 5 d 51 9 (List.map Redir.pv b),.moved 5 1 (List.length d),.moved 51 9 (List.length b)]⟩) (Wq0 (L:=[(0,.ref 0 0),(18,vRe b),(19,ai (b.length:Int)),(20,ai 0)]) ⟨rfl,rfl,rfl,rfl,trivial⟩) (by first|rfl|(simp only[G1h];rfl)))))),?_⟩
  refine block (Lp h (λ(f,e)=>⟨sl [(0,.ref 0 0),(18,vRe b),(19,ai (b.length:Int)),(20,ai f)],38,[.prn 5 e 51 9 (List.map Redir.pv b),.moved 5 1 (List.length d),.moved 51 9 (List.length b)]⟩) ?_)
  clear h
  rintro⟨f,e⟩ t h
  rw[X3d]at h
  try dsimp only at h
  refine AW.st (R [0,18,19,20,21] ?_)
  refine seq (iz h (λh=>?_) λh=>?_)
  ·obtain⟨n,l,h⟩:=oc h λ_=>Q0m
   refine skip (seq ?_)
   refine block (seq ?_)
   refine rg hS [0,3,18,19,20] (di1 (an l.1 l.2.1)) ?_
   obtain⟨u,o,h⟩:=oc h (Zt hk 3 109 n.word_.text_)
   obtain⟨y,g,h⟩:=oc h (Z3 hk 2 rfl)
   replace g:=cb g
   try simp only[PVE]at g
   apply dgk mixed hS [0,18,19,20] (ordp hpf (by kernel_rfl))
   ·exact di1 (an (ca o) g)
   refine G [0,18,19,20] ?_
   exact nx h
  refine exit (AW.after ?_)
  refine weak (Weak.explode 0 rfl) ?_
  refine weak (σ':=⟨sl [(0,.ref 0 0),(18,vRe b),(19,ai (b.length:Int)),(20,ai f),(21,ab (decide (f<(b.length:Int))))],38,[.var [.selfp 0,.vec 3 (List.length e),.vec 4 (List.length b)],.moved 5 1 (List.length d),.moved 51 9 (List.length b),.brow 5 e,rRe b]⟩) (Weak.of_eq (Wq0 (L:=[(0,.ref 0 0),(18,vRe b),(19,ai (b.length:Int)),(20,ai f),(21,ab (decide (f<(b.length:Int))))]) ⟨rfl,rfl,rfl,rfl,rfl,trivial⟩) (by first|rfl|(simp only[G1h];rfl))) ?_
  refine G [] ?_
  refine⟨⟨sl [],38,[.prn 5 e 51 9 (List.map Redir.pv ([]:List Redir)),.moved 5 1 (List.length d),.moved 51 9 (List.length b),.moved 5 1 (List.length e),rRe b,.moved 51 9 (List.length ([]:List Redir))]⟩,(Weak.trans (Weak.ownC (σ:=⟨sl [],38,[.var [.selfp 0,.vec 3 (List.length e),.nils],.moved 5 1 (List.length d),.moved 51 9 (List.length b),.brow 5 e,rRe b]⟩) 0 2 51 9 (by decide) (cs:=[.selfp 0,.vec 3 (List.length e),.nils]) rfl rfl) (Weak.trans (Weak.of_eq (σ'':=⟨sl [],38,[.var [.selfp 0,.vec 3 (List.length e),.vec 5 (List.length ([]:List Redir))],.moved 5 1 (List.length d),.moved 51 9 (List.length b),.brow 5 e,rRe b,.row 51 9 (List.map Redir.pv ([]:List Redir)) true]⟩) (Wq0 (L:=[]) trivial) (by first|rfl|(simp only[G1h];rfl))) (Weak.trans (Weak.implode (σ:=⟨sl [],38,[.var [.selfp 0,.vec 3 (List.length e),.vec 5 (List.length ([]:List Redir))],.moved 5 1 (List.length d),.moved 51 9 (List.length b),.brow 5 e,rRe b,.row 51 9 (List.map Redir.pv ([]:List Redir)) true]⟩) 0 3 5 rfl rfl rfl rfl (by first|rfl|simp only[G1h])) (Weak.of_eq (σ'':=⟨sl [],38,[.prn 5 e 51 9 (List.map Redir.pv ([]:List Redir)),.moved 5 1 (List.length d),.moved 51 9 (List.length b),.moved 5 1 (List.length e),rRe b,.moved 51 9 (List.length ([]:List Redir))]⟩) (Wq0 (L:=[]) trivial) (by first|rfl|(simp only[G1h];rfl)))))),?_⟩
  cases h
  exact fin
 obtain⟨z,q,h⟩:=oc h (Z2 hk 0 rfl)
 obtain⟨A,i,h⟩:=oc h (Zt2 hk 1 rfl)
 replace i:=ca i
 try simp only[PVE]at i
 refine seq (rg hS [0,8] (di1 (an (cb q) i)) ?_)
 refine ik h (λh=>?_) λh=>?_
 ·refine Ua1 h [0] (Z3 hk 2 rfl) λC h=>?_
  exact jn h
 exact jn h
end Go.Abs.U48
