import Derived.Test.YtljahlbklgnfhaaGreatDoorD1
set_option linter.unusedVariables false
set_option linter.unusedSimpArgs false
set_option maxRecDepth 8000
set_option maxHeartbeats 4000000
namespace Go.Abs.U48
open Go.RowKit Go.Proofs AW
theorem Y1w(c:AllG env [S85]):Q0c env S49:=by
 refine hd c V1t 9 ?_
 rintro O X hS hX hpf hk (a:(List Cmd)) (r:Bool) (h:F49 a=some r)
 refine gs ?_
 rw[F49]at h
 refine R [0,1] ?_
 refine seq (Ua1 h [4] (Z hk 0 85 a) λb h=>?_)
 exact Rf h
theorem Y2l(c:AllG env [S15 (K15 BIG),S49]):Q0c env S21:=by
 refine hd c Y5b 11 ?_
 rintro O X hS hX hpf hk (b:(List Cmd)) (r:Bool) (h:F21 b=some r)
 have e:O.pf 15=true:=pft hpf 15 rfl
 refine gs ?_
 rw[F21]at h
 refine R [0] ?_
 obtain⟨i,f,h⟩:=obs h
 have a:=hk 0 15 rfl
 replace a:=a.ret b f rfl rfl
 refine seq ?_
 rcases bs h with⟨d,h⟩|⟨d,h⟩
 ·obtain⟨j,g,h⟩:=oc h (Z hk 1 49 b)
  exact rg hS [2] (di1 (an e (an a (an d (cc g))))) (Rf h)
 exact rg hS [2] (di1 (an e (an a d))) (Rf h)
theorem g_F8(c:AllG env [S19,S20,S21]):Q0c env S8:=by
 refine hd c fn_8 34 ?_
 rintro O X hS hX hpf hk (a:Str) (r:(List Cmd)×Int×Int) (h:F8 a=some r)
 refine gs ?_
 rw[F8]at h
 refine R [0] ?_
 refine seq (Ua3 h [0,5,6,7] (Zt hk 0 19 a) λd e f h=>?_)
 refine seq (R [0,5,6,7,16] ?_)
 refine ik h (λh=>?_) λh=>?_
 ·exact Rt h [2,3,4]
 refine seq (Ua3 h [6,7,8] (Zt2 hk 1 rfl) λb g i h=>?_)
 refine seq (R [6,7,8,27] ?_)
 refine ik h (λh=>?_) λh=>?_
 ·exact Rt h [2,3,4]
 refine seq (seq ?_)
 refine Ua1 h [8,32] (Zt hk 2 21 b) λj h=>?_
 refine ik h (λh=>?_) λh=>?_
 ·exact Rt h [2,3,4]
 exact Rt h [2,3,4]
theorem K7i{a:Y8}(c:AllG env [S98 a]):Q0c env (S64 a):=by
 refine hd c Y3y 24 ?_
 rintro O X hS hX hpf hk (b:Cmd) (r:Bool) (h:F64 a b=some r)
 refine gs ?_
 rw[F64]at h
 refine R [1] ?_
 refine seq (R [1,5] ?_)
 refine iz h (λh=>?_) λh=>?_
 ·refine seq (Ua1 h [2] (Zt hk 0 98 b) λd h=>?_)
  exact Rf h
 cases h
theorem K7j{a:Y8}(c:AllG env [S64 a]):Q0c env (S63 a):=by
 refine hd c Y3z 6 ?_
 rintro O X hS hX hpf hk (b:Cmd) (r:Bool) (h:F63 a b=some r)
 refine gs ?_
 rw[F63]at h
 refine R [1] ?_
 refine seq (Ua1 h [2] (Zt hk 0 64 b) λd h=>?_)
 exact Rf h
theorem X3o{a:Y8}(c:AllG env [S63 a]):Q0c env (X8m a):=by
 refine hd c V1p 19 ?_
 rintro O X hS hX hpf hk (b:(List Cmd)) (r:Int) (h:X8v a b=some r)
 refine gs ?_
 rw[X8v]at h
 refine R [0,1] ?_
 refine seq (R [0,1,7,8] ?_)
 refine block (Lp h (λi3=>⟨sl [(0,vC b),(1,.fn 63 []),(7,ai (b.length:Int)),(8,ai i3)],19,[]⟩) ?_)
 clear h
 rintro i3 g h
 rw[J7z]at h
 try dsimp only at h
 refine AW.st (R [0,1,7,8,9] ?_)
 refine seq (iz h (λh=>?_) λh=>?_)
 ·refine skip (seq ?_)
  refine block (R [0,1,5,7,8] ?_)
  obtain⟨e,d,h⟩:=oc h λ_=>Q0l
  obtain⟨i,f,h⟩:=oc h (Zt hk 0 63 e)
  refine seq (rg hS [0,1,5,7,8,16] (di1 (an d.1 (an d.2.1 (ca f)))) ?_)
  refine ik h (λh=>?_) λh=>?_
  ·exact Rt h [4]
  refine G [0,1,7,8] ?_
  exact nx h
 exact exit (Rt h [4])
theorem X3p{a:Y8}(c:AllG env [X8m a]):Q0c env (X8o a):=by
 refine hd c V1t 9 ?_
 rintro O X hS hX hpf hk (b:(List Cmd)) (r:Bool) (h:X8w a b=some r)
 refine gs ?_
 rw[X8w]at h
 refine R [0,1] ?_
 refine seq (Ua1 h [4] (Z hk 0 85 b) λd h=>?_)
 exact Rf h
theorem K7n{a:Y8}(c:AllG env [X8o a]):Q0c env (S29 a):=by
 refine hd c Y4x 6 ?_
 rintro O X hS hX hpf hk (b:(List Cmd)) (r:Bool) (h:F29 a b=some r)
 refine gs ?_
 rw[F29]at h
 refine R [0] ?_
 refine seq (Ua1 h [2] (Z hk 0 49 b) λd h=>?_)
 exact Rf h
theorem V0c{a:Y8}(c:AllG env [S182 a]):Q0c env (S143 a):=by
 refine hd c V4r 23 ?_
 rintro O X hS hX hpf hk (b:Cmd) (r:Bool) (h:F143 a b=some r)
 refine gs ?_
 rw[F143]at h
 refine R [1] ?_
 refine seq (R [1,5] ?_)
 refine iz h (λh=>?_) λh=>?_
 ·refine seq (Ua1 h [2] (Zt hk 0 182 b) λd h=>?_)
  exact Rf h
 cases h
theorem Y0m{b:Y8}(c:AllG env [S143 b]):Q0c env (S98 (F98 b)):=by
 refine hd c V1n 36 ?_
 rintro O X hS hX hpf hk (a:Cmd) (r:Bool) (h:F98 b a=some r)
 refine gs ?_
 rw[F98]at h
 refine R [1] ?_
 refine seq (seq ?_)
 refine reg hS [(1,.ref 0 0),(10,ab (!decide (a.kind_=5)&&!decide (a.kind_=6)))] [V9 a] ?_ ?_
 ·clear h hk hS hX c
  exact dh
 refine iz h (λh=>?_) λh=>?_
 ·refine seq (Ua1 h [2] (Zt hk 0 143 a) λd h=>?_)
  exact Rf h
 cases h
theorem Y0l(c:AllG env [S144]):Q0c env S99:=by
 refine hd c Y2x 39 λO X hS hX hpf hk ⟨b,a⟩=>λr (h:F99 b a=some r)=>gs ?_
 rw[F99]at h
 refine R [2,3] ?_
 obtain⟨d,e,h⟩:=oc h (Zt hk 0 144 b.name_)
 refine seq (seq ?_)
 refine dreg mixed hS (ordp hpf (by kernel_rfl)) [(2,.ref 0 0),(3,.ref 1 0),(20,ab (!(a.name_==d)||(!a.name_&&!decide (b.name_=[]))))] [V9 b,.var [ab a.name_,ab a.words_,ab a.redirs_]] ?_ ?_
 ·clear h hk hS hX c
  exact dh1 (ca e)
 refine ik h (λh=>?_) λh=>?_
 ·cases h
 refine seq (reg hS [(4,ab ((a.words_||decide ((b.words_.length:Int)=0))&&(a.redirs_||decide ((b.redirs_.length:Int)=0))))] [V9 b,.var [ab a.name_,ab a.words_,ab a.redirs_]] ?_ ?_)
 ·clear h hk hS hX c
  exact dh
 exact Rf h
theorem K7x(c:AllG env []):Q0c env S262:=by
 refine hd c V2g 19 ?_
 rintro O X hS hX hpf hk (a:(List Redir)) (r:Int) (h:F262 a=some r)
 refine gs ?_
 rw[F262]at h
 refine R [0] ?_
 refine seq (R [7,8] ?_)
 refine block (Lp h (λ_=>⟨sl [(7,ai (a.length:Int)),(8,ai 0)],19,[]⟩) ?_)
 clear h
 rintro _ b h
 rw[X5u]at h
 try dsimp only at h
 refine AW.st (R [9] ?_)
 refine seq (iz h (λh=>?_) λh=>?_)
 ·cases h
 exact exit (Rt h [4])
theorem K8i(c:AllG env [S262]):Q0c env S235:=by
 refine hd c V2r 9 ?_
 rintro O X hS hX hpf hk (a:(List Redir)) (r:Bool) (h:F235 a=some r)
 refine gs ?_
 rw[F235]at h
 refine R [0,1] ?_
 refine seq (Ua1 h [4] (Z hk 0 262 a) λb h=>?_)
 exact Rf h
theorem K8x(c:AllG env [S235]):Q0c env S209:=by
 refine hd c V3h 6 ?_
 rintro O X hS hX hpf hk (a:(List Redir)) (r:Bool) (h:F209 a=some r)
 refine gs ?_
 rw[F209]at h
 refine R [0] ?_
 refine seq (Ua1 h [2] (Z hk 0 235 a) λb h=>?_)
 exact Rf h
theorem K8w{b:Y8}(c:AllG env [S99,S29 b]):Q0c env (S210 b):=by
 refine hd c V3g 16 ?_
 rintro O X hS hX hpf hk (a:Cmd) (r:Bool) (h:F210 b a=some r)
 have g:O.pf 99=true:=pft hpf 99 rfl
 refine gs ?_
 rw[F210]at h
 refine R [1] ?_
 obtain⟨i,d,h⟩:=obs h
 replace d:=Q0d d
 have j:=λe=>(hk 0 99 rfl).ret (a,Shape.mk false false false) (d e) rfl rfl
 obtain⟨k,f,h⟩:=obs h
 replace f:=Q0d f
 have l:=λe=>(hk 1 29 rfl).ret a.kids_ (f e) rfl rfl
 refine seq (reg hS [(2,ab ((decide (a.kind_=12)&&i)&&k))] [V9 a] ?_ ?_)
 ·clear h hk hS hX c
  exact dh1 (an g (an j (ap1 29 hpf l)))
 exact Rf h
theorem K7w(c:AllG env []):Q0c env S263:=by
 refine hd c V2f 30 ?_
 rintro O X hS hX hpf hk (w1:Word) (r:Bool) (h:F263 w1=some r)
 refine gs ?_
 rw[F263]at h
 refine R [1] ?_
 refine seq (R [1,10] ?_)
 refine ik h (λh=>?_) λh=>?_
 ·cases h
 refine seq (R [1,13,14] ?_)
 refine block (Lp h (λi4=>⟨sl [(1,.ref 0 0),(13,ai (w1.quoted_.length:Int)),(14,ai i4)],30,[V21 w1]⟩) ?_)
 clear h
 rintro i4 b h
 rw[X5t]at h
 try dsimp only at h
 refine AW.st (R [1,13,14,15] ?_)
 refine seq (iz h (λh=>?_) λh=>?_)
 ·refine skip (seq ?_)
  refine block (R [1,3,13,14] ?_)
  obtain⟨c9,a,h⟩:=oc h λ_=>Q1y
  refine seq (reg hS [(1,.ref 0 0),(13,ai (w1.quoted_.length:Int)),(14,ai i4),(28,ab (!decide (c9=48)&&!decide (c9=49)))] [V21 w1] ?_ ?_)
  ·clear h hk hS hX c
   exact dh1 (an a.1 (an a.2.1 a.2.2))
  refine ik h (λh=>?_) λh=>?_
  ·cases h
  refine G [1,13,14] ?_
  exact nx h
 exact exit (Rt h [2])
theorem K7r(c:AllG env [S263,Q0z]):Q0c env S278:=by
 refine hd c V1z 44 ?_
 rintro O X hS hX hpf hk (w1:Word) (r:Bool) (h:F278 w1=some r)
 have m:O.pf 40=true:=pft hpf 40 rfl
 refine gs ?_
 rw[F278]at h
 refine R [1] ?_
 refine seq (seq ?_)
 refine Ua1 h [1,7] (Zt hk 0 263 w1) λp h=>?_
 refine ik h (λh=>?_) λh=>?_
 ·cases h
 refine seq (R [1,10,11] ?_)
 refine block (Lp h (λa=>⟨sl [(1,.ref 0 0),(10,ai (w1.text_.length:Int)),(11,ai a)],44,[V21 w1]⟩) ?_)
 clear h
 rintro a s h
 rw[X5s]at h
 try dsimp only at h
 refine AW.st (R [1,10,11,12] ?_)
 refine seq (iz h (λh=>?_) λh=>?_)
 ·refine skip (seq ?_)
  refine block (R [1,3,10,11] ?_)
  obtain⟨i,b,h⟩:=oc h λ_=>Q1y
  refine seq (rg hS [1,3,4,10,11] (di1 (an b.1 (an b.2.1 b.2.2))) ?_)
  obtain⟨j,d,h⟩:=oc h λ_ q=>Q1x (Q0d q)
  obtain⟨n,e,h⟩:=obs h
  replace e:=Q0d e
  have k:=λf=>(hk 1 40 rfl).ret (([32,9,10,59,38,124,40,41,123,125,60,62,61,94,96,36,39]:Str),j) (e f) rfl rfl
  try simp only[PVE]at k
  obtain⟨o,g,h⟩:=obs h
  replace g:=Q0d g
  have l:=λf=>(hk 1 40 rfl).ret (([35,33,64]:Str),j) (g f) rfl rfl
  try simp only[PVE]at l
  refine seq (reg hS [(1,.ref 0 0),(10,ai (w1.text_.length:Int)),(11,ai a),(42,ab ((decide (i=48)&&decide (0<=n))||((decide (i=48)&&decide (a=0))&&decide (0<=o))))] [V21 w1] ?_ ?_)
  ·clear h hk hS hX c
   exact dh1 (an d.1 (an d.2.1 (an d.2.2 (an m (an k l)))))
  refine ik h (λh=>?_) λh=>?_
  ·cases h
  refine G [1,10,11] ?_
  exact nx h
 exact exit (Rt h [2])
theorem K7y(c:AllG env [S144,S278]):Q0c env S260:=by
 refine hd c V2h 97 ?_
 rintro O X hS hX hpf hk (w1:Word) (r:Bool) (h:F260 w1=some r)
 refine gs ?_
 rw[F260]at h
 refine R [1] ?_
 obtain⟨a,f,h⟩:=oc h (Zt hk 0 144 w1.text_)
 refine seq (reg hS [(1,.ref 0 0),(3,ab ((a&&decide (w1.quoted_=[]))&&decide ((w1.cmd_.length:Int)=0)))] [V21 w1] ?_ ?_)
 ·clear h hk hS hX c
  exact dh1 (ca f)
 refine seq (reg hS [(1,.ref 0 0),(3,ab ((a&&decide (w1.quoted_=[]))&&decide ((w1.cmd_.length:Int)=0)))] [V21 w1] ?_ ?_)
 ·clear h hk hS hX c
  exact dh
 refine seq (R [1,3,28] ?_)
 refine block (R [1,3,28,29] ?_)
 refine iz h (λh=>?_) λh=>?_
 ·obtain⟨g,d,h⟩:=obs h
  replace d:=Q0d d
  have i:=λj=>(hk 1 278 rfl).ret w1 (d j) rfl rfl
  refine seq (reg hS [(2,ab ((decide ((w1.words_.length:Int)=0)&&decide ((w1.cmd_.length:Int)=0))&&g))] [V21 w1] ?_ ?_)
  ·clear h hk hS hX c
   exact dh1 (ap1 278 hpf i)
  exact Rf h
 refine seqM ⟨sl [(1,.ref 0 0),(3,ab ((a&&decide (w1.quoted_=[]))&&decide ((w1.cmd_.length:Int)=0))),(45,ab (bif decide (w1.kind_=2)then decide (w1.kind_=2)else decide (w1.kind_=3)))],97,[V21 w1]⟩ ?_ ?_
 ·refine R [1,3,28,45] ?_
  refine cond (b:=decide (w1.kind_=2)) rfl (λe=>?_) (λe=>?_)
  ·exact skip (Weak.of_eq (Weak.slots (L:=[(1,.ref 0 0),(3,ab ((a&&decide (w1.quoted_=[]))&&decide ((w1.cmd_.length:Int)=0))),(45,ab (decide (w1.kind_=2)))]) kp) (wq e))
  refine G [1,3,45] ?_
  exact Weak.of_eq (Weak.slots (L:=[(1,.ref 0 0),(3,ab ((a&&decide (w1.quoted_=[]))&&decide ((w1.cmd_.length:Int)=0))),(45,ab (decide (w1.kind_=3)))]) kp) (wq e)
 refine iz h (λh=>?_) λh=>?_
 ·refine seq (reg hS [(2,ab (((a&&decide (w1.quoted_=[]))&&decide ((w1.cmd_.length:Int)=0))&&decide ((w1.words_.length:Int)=0)))] [V21 w1] ?_ ?_)
  ·clear h hk hS hX c
   exact dh
  exact Rf h
 cases h
theorem K8j(c:AllG env [S260]):Q0c env S234:=by
 refine hd c V2s 34 ?_
 rintro O X hS hX hpf hk (w1:Word) (r:Bool) (h:F234 w1=some r)
 refine gs ?_
 rw[F234]at h
 refine R [1] ?_
 refine seq (R [1,5] ?_)
 refine iz h (λh=>?_) λh=>?_
 ·refine seq (Ua1 h [2] (Zt hk 0 260 w1) λa h=>?_)
  exact Rf h
 cases h
theorem K8k(c:AllG env [S234]):Q0c env S233:=by
 refine hd c V2t 6 ?_
 rintro O X hS hX hpf hk (w1:Word) (r:Bool) (h:F233 w1=some r)
 refine gs ?_
 rw[F233]at h
 refine R [1] ?_
 refine seq (Ua1 h [2] (Zt hk 0 234 w1) λa h=>?_)
 exact Rf h
theorem K7z(c:AllG env [S233]):Q0c env S259:=by
 refine hd c V2j 19 ?_
 rintro O X hS hX hpf hk (a:(List Word)) (r:Int) (h:F259 a=some r)
 refine gs ?_
 rw[F259]at h
 refine R [0,1] ?_
 refine seq (R [0,1,7,8] ?_)
 refine block (Lp h (λi3=>⟨sl [(0,vWo a),(1,.fn 233 []),(7,ai (a.length:Int)),(8,ai i3)],19,[]⟩) ?_)
 clear h
 rintro i3 f h
 rw[X5v]at h
 try dsimp only at h
 refine AW.st (R [0,1,7,8,9] ?_)
 refine seq (iz h (λh=>?_) λh=>?_)
 ·refine skip (seq ?_)
  refine block (R [0,1,5,7,8] ?_)
  obtain⟨d,b,h⟩:=oc h λ_=>Q0l
  obtain⟨g,e,h⟩:=oc h (Zt hk 0 233 d)
  refine seq (rg hS [0,1,7,8,16] (di1 (an b.1 (an b.2.1 (ca e)))) ?_)
  refine ik h (λh=>?_) λh=>?_
  ·cases h
  refine G [0,1,7,8] ?_
  exact nx h
 exact exit (Rt h [4])
theorem K8l(c:AllG env [S259]):Q0c env S232:=by
 refine hd c V2u 9 ?_
 rintro O X hS hX hpf hk (a:(List Word)) (r:Bool) (h:F232 a=some r)
 refine gs ?_
 rw[F232]at h
 refine R [0,1] ?_
 refine seq (Ua1 h [4] (Z hk 0 259 a) λb h=>?_)
 exact Rf h
theorem K8y(c:AllG env [S232]):Q0c env S207:=by
 refine hd c V3i 6 ?_
 rintro O X hS hX hpf hk (a:(List Word)) (r:Bool) (h:F207 a=some r)
 refine gs ?_
 rw[F207]at h
 refine R [0] ?_
 refine seq (Ua1 h [2] (Z hk 0 232 a) λb h=>?_)
 exact Rf h
theorem K8v(c:AllG env [S207,S209,Q0z,S134]):Q0c env S213:=by
 refine hd c V3f 66 ?_
 rintro O X hS hX hpf hk (a:Cmd) (r:Bool) (h:F213 a=some r)
 have m:O.pf 40=true:=pft hpf 40 rfl
 have n:O.pf 207=true:=pft hpf 207 rfl
 refine gs ?_
 rw[F213]at h
 refine R [1] ?_
 obtain⟨o,e,h⟩:=obs h
 replace e:=Q0d e
 have p:=λd=>(hk 0 207 rfl).ret a.words_ (e d) rfl rfl
 obtain⟨q,f,h⟩:=obs h
 replace f:=Q0d f
 have s:=λd=>(hk 1 209 rfl).ret a.redirs_ (f d) rfl rfl
 refine seq (seq ?_)
 refine reg hS [(1,.ref 0 0),(24,ab ((decide (IntKind.wrap .i64 ((a.words_.length:Int)+(a.redirs_.length:Int))=0)||!o)||!q))] [V9 a] ?_ ?_
 ·clear h hk hS hX c
  exact dh1 (an n (an p (ap1 209 hpf s)))
 refine ik h (λh=>?_) λh=>?_
 ·cases h
 refine seq (R [1,28] ?_)
 refine ik h (λh=>?_) λh=>?_
 ·cases h
 obtain⟨b,g,h⟩:=oc h λ_=>Q0l
 try simp only[NRM,Int.reduceToNat]at g
 refine seq (rg hS [3] (di1 (an g.1 g.2.1)) ?_)
 refine seq (R [3,35] ?_)
 refine ik h (λh=>?_) λh=>?_
 ·cases h
 obtain⟨k,i,h⟩:=obs h
 replace i:=Q0d i
 have t:=λd=>(hk 2 40 rfl).ret (b.quoted_,49) (i d) rfl rfl
 obtain⟨l,j,h⟩:=obs h
 replace j:=Q0d j
 have u:=λd=>(hk 3 134 rfl).ret b.text_ (j d) rfl rfl
 refine seq (reg hS [(3,.ref 1 0),(4,ab ((decide (b.kind_=1)&&decide (k<0))&&l))] [V9 a,V21 b] ?_ ?_)
 ·clear h hk hS hX c
  exact dh1 (an m (an t (ap1 134 hpf u)))
 refine seq (reg hS [(2,ab ((!((decide (b.kind_=1)&&decide (k<0))&&l)||decide (b.text_=[110,111,116]))||decide (b.text_=[105,110])))] [V9 a,V21 b] ?_ ?_)
 ·clear h hk hS hX c
  exact dh
 exact Rf h
theorem K9i{e g:Y8}(c:AllG env [S99,S29 e,S209,S210 e,S182 g,S207,S213]):Q0c env (S182 (F182 e g)):=by
 refine hd c X9x 169 ?_
 rintro O X hS hX hpf hk (a:Cmd) (r:Bool) (h:F182 e g a=some r)
 have u:O.pf 29=true:=pft hpf 29 rfl
 have w:O.pf 210=true:=pft hpf 210 rfl
 refine gs ?_
 rw[F182]at h
 refine R [1] ?_
 refine seq (R [1,4] ?_)
 refine block (R [1,4,5] ?_)
 refine iz h (λh=>?_) λh=>?_
 ·cases h
 refine seqM ⟨sl [(1,.ref 0 0),(4,ai a.kind_),(32,ab (bif decide (a.kind_=7)then decide (a.kind_=7)else(bif decide (a.kind_=13)then decide (a.kind_=13)else decide (a.kind_=9))))],169,[V9 a]⟩ ?_ ?_
 ·refine R [1,4,32] ?_
  refine cond (b:=decide (a.kind_=7)) rfl (λf=>?_) (λf=>?_)
  ·exact skip (Weak.of_eq (Weak.slots (L:=[(1,.ref 0 0),(4,ai a.kind_),(32,ab (decide (a.kind_=7)))]) kp) (wq f))
  refine R [1,4,32] ?_
  refine cond (b:=decide (a.kind_=13)) rfl (λi=>?_) (λi=>?_)
  ·exact skip (Weak.of_eq (Weak.slots (L:=[(1,.ref 0 0),(4,ai a.kind_),(32,ab (decide (a.kind_=13)))]) kp) (by simp only[f,i,G4y,G5q,J6e,G0u,G0q]<;>rfl))
  refine G [1,4,32] ?_
  exact Weak.of_eq (Weak.slots (L:=[(1,.ref 0 0),(4,ai a.kind_),(32,ab (decide (a.kind_=9)))]) kp) (by simp only[f,i,G4y,G5q,J6e,G0u,G0q]<;>rfl)
 refine iz h (λh=>?_) λh=>?_
 ·cases h
 refine R [1,4,44] ?_
 refine iz h (λh=>?_) λh=>?_
 ·obtain⟨x,y,h⟩:=oc h (Zt2 hk 0 rfl)
  obtain⟨z,j,h⟩:=obs h
  replace j:=Q0d j
  have A:=λd=>(hk 1 29 rfl).ret a.kids_ (j d) rfl rfl
  obtain⟨C,k,h⟩:=obs h
  replace k:=Q0d k
  have D:=λd=>(hk 2 209 rfl).ret a.redirs_ (k d) rfl rfl
  refine seq (reg hS [(2,ab ((x&&z)&&C))] [V9 a] ?_ ?_)
  ·clear h hk hS hX c
   exact dh1 (an (ca y) (an u (an A (ap1 209 hpf D))))
  exact Rf h
 refine seqM ⟨sl [(1,.ref 0 0),(4,ai a.kind_),(59,ab (bif decide (a.kind_=8)then decide (a.kind_=8)else decide (a.kind_=11)))],169,[V9 a]⟩ ?_ ?_
 ·refine R [1,4,59] ?_
  refine cond (b:=decide (a.kind_=8)) rfl (λl=>?_) (λl=>?_)
  ·exact skip (Weak.of_eq (Weak.slots (L:=[(1,.ref 0 0),(4,ai a.kind_),(59,ab (decide (a.kind_=8)))]) kp) (wq l))
  refine G [1,4,59] ?_
  exact Weak.of_eq (Weak.slots (L:=[(1,.ref 0 0),(4,ai a.kind_),(59,ab (decide (a.kind_=11)))]) kp) (wq l)
 refine iz h (λh=>?_) λh=>?_
 ·obtain⟨E,F,h⟩:=oc h (Zt2 hk 0 rfl)
  obtain⟨H,m,h⟩:=oc h λ_ q=>J7c (Q0d q)
  try simp only[NRM,Int.reduceToNat]at m
  obtain⟨I,n,h⟩:=obs h
  replace n:=Q0d n
  have J:=λd=>(hk 3 210 rfl).ret H (n d) rfl rfl
  obtain⟨K,o,h⟩:=oc h λ_ q=>J7c (Q0d q)
  try simp only[NRM,Int.reduceToNat]at o
  obtain⟨M,p,h⟩:=obs h
  replace p:=Q0d p
  have N:=λd=>(hk 4 182 rfl).ret K (p d) rfl rfl
  refine seq (reg hS [(2,ab (((E&&decide ((a.kids_.length:Int)=2))&&I)&&M))] [V9 a] ?_ ?_)
  ·clear h hk hS hX c
   exact dh1 (an (ca F) (an m.1 (an m.2.1 (an w (an J (an o.1 (an o.2.1 (ap1 182 hpf N))))))))
  exact Rf h
 refine R [1,4,85] ?_
 refine iz h (λh=>?_) λh=>?_
 ·cases h
 refine R [1,4,100] ?_
 refine iz h (λh=>?_) λh=>?_
 ·cases h
 refine R [1,4,122] ?_
 refine iz h (λh=>?_) λh=>?_
 ·cases h
 refine R [1,4,132] ?_
 refine iz h (λh=>?_) λh=>?_
 ·obtain⟨P,Q,h⟩:=oc h (Zt2 hk 0 rfl)
  obtain⟨S,s,h⟩:=obs h
  replace s:=Q0d s
  have T:=λd=>(hk 5 207 rfl).ret a.words_ (s d) rfl rfl
  refine seq (reg hS [(2,ab (((P&&decide (1<=(a.words_.length:Int)))&&decide ((a.kids_.length:Int)=0))&&S))] [V9 a] ?_ ?_)
  ·clear h hk hS hX c
   exact dh1 (an (ca Q) (ap1 207 hpf T))
  exact Rf h
 refine R [1,154] ?_
 refine iz h (λh=>?_) λh=>?_
 ·obtain⟨U,V,h⟩:=oc h (Zt2 hk 0 rfl)
  obtain⟨W,t,h⟩:=obs h
  replace t:=Q0d t
  have Y:=λd=>(hk 6 213 rfl).ret a (t d) rfl rfl
  refine seq (reg hS [(2,ab ((U&&decide ((a.kids_.length:Int)=0))&&W))] [V9 a] ?_ ?_)
  ·clear h hk hS hX c
   exact dh1 (an (ca V) (ap1 213 hpf Y))
  exact Rf h
 cases h
theorem Y2r(c:AllG env [S21,S29 (K98 BIG)]):Q0c env S13:=by
 refine hd c Y5e 9 ?_
 rintro O X hS hX hpf hk (a:(List Cmd)) (r:Bool) (h:F13 a=some r)
 refine gs ?_
 rw[F13]at h
 refine R [0] ?_
 obtain⟨e,f,h⟩:=oc h (Zt hk 0 21 a)
 obtain⟨g,b,h⟩:=obs h
 have d:=hk 1 29 rfl
 replace b:=Q0d b
 replace d:=λi=>d.ret a (b i) rfl rfl
 refine seq (reg hS [(2,ab (e&&g))] [] ?_ ?_)
 ·clear h hk hS hX c
  exact dh1 (an (ca f) (ap1 29 hpf d))
 exact Rf h
theorem V0x(c:AllG env [S155]):Q0c env S108:=by
 refine hd c V5r 8 λO X hS hX hpf hk ⟨a,b⟩=>λr (h:F108 a b=some r)=>gs ?_
 rw[F108]at h
 refine R [0,1] ?_
 refine seq (Ua1 h [4] (Zt2 hk 0 rfl) λd h=>?_)
 exact Rf h
theorem V0u(c:AllG env [S163]):Q0c env S123:=by
 refine hd c K0a 19 λO X hS hX hpf hk ⟨b,e,a⟩=>λr (h:F123 b e a=some r)=>gs ?_
 rw[F123]at h
 refine R [0,1] ?_
 refine seq (Ua1 h [0,1] (Z2 hk 0 rfl) λ_ h=>?_)
 refine seq (AW.after ?_)
 refine weak (Weak.explode 0 rfl) ?_
 refine weak (σ':=⟨sl [(0,.ref 0 0),(1,as_ b)],19,[.var [.selfp 0,.vec 1 (List.length e),.vec 2 (List.length a)],.brow 5 e,rRe a]⟩) (Weak.of_eq (Weak.slots (L:=[(0,.ref 0 0),(1,as_ b)]) ⟨rfl,rfl,trivial⟩) (by first|rfl|(simp only[G1m];rfl))) ?_
 obtain⟨d,f,h⟩:=obs h
 have i:=Y5q f
 have g:Q5y env [.var [.selfp 0,.vec 1 (List.length e),.vec 2 (List.length a)],.brow 5 e,rRe a] 58 9 (.vec 1 (List.length e)) (as_ b)=some (.vec 1 (List.length d),[.var [.selfp 0,.vec 1 (List.length e),.vec 2 (List.length a)],.brow 5 d,rRe a]):=J9u T_58 T_9 T_5 rfl rfl f
 refine rg hS [1] (di1 g) ?_
 refine⟨⟨sl [(1,as_ b)],19,[.prn 5 d 51 9 (List.map Redir.pv a),.moved 5 1 (List.length d),.moved 51 9 (List.length a)]⟩,(Weak.trans (Weak.implode (σ:=⟨sl [(1,as_ b)],19,[.var [.selfp 0,.vec 1 (List.length d),.vec 2 (List.length a)],.brow 5 d,rRe a]⟩) 0 1 2 rfl rfl rfl rfl (by first|rfl|simp only[G1m])) (Weak.of_eq (σ'':=⟨sl [(1,as_ b)],19,[.prn 5 d 51 9 (List.map Redir.pv a),.moved 5 1 (List.length d),.moved 51 9 (List.length a)]⟩) (Weak.slots (L:=[(1,as_ b)]) ⟨rfl,trivial⟩) (by first|rfl|(simp only[G1m];rfl)))),?_⟩
 exact Rt h [4,5]
theorem V1c(c:AllG env [S123]):Q0c env S103:=by
 refine hd c V5w 18 λO X hS hX hpf hk ⟨a,f,b⟩=>λr (h:F103 a f b=some r)=>gs ?_
 rw[F103]at h
 refine R [0,6,7,8] ?_
 refine block (Lp h (λ(i5,d)=>⟨sl [(0,.ref 0 0),(6,.pv (.slice (List.map PV.str a))),(7,ai (a.length:Int)),(8,ai i5)],18,[.prn 5 d 51 9 (List.map Redir.pv b)]⟩) ?_)
 clear h
 rintro⟨i5,d⟩ g h
 rw[X6j]at h
 try dsimp only at h
 refine AW.st (R [0,6,7,8,9] ?_)
 refine seq (iz h (λh=>?_) λh=>?_)
 ·obtain⟨i,e,h⟩:=oc h λ_=>Q0l
  refine skip (seq ?_)
  refine block (seq ?_)
  refine rg hS [0,5,6,7,8] (di1 (an e.1 e.2.1)) ?_
  refine Ua2 h [0,6,7,8] (Z3 hk 0 rfl) λj k h=>?_
  refine G [0,6,7,8] ?_
  exact nx h
 exact ex h
theorem Y1j(c:AllG env [S36,S108,S103]):Q0c env S67:=by
 refine hd c Y3x 38 λO X hS hX hpf hk ⟨e,a⟩=>λr (h:F67 e a=some r)=>gs ?_
 rw[F67]at h
 obtain⟨g,f,h⟩:=oc h (Z2 hk 0 rfl)
 obtain⟨i,d,h⟩:=oc h (Zt2 hk 1 rfl)
 replace d:=ca d
 try simp only[PVE]at d
 refine seq (seq ?_)
 refine rg hS [0,8] (di1 (an (cb f) d)) ?_
 refine ik h (λh=>?_) λh=>?_
 ·cases h
 refine seq (Ua1 h [0] (Z3 hk 2 rfl) λb h=>?_)
 refine seq (seq ?_)
 refine AW.after ?_
 refine weak (Weak.explode 0 rfl) ?_
 refine weak (σ':=⟨sl [(0,.ref 0 0)],38,[.var [.selfp 0,.vec 1 (List.length b),.vec 2 (List.length a)],.brow 5 b,rRe a]⟩) (Weak.of_eq (Weak.slots (L:=[(0,.ref 0 0)]) ⟨rfl,trivial⟩) (by first|rfl|(simp only[G1m];rfl))) ?_
 refine G [0,19,20] ?_
 refine⟨⟨sl [(0,.ref 0 0),(19,ai (a.length:Int)),(20,ai 0)],38,[.prn 5 b 51 9 (List.map Redir.pv a),.moved 5 1 (List.length b),.moved 51 9 (List.length a)]⟩,(Weak.trans (Weak.implode (σ:=⟨sl [(0,.ref 0 0),(19,ai (a.length:Int)),(20,ai 0)],38,[.var [.selfp 0,.vec 1 (List.length b),.vec 2 (List.length a)],.brow 5 b,rRe a]⟩) 0 1 2 rfl rfl rfl rfl (by first|rfl|simp only[G1m])) (Weak.of_eq (σ'':=⟨sl [(0,.ref 0 0),(19,ai (a.length:Int)),(20,ai 0)],38,[.prn 5 b 51 9 (List.map Redir.pv a),.moved 5 1 (List.length b),.moved 51 9 (List.length a)]⟩) (Weak.slots (L:=[(0,.ref 0 0),(19,ai (a.length:Int)),(20,ai 0)]) ⟨rfl,rfl,rfl,trivial⟩) (by first|rfl|(simp only[G1m];rfl)))),?_⟩
 refine block (Lp h (λ_=>⟨sl [(0,.ref 0 0),(19,ai (a.length:Int)),(20,ai 0)],38,[.prn 5 b 51 9 (List.map Redir.pv a),.moved 5 1 (List.length b),.moved 51 9 (List.length a)]⟩) ?_)
 clear h
 rintro _ m19 h
 rw[K0w]at h
 try dsimp only at h
 refine AW.st (R [0,21] ?_)
 refine seq (iz h (λh=>?_) λh=>?_)
 ·cases h
 refine exit (AW.after ?_)
 refine weak (Weak.explode 0 rfl) ?_
 refine weak (σ':=⟨sl [(0,.ref 0 0),(21,ab (decide (0<(a.length:Int))))],38,[.var [.selfp 0,.vec 3 (List.length b),.vec 4 (List.length a)],.moved 5 1 (List.length b),.moved 51 9 (List.length a),.brow 5 b,rRe a]⟩) (Weak.of_eq (Weak.slots (L:=[(0,.ref 0 0),(21,ab (decide (0<(a.length:Int))))]) ⟨rfl,rfl,trivial⟩) (by first|rfl|(simp only[G1m];rfl))) ?_
 refine G [] ?_
 refine⟨⟨sl [],38,[.prn 5 b 51 9 (List.map Redir.pv ([]:List Redir)),.moved 5 1 (List.length b),.moved 51 9 (List.length a),.moved 5 1 (List.length b),rRe a,.moved 51 9 (List.length ([]:List Redir))]⟩,(Weak.trans (Weak.ownC (σ:=⟨sl [],38,[.var [.selfp 0,.vec 3 (List.length b),.nils],.moved 5 1 (List.length b),.moved 51 9 (List.length a),.brow 5 b,rRe a]⟩) 0 2 51 9 (by decide) (cs:=[.selfp 0,.vec 3 (List.length b),.nils]) rfl rfl) (Weak.trans (Weak.of_eq (σ'':=⟨sl [],38,[.var [.selfp 0,.vec 3 (List.length b),.vec 5 (List.length ([]:List Redir))],.moved 5 1 (List.length b),.moved 51 9 (List.length a),.brow 5 b,rRe a,.row 51 9 (List.map Redir.pv ([]:List Redir)) true]⟩) (Weak.slots (L:=[]) trivial) (by first|rfl|(simp only[G1m];rfl))) (Weak.trans (Weak.implode (σ:=⟨sl [],38,[.var [.selfp 0,.vec 3 (List.length b),.vec 5 (List.length ([]:List Redir))],.moved 5 1 (List.length b),.moved 51 9 (List.length a),.brow 5 b,rRe a,.row 51 9 (List.map Redir.pv ([]:List Redir)) true]⟩) 0 3 5 rfl rfl rfl rfl (by first|rfl|simp only[G1m])) (Weak.of_eq (σ'':=⟨sl [],38,[.prn 5 b 51 9 (List.map Redir.pv ([]:List Redir)),.moved 5 1 (List.length b),.moved 51 9 (List.length a),.moved 5 1 (List.length b),rRe a,.moved 51 9 (List.length ([]:List Redir))]⟩) (Weak.slots (L:=[]) trivial) (by first|rfl|(simp only[G1m];rfl)))))),?_⟩
 cases h
 exact fin
theorem K7m{a:Y5}(c:AllG env [S66 a,S67]):Q0c env (S35 a):=by
 refine hd c Y4u 18 λO X hS hX hpf hk ⟨b,i,j⟩=>λr (h:F35 a b i j=some r)=>gs ?_
 rw[F35]at h
 refine R [0,6,7,8] ?_
 refine block (Lp h (λ(d,e,f)=>⟨sl [(0,.ref 0 0),(6,vC b),(7,ai (b.length:Int)),(8,ai d)],18,[.prn 5 e 51 9 (List.map Redir.pv f)]⟩) ?_)
 clear h
 rintro⟨d,e,f⟩ k h
 rw[K0z]at h
 try dsimp only at h
 refine AW.st (R [0,6,7,8,9] ?_)
 refine seq (iz h (λh=>?_) λh=>?_)
 ·obtain⟨l,g,h⟩:=oc h λ_=>Q0l
  refine skip (seq ?_)
  refine block (seq ?_)
  refine rg hS [0,5,6,7,8] (di1 (an g.1 g.2.1)) ?_
  refine seq (Ua2 h [0,6,7,8] (Z3 hk 0 rfl) λm n h=>?_)
  refine Ua2 h [0,6,7,8] (Z2 hk 1 rfl) λo p h=>?_
  refine G [0,6,7,8] ?_
  exact nx h
 exact ex h
theorem V1b{a:Y5}(c:AllG env [S103,S67,S35 a]):Q0c env (S104 a):=by
 refine hd c V5v 21 λO X hS hX hpf hk ⟨b,d,e,f,g⟩=>λr (h:F104 a b d e f g=some r)=>gs ?_
 rw[F104]at h
 refine seq (Ua1 h [0,2,3] (Z3 hk 0 rfl) λi h=>?_)
 refine seq (Ua2 h [0,2,3] (Z2 hk 1 rfl) λj k h=>?_)
 refine seq (Ua2 h [0,3] (Z3 hk 2 rfl) λl m18 h=>?_)
 refine Ua1 h [] (Z3 hk 0 rfl) λm h=>?_
 cases h
 exact fin
theorem V1a(c:AllG env []):Q0c env S105:=by
 refine hd c V5u 19 λO X hS hX hpf hk ⟨a,b,d⟩=>λr (h:F105 a b d=some r)=>gs ?_
 rw[F105]at h
 refine R [7,8] ?_
 refine block (Lp h (λ_=>⟨sl [(7,ai (a.length:Int)),(8,ai 0)],19,[.prn 5 b 51 9 (List.map Redir.pv d)]⟩) ?_)
 clear h
 rintro _ e h
 rw[X6i]at h
 try dsimp only at h
 refine AW.st (R [9] ?_)
 refine seq (iz h (λh=>?_) λh=>?_)
 ·cases h
 exact ex h
theorem K9f(c:AllG env [Z1t,S103]):Q0c env S190:=by
 refine hd c V3q 56 λO X hS hX hpf hk ⟨w1,p,b⟩=>λr (h:F190 w1 p b=some r)=>gs ?_
 rw[F190]at h
 refine R [0,3] ?_
 refine seq (R [0,3,9] ?_)
 refine ik h (λh=>?_) λh=>?_
 ·cases h
 refine R [0,3,4] ?_
 refine block (Lp h (λ(d,e)=>⟨sl [(0,.ref 0 0),(3,.ref 1 0),(4,ai d)],56,[.prn 5 e 51 9 (List.map Redir.pv b),V21 w1]⟩) ?_)
 clear h
 rintro⟨d,e⟩ u h
 rw[X5z]at h
 try dsimp only at h
 refine AW.st (seq ?_)
 refine R [0,3,4,17] ?_
 refine iz h (λh=>?_) λh=>?_
 ·refine skip (block ?_)
  refine R [0,3,4,5] ?_
  refine seq (block ?_)
  refine Lp h (λf=>⟨sl [(0,.ref 0 0),(3,.ref 1 0),(4,ai d),(5,ai f)],56,[.prn 5 e 51 9 (List.map Redir.pv b),V21 w1]⟩) ?_
  clear h
  rintro f m15 h
  rw[X5y]at h
  try dsimp only at h
  obtain⟨s,i,h⟩:=oc h λ_ q=>Q1x (Q0d q)
  obtain⟨t,j,h⟩:=oc h λ_ q=>Q1x (Q0d q)
  refine AW.st (seq ?_)
  refine seq (dreg mixed hS (ordp hpf (by kernel_rfl)) [(0,.ref 0 0),(3,.ref 1 0),(4,ai d),(5,ai f),(34,ab (decide (f<(w1.text_.length:Int))&&decide (s=t)))] [.prn 5 e 51 9 (List.map Redir.pv b),V21 w1] ?_ ?_)
  ·clear h hk hS hX c
   exact dh1 (an i.1 (an i.2.1 (an i.2.2 (an j.1 (an j.2.1 j.2.2)))))
  refine iz h (λh=>?_) λh=>?_
  ·refine skip (block ?_)
   refine G [0,3,4,5] ?_
   exact nx h
  obtain⟨w,a,h⟩:=oc h λ_=>Q0r
  try simp only[NRM,Int.reduceToNat]at a
  have n:=a.2.2.2.2
  try simp only[NRM,Int.reduceToNat]at n
  have o:=a.2.2.1
  try simp only[NRM,Int.reduceToNat]at o
  refine exit (seq ?_)
  refine rg hS [0,3,4,5,6] (di1 (an a.1 (an a.2.1 (an o (an a.2.2.2.1 n))))) ?_
  obtain⟨x,k,h⟩:=oc h λ_=>Q1y
  refine seq (seq ?_)
  refine rg hS [0,3,5,6,46] (di1 (an k.1 (an k.2.1 k.2.2))) ?_
  refine ik h (λh=>?_) λh=>?_
  ·obtain⟨y,g,h⟩:=oc h (Zt3 hk 0 rfl)
   replace g:=ca g
   try simp only[PVE]at g
   obtain⟨z,l,h⟩:=oc h λ_=>Q6u
   try simp only[LNS,G1w,Nat.reduceAdd,Nat.reduceLeDiff,G2j,Nat.reduceMul]at l
   obtain⟨A,m,h⟩:=oc h λ_=>Q6u
   try simp only[LNS,G1w,Nat.reduceAdd,Nat.reduceLeDiff,G2j,Nat.reduceMul]at m
   refine rg hS [0,3,5,6] (di1 (an g (an l.1 (an l.2 (an m.1 m.2))))) ?_
   refine seq (Ua1 h [0,3,5] (Z3 hk 1 rfl) λC h=>?_)
   refine G [0,3,4] ?_
   exact nx h
  refine seq (Ua1 h [0,3,5] (Z3 hk 1 rfl) λD h=>?_)
  refine G [0,3,4] ?_
  exact nx h
 exact ex h
end Go.Abs.U48
