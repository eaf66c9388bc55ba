import Derived.Test.YtljahlbklgnfhaaGreatDoorD1
set_option linter.unusedVariables false
set_option linter.unusedSimpArgs false
set_option maxRecDepth 8000
set_option maxHeartbeats 4000000
namespace Go.Abs.U48
open Go.RowKit Go.Proofs AW
open Go.Proofs.Tryz
theorem V7r{a:Y0}{b:Y1}(c:AllG env [S274 a b,S132]):Q0c env (S252 (F252 a b)):=by
 refine hd c (fnq func252) 22 λO X hS hX hpf hk ⟨d,e,f,m⟩=>λr (h:F252 a b d e f m=some r)=>gs ?_
 rw[F252]at h
 refine R [0,2] ?_
 refine seq (xb h (Z4 hk 0 rfl) 1 ?_)
 rintro⟨x,y⟩ n h
 refine rg hS [0,2,3] (di1 (cb n)) ?_
 refine seq (block ?_)
 refine Lq r (Q9p d e f a b) (λ(j,i)=>⟨sl [(0,.ref 0 0),(2,.ref 1 0),(3,.vec 2 (List.length i))],22,[V10 d e f j,V21 0 [] [],rWo i]⟩) ?_ ?_
 ·refine seq (seq ?_)
  refine Ua2 h [0,2,3,8] (Z5 hk 1 rfl) λz A h=>?_
  refine iz h (λh=>?_) λh=>?_
  ·refine skip (block ?_)
   refine xb h (Z4 hk 0 rfl) 2 ?_
   rintro⟨C,o⟩ p h
   replace h:=ap Word.pv h;obtain⟨l,q,h⟩:=h
   refine reg hS [(0,.ref 0 0),(2,.ref 1 0),(3,.vec 2 (List.length l))] [V10 d e f o,V21 0 [] [],rWo l] (dk1 (an (cb p) q)) ?_
   exact ny h
  refine exit (seq ?_)
  refine R [2,3,16] ?_
  refine ik h (λh=>?_) λh=>?_
  ·exact Rt h [2]
  exact Rt h [2]
 clear h
 rintro⟨j,i⟩ D h
 unfold Q9p at h
 try dsimp only at h
 refine AW.st (seq ?_)
 refine seq (Ua2 h [0,2,3,8] (Z5 hk 1 rfl) λE F h=>?_)
 refine iz h (λh=>?_) λh=>?_
 ·refine skip (block ?_)
  refine xb h (Z4 hk 0 rfl) 2 ?_
  rintro⟨H,I⟩ t h
  replace h:=ap Word.pv h;obtain⟨J,u,h⟩:=h
  refine rg hS [0,2,3] (di1 (an (cb t) u)) ?_
  exact nx h
 refine exit (seq ?_)
 refine R [2,3,16] ?_
 refine ik h (λh=>?_) λh=>?_
 ·obtain⟨K,g,h⟩:=oc h λ_=>Q0m
  try simp only[NRM,Int.reduceToNat]at g
  refine seq (rg hS [2] (di1 (an g.1 (an g.2.1 g.2.2))) ?_)
  exact Rf h
 exact Rt h [2]
theorem Y7f(c:AllG env []):Q0c env S32:=by
 refine hd c (fnq func32) 11 ?_
 rintro O X hS hX hpf hk (a:Redir) (r:Bool) (h:F32 a=some r)
 refine gs ?_
 rw[F32]at h
 refine R [1] ?_
 refine seq (reg hS [(2,ab (!decide (a.kind_=5)&&!decide (a.kind_=6)))] [V0 a] ?_ ?_)
 ·clear h hk hS hX c
  exact dh
 exact Rf h
theorem Y7p{e:Y6}{f:Y8}(c:AllG env [S15 e,S31 f,S32]):Q0c env (S15 (F15 e f)):=by
 refine hd c (fnq func15) 55 ?_
 rintro O X hS hX hpf hk (a:(List Cmd)) (r:Int) (h:F15 e f a=some r)
 refine gs ?_
 rw[F15]at h
 refine R [0] ?_
 refine R [0,3] ?_
 refine seq (R [3,10,11,12] ?_)
 refine block (Lp h (λ(g,d)=>⟨sl [(3,ai g),(10,vC a),(11,ai (a.length:Int)),(12,ai d)],55,[]⟩) ?_)
 clear h
 rintro⟨g,d⟩ x h
 rw[J2f]at h
 try dsimp only at h
 refine AW.st (R [3,10,11,12,13] ?_)
 refine seq (iz h (λh=>?_) λh=>?_)
 ·obtain⟨b,i,h⟩:=oc h λ_=>Q0m
  refine skip (seq ?_)
  refine block (seq ?_)
  refine rg hS [3,5,10,11,12] (di1 (an i.1 i.2.1)) ?_
  refine seq ?_
  obtain⟨y,t,h⟩:=oc h (Zt hk 0 15 b.kids_)
  apply dgk mixed hS [3,5,10,11,12] (ordp hpf (by kernel_rfl))
  ·exact di1 (ca t)
  refine seq (R [3,5,10,11,12,27,28,29] ?_)
  refine block (Lp h (λ(j,l)=>⟨sl [(3,ai j),(5,.ref 0 0),(10,vC a),(11,ai (a.length:Int)),(12,ai d),(27,vWo b.words_),(28,ai (b.words_.length:Int)),(29,ai l)],55,[V1 b]⟩) ?_)
  clear h
  rintro⟨j,l⟩ z h
  rw[X3m]at h
  try dsimp only at h
  refine AW.st (R [3,5,10,11,12,27,28,29,30] ?_)
  refine seq (iz h (λh=>?_) λh=>?_)
  ·obtain⟨u,m,h⟩:=oc h λ_=>Q0m
   refine skip (seq ?_)
   refine block (seq ?_)
   refine rg hS [3,5,7,10,11,12,27,28,29] (di1 (an m.1 m.2.1)) ?_
   refine Ua1 h [3,5,10,11,12,27,28,29] (Zt hk 1 31 u) λA h=>?_
   refine G [3,5,10,11,12,27,28,29] ?_
   exact nx h
  refine exit (R [3,10,11,12,39,40,41] ?_)
  refine block (Lp h (λ(n,o)=>⟨sl [(3,ai n),(10,vC a),(11,ai (a.length:Int)),(12,ai d),(39,vRe b.redirs_),(40,ai (b.redirs_.length:Int)),(41,ai o)],55,[V1 b]⟩) ?_)
  clear h
  rintro⟨n,o⟩ C h
  rw[J7f]at h
  try dsimp only at h
  refine AW.st (R [3,10,11,12,39,40,41,42] ?_)
  refine seq (iz h (λh=>?_) λh=>?_)
  ·obtain⟨p,q,h⟩:=oc h λ_=>Q0m
   refine skip (seq ?_)
   refine block (seq ?_)
   refine rg hS [3,9,10,11,12,39,40,41] (di1 (an q.1 q.2.1)) ?_
   refine seq (Ua1 h [3,9,10,11,12,39,40,41,46] (Zt hk 2 32 p) λD h=>?_)
   refine ik h (λh=>?_) λh=>?_
   ·refine Ua1 h [3,10,11,12,39,40,41] (Zt hk 1 31 p.word_) λE h=>?_
    refine G [3,10,11,12,39,40,41] ?_
    exact nx h
   refine G [3,10,11,12,39,40,41] ?_
   exact nx h
  refine exit (G [3,10,11,12] ?_)
  exact nx h
 exact exit (Rt h [2])
theorem Y7g{a:Y6}{b:Y8}(c:AllG env [S15 a,S31 b]):Q0c env (S31 (F31 a b)):=by
 refine hd c (fnq func31) 23 ?_
 rintro O X hS hX hpf hk (w1:Word) (r:Int) (h:F31 a b w1=some r)
 refine gs ?_
 rw[F31]at h
 refine R [1] ?_
 refine seq (Ua1 h [1,3] (Zt hk 0 15 w1.cmd_) λi h=>?_)
 refine seq (R [3,11,12,13] ?_)
 refine block (Lp h (λ(d,e)=>⟨sl [(3,ai d),(11,vWo w1.words_),(12,ai (w1.words_.length:Int)),(13,ai e)],23,[V2 w1]⟩) ?_)
 clear h
 rintro⟨d,e⟩ j h
 rw[K2b]at h
 try dsimp only at h
 refine AW.st (R [3,11,12,13,14] ?_)
 refine seq (iz h (λh=>?_) λh=>?_)
 ·obtain⟨g,f,h⟩:=oc h λ_=>Q0m
  refine skip (seq ?_)
  refine block (seq ?_)
  refine rg hS [3,5,11,12,13] (di1 (an f.1 f.2.1)) ?_
  refine Ua1 h [3,11,12,13] (Zt hk 1 31 g) λl h=>?_
  refine G [3,11,12,13] ?_
  exact nx h
 exact exit (Rt h [2])
theorem Y6v{b:Y13}{d:Y8}(c:AllG env [S51 b,S86 d,S32]):Q0c env (S51 (F51 b d)):=by
 refine hd c (fnq func51) 51 ?_
 rintro O X hS hX hpf hk (a:Cmd) (r:Int) (h:F51 b d a=some r)
 refine gs ?_
 rw[F51]at h
 refine R [1] ?_
 refine R [1,3] ?_
 refine seq (R [1,3,11,12,13] ?_)
 refine block (Lp h (λ(e,f)=>⟨sl [(1,.ref 0 0),(3,ai e),(11,vC a.kids_),(12,ai (a.kids_.length:Int)),(13,ai f)],51,[V1 a]⟩) ?_)
 clear h
 rintro⟨e,f⟩ z h
 rw[K1x]at h
 try dsimp only at h
 refine AW.st (R [1,3,11,12,13,14] ?_)
 refine seq (iz h (λh=>?_) λh=>?_)
 ·obtain⟨q,g,h⟩:=oc h λ_=>Q0m
  refine skip (seq ?_)
  refine block (seq ?_)
  refine rg hS [1,3,5,11,12,13] (di1 (an g.1 g.2.1)) ?_
  obtain⟨A,t,h⟩:=oc h (Zt hk 0 51 q)
  refine rg hS [1,3,11,12,13] (di1 (ca t)) ?_
  refine G [1,3,11,12,13] ?_
  exact nx h
 refine exit (seq ?_)
 refine R [1,3,23,24,25] ?_
 refine block (Lp h (λ(i,j)=>⟨sl [(1,.ref 0 0),(3,ai i),(23,vWo a.words_),(24,ai (a.words_.length:Int)),(25,ai j)],51,[V1 a]⟩) ?_)
 clear h
 rintro⟨i,j⟩ C h
 rw[X3f]at h
 try dsimp only at h
 refine AW.st (R [1,3,23,24,25,26] ?_)
 refine seq (iz h (λh=>?_) λh=>?_)
 ·obtain⟨u,l,h⟩:=oc h λ_=>Q0m
  refine skip (seq ?_)
  refine block (seq ?_)
  refine rg hS [1,3,7,23,24,25] (di1 (an l.1 l.2.1)) ?_
  obtain⟨D,x,h⟩:=oc h (Zt hk 1 86 u)
  refine rg hS [1,3,23,24,25] (di1 (ca x)) ?_
  refine G [1,3,23,24,25] ?_
  exact nx h
 refine exit (seq ?_)
 refine R [3,35,36,37] ?_
 refine block (Lp h (λ(m,n)=>⟨sl [(3,ai m),(35,vRe a.redirs_),(36,ai (a.redirs_.length:Int)),(37,ai n)],51,[V1 a]⟩) ?_)
 clear h
 rintro⟨m,n⟩ E h
 rw[J7b]at h
 try dsimp only at h
 refine AW.st (R [3,35,36,37,38] ?_)
 refine seq (iz h (λh=>?_) λh=>?_)
 ·obtain⟨o,p,h⟩:=oc h λ_=>Q0m
  refine skip (seq ?_)
  refine block (seq ?_)
  refine rg hS [3,9,35,36,37] (di1 (an p.1 p.2.1)) ?_
  refine seq (Ua1 h [3,9,35,36,37,42] (Zt hk 2 32 o) λF h=>?_)
  refine ik h (λh=>?_) λh=>?_
  ·obtain⟨H,y,h⟩:=oc h (Zt hk 1 86 o.word_)
   refine rg hS [3,35,36,37] (di1 (ca y)) ?_
   refine G [3,35,36,37] ?_
   exact nx h
  refine G [3,35,36,37] ?_
  exact nx h
 exact exit (Rt h [2])
theorem Y6f{a:Y13}{b:Y8}(c:AllG env [S86 b,S51 a]):Q0c env (S86 (F86 a b)):=by
 refine hd c (fnq func86) 34 ?_
 rintro O X hS hX hpf hk (w1:Word) (r:Int) (h:F86 a b w1=some r)
 refine gs ?_
 rw[F86]at h
 refine R [1] ?_
 refine R [1,3] ?_
 refine seq (R [1,3,9,10,11] ?_)
 refine block (Lp h (λ(d,e)=>⟨sl [(1,.ref 0 0),(3,ai d),(9,vWo w1.words_),(10,ai (w1.words_.length:Int)),(11,ai e)],34,[V2 w1]⟩) ?_)
 clear h
 rintro⟨d,e⟩ p h
 rw[K1p]at h
 try dsimp only at h
 refine AW.st (R [1,3,9,10,11,12] ?_)
 refine seq (iz h (λh=>?_) λh=>?_)
 ·obtain⟨l,f,h⟩:=oc h λ_=>Q0m
  refine skip (seq ?_)
  refine block (seq ?_)
  refine rg hS [1,3,5,9,10,11] (di1 (an f.1 f.2.1)) ?_
  obtain⟨q,m,h⟩:=oc h (Zt hk 0 86 l)
  refine rg hS [1,3,9,10,11] (di1 (ca m)) ?_
  refine G [1,3,9,10,11] ?_
  exact nx h
 refine exit (seq ?_)
 refine R [3,21,22,23] ?_
 refine block (Lp h (λ(g,i)=>⟨sl [(3,ai g),(21,vC w1.cmd_),(22,ai (w1.cmd_.length:Int)),(23,ai i)],34,[V2 w1]⟩) ?_)
 clear h
 rintro⟨g,i⟩ t h
 rw[X3c]at h
 try dsimp only at h
 refine AW.st (R [3,21,22,23,24] ?_)
 refine seq (iz h (λh=>?_) λh=>?_)
 ·obtain⟨n,j,h⟩:=oc h λ_=>Q0m
  refine skip (seq ?_)
  refine block (seq ?_)
  refine rg hS [3,7,21,22,23] (di1 (an j.1 j.2.1)) ?_
  obtain⟨u,o,h⟩:=oc h (Zt hk 1 51 n)
  refine rg hS [3,21,22,23] (di1 (ca o)) ?_
  refine G [3,21,22,23] ?_
  exact nx h
 exact exit (Rt h [2])
theorem Y6w(c:AllG env [S51 (K51 BIG)]):Q0c env S50:=by
 refine hd c (fnq func50) 6 ?_
 rintro O X hS hX hpf hk (b:Cmd) (r:Bool) (h:F50 b=some r)
 refine gs ?_
 rw[F50]at h
 refine R [1] ?_
 obtain⟨e,d,h⟩:=obs h
 have a:=hk 0 51 rfl
 replace a:=a.ret b d rfl rfl
 refine seq (rg hS [2] (di1 (ap1 51 hpf a)) ?_)
 exact Rf h
theorem Y6g(c:AllG env [S50]):Q0c env S85:=by
 refine hd c K4t 19 ?_
 rintro O X hS hX hpf hk (a:(List Cmd)) (r:Int) (h:F85 a=some r)
 refine gs ?_
 rw[F85]at h
 refine R [0,1] ?_
 refine seq (R [0,1,7,8] ?_)
 refine block (Lp h (λb=>⟨sl [(0,vC a),(1,.fn 50 []),(7,ai (a.length:Int)),(8,ai b)],19,[]⟩) ?_)
 clear h
 rintro b g h
 rw[K1t]at h
 try dsimp only at h
 refine AW.st (R [0,1,7,8,9] ?_)
 refine seq (iz h (λh=>?_) λh=>?_)
 ·refine skip (seq ?_)
  refine block (R [0,1,5,7,8] ?_)
  obtain⟨e,d,h⟩:=oc h λ_=>Q0m
  obtain⟨i,f,h⟩:=oc h (Zt hk 0 50 e)
  refine seq (rg hS [0,1,5,7,8,16] (di1 (an d.1 (an d.2.1 (ca f)))) ?_)
  refine ik h (λh=>?_) λh=>?_
  ·exact Rt h [4]
  refine G [0,1,7,8] ?_
  exact nx h
 exact exit (Rt h [4])
theorem Y6x(c:AllG env [S85]):Q0c env S49:=by
 refine hd c K4u 9 ?_
 rintro O X hS hX hpf hk (a:(List Cmd)) (r:Bool) (h:F49 a=some r)
 refine gs ?_
 rw[F49]at h
 refine R [0,1] ?_
 refine seq (Ua1 h [4] (Z hk 0 85 a) λb h=>?_)
 exact Rf h
theorem Y7k(c:AllG env [S15 (K15 BIG),S49]):Q0c env S21:=by
 refine hd c (fnq func21) 11 ?_
 rintro O X hS hX hpf hk (b:(List Cmd)) (r:Bool) (h:F21 b=some r)
 have e:O.pf 15=true:=pft hpf 15 rfl
 refine gs ?_
 rw[F21]at h
 refine R [0] ?_
 obtain⟨i,f,h⟩:=obs h
 have a:=hk 0 15 rfl
 replace a:=a.ret b f rfl rfl
 refine seq ?_
 rcases bs h with⟨d,h⟩|⟨d,h⟩
 ·obtain⟨j,g,h⟩:=oc h (Z hk 1 49 b)
  exact rg hS [2] (di1 (an e (an a (an d (cc g))))) (Rf h)
 exact rg hS [2] (di1 (an e (an a d))) (Rf h)
theorem g_F8(c:AllG env [S19,S20,S21]):Q0c env S8:=by
 refine hd c (fnq func8) 34 ?_
 rintro O X hS hX hpf hk (a:Str) (r:(List Cmd)×Int×Int) (h:F8 a=some r)
 refine gs ?_
 rw[F8]at h
 refine R [0] ?_
 refine seq (Ua3 h [0,5,6,7] (Zt hk 0 19 a) λd e f h=>?_)
 refine seq (R [0,5,6,7,16] ?_)
 refine ik h (λh=>?_) λh=>?_
 ·exact Rt h [2,3,4]
 refine seq (Ua3 h [6,7,8] (Zt2 hk 1 rfl) λb g i h=>?_)
 refine seq (R [6,7,8,27] ?_)
 refine ik h (λh=>?_) λh=>?_
 ·exact Rt h [2,3,4]
 refine seq (seq ?_)
 refine Ua1 h [8,32] (Zt hk 2 21 b) λj h=>?_
 refine ik h (λh=>?_) λh=>?_
 ·exact Rt h [2,3,4]
 exact Rt h [2,3,4]
theorem Y6d(c:AllG env [S144]):Q0c env S99:=by
 refine hd c (fnq func99) 39 λO X hS hX hpf hk ⟨b,a⟩=>λr (h:F99 b a=some r)=>gs ?_
 rw[F99]at h
 refine R [2,3] ?_
 obtain⟨d,f6,h⟩:=oc h (Zt hk 0 144 b.name_)
 refine seq (seq ?_)
 refine dreg mixed hS (ordp hpf (by kernel_rfl)) [(2,.ref 0 0),(3,.ref 1 0),(20,ab (!(a.name_==d)||(!a.name_&&!decide (b.name_=[]))))] [V1 b,.var [ab a.name_,ab a.words_,ab a.redirs_]] ?_ ?_
 ·clear h hk hS hX c
  exact dh1 (ca f6)
 refine ik h (λh=>?_) λh=>?_
 ·exact Rt h [4]
 refine seq (reg hS [(4,ab ((a.words_||decide ((b.words_.length:Int)=0))&&(a.redirs_||decide ((b.redirs_.length:Int)=0))))] [V1 b,.var [ab a.name_,ab a.words_,ab a.redirs_]] ?_ ?_)
 ·clear h hk hS hX c
  exact dh
 exact Rf h
theorem V6r{b:Y4}(c:AllG env [S98 b,S99]):Q0c env (S64 b):=by
 refine hd c (fnq func64) 24 ?_
 rintro O X hS hX hpf hk (a:Cmd) (r:Bool) (h:F64 b a=some r)
 refine gs ?_
 rw[F64]at h
 refine R [1] ?_
 refine seq (R [1,5] ?_)
 refine ik h (λh=>?_) λh=>?_
 ·refine seq (Ua1 h [2] (Zt hk 0 98 a) λn h=>?_)
  exact Rf h
 obtain⟨f,g,h⟩:=oc h (Zt2 hk 1 rfl)
 obtain⟨i,d,h⟩:=oc h λ_ q=>Q8v (Q0d q)
 try simp only[NRM,Int.reduceToNat]at d
 obtain⟨j,e,h⟩:=obs h
 replace e:=Q0d e
 have l:=λm=>(hk 0 98 rfl).ret i (e m) rfl rfl
 refine seq (reg hS [(2,ab ((f&&decide ((a.kids_.length:Int)=1))&&j))] [V1 a] ?_ ?_)
 ·clear h hk hS hX c
  exact dh1 (an (ca g) (an d.1 (an d.2.1 (ap1 98 hpf l))))
 exact Rf h
theorem V6s{a:Y4}(c:AllG env [S64 a]):Q0c env (S63 a):=by
 refine hd c (fnq func63) 6 ?_
 rintro O X hS hX hpf hk (b:Cmd) (r:Bool) (h:F63 a b=some r)
 refine gs ?_
 rw[F63]at h
 refine R [1] ?_
 refine seq (Ua1 h [2] (Zt hk 0 64 b) λd h=>?_)
 exact Rf h
theorem X9g{a:Y4}(c:AllG env [S63 a]):Q0c env (K5r a):=by
 refine hd c K4t 19 ?_
 rintro O X hS hX hpf hk (b:(List Cmd)) (r:Int) (h:K1s a b=some r)
 refine gs ?_
 rw[K1s]at h
 refine R [0,1] ?_
 refine seq (R [0,1,7,8] ?_)
 refine block (Lp h (λd=>⟨sl [(0,vC b),(1,.fn 63 []),(7,ai (b.length:Int)),(8,ai d)],19,[]⟩) ?_)
 clear h
 rintro d i h
 rw[J4j]at h
 try dsimp only at h
 refine AW.st (R [0,1,7,8,9] ?_)
 refine seq (iz h (λh=>?_) λh=>?_)
 ·refine skip (seq ?_)
  refine block (R [0,1,5,7,8] ?_)
  obtain⟨f,e,h⟩:=oc h λ_=>Q0m
  obtain⟨j,g,h⟩:=oc h (Zt hk 0 63 f)
  refine seq (rg hS [0,1,5,7,8,16] (di1 (an e.1 (an e.2.1 (ca g)))) ?_)
  refine ik h (λh=>?_) λh=>?_
  ·exact Rt h [4]
  refine G [0,1,7,8] ?_
  exact nx h
 exact exit (Rt h [4])
theorem X9h{a:Y4}(c:AllG env [K5r a]):Q0c env (K5t a):=by
 refine hd c K4u 9 ?_
 rintro O X hS hX hpf hk (b:(List Cmd)) (r:Bool) (h:K1y a b=some r)
 refine gs ?_
 rw[K1y]at h
 refine R [0,1] ?_
 refine seq (Ua1 h [4] (Z hk 0 85 b) λd h=>?_)
 exact Rf h
theorem V6w{a:Y4}(c:AllG env [K5t a]):Q0c env (S29 a):=by
 refine hd c (fnq func29) 6 ?_
 rintro O X hS hX hpf hk (b:(List Cmd)) (r:Bool) (h:F29 a b=some r)
 refine gs ?_
 rw[F29]at h
 refine R [0] ?_
 refine seq (Ua1 h [2] (Z hk 0 49 b) λd h=>?_)
 exact Rf h
theorem V8y{a:Y4}(c:AllG env [S182 a]):Q0c env (S183 a):=by
 refine hd c (fnq func183) 6 ?_
 rintro O X hS hX hpf hk (k1:Cmd) (r:Bool) (h:F183 a k1=some r)
 refine gs ?_
 rw[F183]at h
 refine R [1] ?_
 refine seq (Ua1 h [2] (Zt hk 0 182 k1) λb h=>?_)
 exact Rf h
theorem V1f{a:Y4}(c:AllG env [S183 a]):Q0c env (V2l a):=by
 refine hd c K4t 19 ?_
 rintro O X hS hX hpf hk (b:(List Cmd)) (r:Int) (h:K1r a b=some r)
 refine gs ?_
 rw[K1r]at h
 refine R [0,1] ?_
 refine seq (R [0,1,7,8] ?_)
 refine block (Lp h (λd=>⟨sl [(0,vC b),(1,.fn 183 []),(7,ai (b.length:Int)),(8,ai d)],19,[]⟩) ?_)
 clear h
 rintro d i h
 rw[J4i]at h
 try dsimp only at h
 refine AW.st (R [0,1,7,8,9] ?_)
 refine seq (iz h (λh=>?_) λh=>?_)
 ·refine skip (seq ?_)
  refine block (R [0,1,5,7,8] ?_)
  obtain⟨f,e,h⟩:=oc h λ_=>Q0m
  obtain⟨j,g,h⟩:=oc h (Zt hk 0 183 f)
  refine seq (rg hS [0,1,5,7,8,16] (di1 (an e.1 (an e.2.1 (ca g)))) ?_)
  refine ik h (λh=>?_) λh=>?_
  ·exact Rt h [4]
  refine G [0,1,7,8] ?_
  exact nx h
 exact exit (Rt h [4])
theorem V1k{a:Y4}(c:AllG env [V2l a]):Q0c env (V2n a):=by
 refine hd c K4u 9 ?_
 rintro O X hS hX hpf hk (b:(List Cmd)) (r:Bool) (h:X6b a b=some r)
 refine gs ?_
 rw[X6b]at h
 refine R [0,1] ?_
 refine seq (Ua1 h [4] (Z hk 0 85 b) λd h=>?_)
 exact Rf h
theorem V9r{d:Y4}(c:AllG env [S182 d,S99,V2n d]):Q0c env (S143 d):=by
 refine hd c (fnq func143) 23 ?_
 rintro O X hS hX hpf hk (a:Cmd) (r:Bool) (h:F143 d a=some r)
 refine gs ?_
 rw[F143]at h
 refine R [1] ?_
 refine seq (R [1,5] ?_)
 refine ik h (λh=>?_) λh=>?_
 ·refine seq (Ua1 h [2] (Zt hk 0 182 a) λi h=>?_)
  exact Rf h
 obtain⟨j,e,h⟩:=oc h (Zt2 hk 1 rfl)
 refine seq ?_
 rcases bs h with⟨b,h⟩|⟨b,h⟩
 ·try simp only[G0d,G2n]at b
  obtain⟨f,g,h⟩:=oc h (Z hk 2 49 a.kids_)
  refine reg hS [(2,ab (!f))] [V1 a] ?_ ?_
  ·clear h hk hS hX c
   exact dh1 (an (ca e) (an b (cc g)))
  exact Rf h
 try simp only[G0d,G2n]at b
 refine reg hS [(2,ab false)] [V1 a] ?_ ?_
 ·clear h hk hS hX c
  exact dh1 (an (ca e) b)
 exact Rf h
theorem Y6e{b d:Y4}(c:AllG env [S143 d,S99,S98 b]):Q0c env (S98 (F98 b d)):=by
 refine hd c (fnq func98) 36 ?_
 rintro O X hS hX hpf hk (a:Cmd) (r:Bool) (h:F98 b d a=some r)
 have l:O.pf 98=true:=pft hpf 98 rfl
 refine gs ?_
 rw[F98]at h
 refine R [1] ?_
 refine seq (seq ?_)
 refine reg hS [(1,.ref 0 0),(10,ab (!decide (a.kind_=5)&&!decide (a.kind_=6)))] [V1 a] ?_ ?_
 ·clear h hk hS hX c
  exact dh
 refine ik h (λh=>?_) λh=>?_
 ·refine seq (Ua1 h [2] (Zt hk 0 143 a) λz h=>?_)
  exact Rf h
 obtain⟨m,n,h⟩:=oc h (Zt2 hk 1 rfl)
 obtain⟨o,e,h⟩:=oc h λ_ q=>Q8v (Q0d q)
 try simp only[NRM,Int.reduceToNat]at e
 obtain⟨p,f,h⟩:=obs h
 replace f:=Q0d f
 have t:=λg=>(hk 2 98 rfl).ret o (f g) rfl rfl
 obtain⟨u,i,h⟩:=oc h λ_ q=>Q8v (Q0d q)
 try simp only[NRM,Int.reduceToNat]at i
 obtain⟨x,j,h⟩:=obs h
 replace j:=Q0d j
 have y:=λg=>(hk 0 143 rfl).ret u (j g) rfl rfl
 refine seq (reg hS [(2,ab (((m&&decide ((a.kids_.length:Int)=2))&&p)&&x))] [V1 a] ?_ ?_)
 ·clear h hk hS hX c
  exact dh1 (an (ca n) (an e.1 (an e.2.1 (an l (an t (an i.1 (an i.2.1 (ap1 143 hpf y))))))))
 exact Rf h
theorem V7i{a:Y3}(c:AllG env [S260 a]):Q0c env (S261 a):=by
 refine hd c (fnq func261) 6 ?_
 rintro O X hS hX hpf hk (b:Word) (r:Bool) (h:F261 a b=some r)
 refine gs ?_
 rw[F261]at h
 refine R [1] ?_
 refine seq (Ua1 h [2] (Zt hk 0 260 b) λd h=>?_)
 exact Rf h
theorem K4m{a:Y3}(c:AllG env [S261 a]):Q0c env (K1h a):=by
 refine hd c (fnq func259) 19 ?_
 rintro O X hS hX hpf hk (b:(List Word)) (r:Int) (h:J7d a b=some r)
 refine gs ?_
 rw[J7d]at h
 refine R [0,1] ?_
 refine seq (R [0,1,7,8] ?_)
 refine block (Lp h (λd=>⟨sl [(0,vWo b),(1,.fn 261 []),(7,ai (b.length:Int)),(8,ai d)],19,[]⟩) ?_)
 clear h
 rintro d i h
 rw[Z9s]at h
 try dsimp only at h
 refine AW.st (R [0,1,7,8,9] ?_)
 refine seq (iz h (λh=>?_) λh=>?_)
 ·refine skip (seq ?_)
  refine block (R [0,1,5,7,8] ?_)
  obtain⟨f,e,h⟩:=oc h λ_=>Q0m
  obtain⟨j,g,h⟩:=oc h (Zt hk 0 261 f)
  refine seq (rg hS [0,1,5,7,8,16] (di1 (an e.1 (an e.2.1 (ca g)))) ?_)
  refine ik h (λh=>?_) λh=>?_
  ·exact Rt h [4]
  refine G [0,1,7,8] ?_
  exact nx h
 exact exit (Rt h [4])
theorem K4n{a:Y3}(c:AllG env [K1h a]):Q0c env (K1i a):=by
 refine hd c (fnq func232) 9 ?_
 rintro O X hS hX hpf hk (b:(List Word)) (r:Bool) (h:J2c a b=some r)
 refine gs ?_
 rw[J2c]at h
 refine R [0,1] ?_
 refine seq (Ua1 h [4] (Z hk 0 259 b) λd h=>?_)
 exact Rf h
theorem V7w{b:Y3}(c:AllG env [S260 b,K1i b]):Q0c env (S234 b):=by
 refine hd c (fnq func234) 34 ?_
 rintro O X hS hX hpf hk (w1:Word) (r:Bool) (h:F234 b w1=some r)
 refine gs ?_
 rw[F234]at h
 refine R [1] ?_
 refine seq (R [1,5] ?_)
 refine ik h (λh=>?_) λh=>?_
 ·refine seq (Ua1 h [2] (Zt hk 0 260 w1) λf h=>?_)
  exact Rf h
 refine seq ?_
 rcases bs h with⟨a,h⟩|⟨a,h⟩
 ·try simp only[G0d,G2n]at a
  obtain⟨d,e,h⟩:=oc h (Z hk 1 232 w1.words_)
  refine reg hS [(2,ab (!d))] [V2 w1] ?_ ?_
  ·clear h hk hS hX c
   exact dh1 (an a (cc e))
  exact Rf h
 try simp only[G0d,G2n]at a
 refine reg hS [(2,ab false)] [V2 w1] ?_ ?_
 ·clear h hk hS hX c
  exact dh1 a
 exact Rf h
theorem V7x{a:Y3}(c:AllG env [S234 a]):Q0c env (S233 a):=by
 refine hd c (fnq func233) 6 ?_
 rintro O X hS hX hpf hk (w1:Word) (r:Bool) (h:F233 a w1=some r)
 refine gs ?_
 rw[F233]at h
 refine R [1] ?_
 refine seq (Ua1 h [2] (Zt hk 0 234 w1) λb h=>?_)
 exact Rf h
theorem V7k{a:Y3}(c:AllG env [S233 a]):Q0c env (S259 a):=by
 refine hd c (fnq func259) 19 ?_
 rintro O X hS hX hpf hk (b:(List Word)) (r:Int) (h:F259 a b=some r)
 refine gs ?_
 rw[F259]at h
 refine R [0,1] ?_
 refine seq (R [0,1,7,8] ?_)
 refine block (Lp h (λd=>⟨sl [(0,vWo b),(1,.fn 233 []),(7,ai (b.length:Int)),(8,ai d)],19,[]⟩) ?_)
 clear h
 rintro d i h
 rw[J9x]at h
 try dsimp only at h
 refine AW.st (R [0,1,7,8,9] ?_)
 refine seq (iz h (λh=>?_) λh=>?_)
 ·refine skip (seq ?_)
  refine block (R [0,1,5,7,8] ?_)
  obtain⟨f,e,h⟩:=oc h λ_=>Q0m
  obtain⟨j,g,h⟩:=oc h (Zt hk 0 233 f)
  refine seq (rg hS [0,1,5,7,8,16] (di1 (an e.1 (an e.2.1 (ca g)))) ?_)
  refine ik h (λh=>?_) λh=>?_
  ·exact Rt h [4]
  refine G [0,1,7,8] ?_
  exact nx h
 exact exit (Rt h [4])
theorem V7y{a:Y3}(c:AllG env [S259 a]):Q0c env (S232 a):=by
 refine hd c (fnq func232) 9 ?_
 rintro O X hS hX hpf hk (b:(List Word)) (r:Bool) (h:F232 a b=some r)
 refine gs ?_
 rw[F232]at h
 refine R [0,1] ?_
 refine seq (Ua1 h [4] (Z hk 0 259 b) λd h=>?_)
 exact Rf h
theorem V8p{a:Y3}(c:AllG env [S232 a]):Q0c env (S207 a):=by
 refine hd c (fnq func207) 6 ?_
 rintro O X hS hX hpf hk (b:(List Word)) (r:Bool) (h:F207 a b=some r)
 refine gs ?_
 rw[F207]at h
 refine R [0] ?_
 refine seq (Ua1 h [2] (Z hk 0 232 b) λd h=>?_)
 exact Rf h
theorem V8o{a:Y4}(c:AllG env [S182 a]):Q0c env (S208 a):=by
 refine hd c (fnq func208) 12 ?_
 rintro O X hS hX hpf hk (e:(List Cmd)) (r:Bool) (h:F208 a e=some r)
 refine gs ?_
 rw[F208]at h
 refine R [0] ?_
 obtain⟨f,b,h⟩:=oc h λ_ q=>Q8v (Q0d q)
 try simp only[NRM,Int.reduceToNat]at b
 obtain⟨g,d,h⟩:=obs h
 replace d:=Q0d d
 have i:=λj=>(hk 0 182 rfl).ret f (d j) rfl rfl
 refine seq (reg hS [(2,ab (decide ((e.length:Int)=1)&&g))] [] ?_ ?_)
 ·clear h hk hS hX c
  exact dh1 (an b.1 (an b.2.1 (ap1 182 hpf i)))
 exact Rf h
theorem Y0f(c:AllG env [S155]):Q0c env S108:=by
 refine hd c (fnq func108) 8 λO X hS hX hpf hk ⟨a,b⟩=>λr (h:F108 a b=some r)=>gs ?_
 rw[F108]at h
 refine R [0,1] ?_
 refine seq (Ua1 h [4] (Zt2 hk 0 rfl) λd h=>?_)
 exact Rf h
theorem V7g(c:AllG env []):Q0c env S263:=by
 refine hd c (fnq func263) 30 ?_
 rintro O X hS hX hpf hk (w1:Word) (r:Bool) (h:F263 w1=some r)
 refine gs ?_
 rw[F263]at h
 refine R [1] ?_
 refine seq (R [1,10] ?_)
 refine ik h (λh=>?_) λh=>?_
 ·exact Rt h [2]
 refine seq (R [1,13,14] ?_)
 refine block (Lp h (λa=>⟨sl [(1,.ref 0 0),(13,ai (w1.quoted_.length:Int)),(14,ai a)],30,[V2 w1]⟩) ?_)
 clear h
 rintro a e h
 rw[Z4n]at h
 try dsimp only at h
 refine AW.st (R [1,13,14,15] ?_)
 refine seq (iz h (λh=>?_) λh=>?_)
 ·refine skip (seq ?_)
  refine block (R [1,3,13,14] ?_)
  obtain⟨d,b,h⟩:=oc h λ_=>Q6h
  refine seq (reg hS [(1,.ref 0 0),(13,ai (w1.quoted_.length:Int)),(14,ai a),(28,ab (!decide (d=48)&&!decide (d=49)))] [V2 w1] ?_ ?_)
  ·clear h hk hS hX c
   exact dh1 (an b.1 (an b.2.1 b.2.2))
  refine ik h (λh=>?_) λh=>?_
  ·exact Rt h [2]
  refine G [1,13,14] ?_
  exact nx h
 exact exit (Rt h [2])
end Go.Abs.U48
