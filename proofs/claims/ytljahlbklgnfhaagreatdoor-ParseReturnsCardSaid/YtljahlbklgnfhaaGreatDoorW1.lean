import Derived.Test.YtljahlbklgnfhaaGreatDoorD1
set_option linter.unusedVariables false
set_option linter.unusedSimpArgs false
set_option maxRecDepth 8000
set_option maxHeartbeats 4000000
namespace Go.Abs.U48
open Go.RowKit Go.Proofs AW
open Go.Proofs.Tryz
theorem Y7h{g:Y12}{i:Y11}(c:AllG env [S62 i,S28 g]):Q0c env (S28 (F28 g i)):=by
 refine hd c (fnq func28) 77 λO X hS hX hpf hk ⟨b,p⟩=>λr (h:F28 g i b p=some r)=>gs ?_
 rw[F28]at h
 refine R [0,1] ?_
 refine seq (R [0,1,8] ?_)
 refine ik h (λh=>?_) λh=>?_
 ·exact Rt h [4]
 refine seq (R [0,1,10,11] ?_)
 refine block (Lp h (λ(e,d)=>⟨sl [(0,vC b),(1,ai e),(10,ai (b.length:Int)),(11,ai d)],77,[]⟩) ?_)
 clear h
 rintro⟨e,d⟩ y h
 rw[Z9q]at h
 try dsimp only at h
 refine AW.st (R [0,1,10,11,12] ?_)
 refine seq (iz h (λh=>?_) λh=>?_)
 ·refine skip (seq ?_)
  refine block (R [0,1,5,10,11] ?_)
  refine R [0,1,5,10,11] ?_
  obtain⟨j,l,h⟩:=oc h λ_ q=>Q8v (Q0d q)
  refine seq (seq ?_)
  refine reg hS [(0,vC b),(1,ai (IntKind.wrap .i64 (e-1))),(5,ai d),(10,ai (b.length:Int)),(11,ai d),(36,ab ((decide (IntKind.wrap .i64 (e-1)<0)||decide (2000<(j.name_.length:Int)))||decide (IntKind.wrap .i64 (e-1)<(j.redirs_.length:Int))))] [] ?_ ?_
  ·clear h hk hS hX c
   exact dh1 (an l.1 l.2.1)
  refine ik h (λh=>?_) λh=>?_
  ·exact Rt h [4]
  obtain⟨t,a,h⟩:=oc h λ_=>Q0m
  obtain⟨z,u,h⟩:=oc h (Zt2 hk 0 rfl)
  refine seq (rg hS [0,1,5,10,11] (di1 (an a.1 (an a.2.1 (ca u)))) ?_)
  obtain⟨A,x,h⟩:=oc h (Zt2 hk 1 rfl)
  refine seq (rg hS [0,1,5,10,11] (di1 (an a.1 (an a.2.1 (ca x)))) ?_)
  refine seq (srg hS [0,1,5,10,11,56,57] (di1 (an a.1 a.2.1)) ?_)
  refine block (Lp h (λ(m,n)=>⟨sl [(0,vC b),(1,ai m),(5,ai d),(10,ai (b.length:Int)),(11,ai d),(56,ai (t.redirs_.length:Int)),(57,ai n)],77,[]⟩) ?_)
  clear h
  rintro⟨m,n⟩ C h
  rw[J1z]at h
  try dsimp only at h
  refine AW.st (R [0,1,5,10,11,56,57,58] ?_)
  refine seq (iz h (λh=>?_) λh=>?_)
  ·refine skip (seq ?_)
   refine block (R [0,1,5,6,10,11,56,57] ?_)
   obtain⟨D,o,h⟩:=oc h λ_=>Q0m
   obtain⟨E,f,h⟩:=oc h (Zt2 hk 0 rfl)
   replace f:=ca f
   try simp only[PVE]at f
   refine rg hS [0,1,5,10,11,56,57] (di1 (an a.1 (an a.2.1 (an o.1 (an o.2.1 f))))) ?_
   refine G [0,1,5,10,11,56,57] ?_
   exact nx h
  refine exit (R [0,1,10,11,74] ?_)
  refine ik h (λh=>?_) λh=>?_
  ·exact Rt h [4]
  refine G [0,1,10,11] ?_
  exact nx h
 exact exit (Rt h [4])
theorem Y6t{f:Y12}{g:Y11}(c:AllG env [S62 g,S28 f]):Q0c env (S62 (F62 f g)):=by
 refine hd c (fnq func62) 51 λO X hS hX hpf hk ⟨a,l⟩=>λr (h:F62 f g a l=some r)=>gs ?_
 rw[F62]at h
 refine R [0,1] ?_
 refine seq (R [0,1,7,8] ?_)
 refine block (Lp h (λ(b,d)=>⟨sl [(0,vWo a),(1,ai b),(7,ai (a.length:Int)),(8,ai d)],51,[]⟩) ?_)
 clear h
 rintro⟨b,d⟩ o h
 rw[J1y]at h
 try dsimp only at h
 refine AW.st (R [0,1,7,8,9] ?_)
 refine seq (iz h (λh=>?_) λh=>?_)
 ·refine skip (seq ?_)
  refine block (R [0,1,5,7,8] ?_)
  refine R [0,1,5,7,8] ?_
  obtain⟨i,j,h⟩:=oc h λ_ q=>Q8v (Q0d q)
  refine seq (seq ?_)
  refine reg hS [(0,vWo a),(1,ai (IntKind.wrap .i64 (b-1))),(5,ai d),(7,ai (a.length:Int)),(8,ai d),(32,ab ((decide (IntKind.wrap .i64 (b-1)<0)||decide (2000<(i.text_.length:Int)))||decide (2000<(i.quoted_.length:Int))))] [] ?_ ?_
  ·clear h hk hS hX c
   exact dh1 (an j.1 j.2.1)
  refine ik h (λh=>?_) λh=>?_
  ·exact Rt h [4]
  obtain⟨p,e,h⟩:=oc h λ_=>Q0m
  obtain⟨t,m,h⟩:=oc h (Zt2 hk 0 rfl)
  refine seq (rg hS [0,1,5,7,8] (di1 (an e.1 (an e.2.1 (ca m)))) ?_)
  obtain⟨u,n,h⟩:=oc h (Zt2 hk 1 rfl)
  refine seq (rg hS [0,1,7,8] (di1 (an e.1 (an e.2.1 (ca n)))) ?_)
  refine R [0,1,7,8,48] ?_
  refine ik h (λh=>?_) λh=>?_
  ·exact Rt h [4]
  refine G [0,1,7,8] ?_
  exact nx h
 exact exit (Rt h [4])
theorem Y7s(c:AllG env [S28 (K28 BIG)]):Q0c env S12:=by
 refine hd c (fnq func12) 6 ?_
 rintro O X hS hX hpf hk (b:(List Cmd)) (r:Bool) (h:F12 b=some r)
 refine gs ?_
 rw[F12]at h
 refine R [0] ?_
 obtain⟨e,d,h⟩:=obs h
 have a:=hk 0 28 rfl
 replace a:=a.ret (b,2000) d rfl rfl
 refine seq (rg hS [2] (di1 (ap1 28 hpf a)) ?_)
 exact Rf h
theorem Y7d(c:AllG env []):Q0c env S34:=by
 refine hd c (fnq func34) 14 ?_
 rintro O X hS hX hpf hk (a:Redir) (r:(List Word)) (h:F34 a=some r)
 refine gs ?_
 rw[F34]at h
 refine R [1] ?_
 refine seq (seq ?_)
 refine reg hS [(1,.ref 0 0),(10,ab (decide (a.kind_=5)||decide (a.kind_=6)))] [V0 a] ?_ ?_
 ·clear h hk hS hX c
  exact dh
 refine ik h (λh=>?_) λh=>?_
 ·exact Rt h [2]
 exact seq (rg hS [2] di (Rf h))
theorem Y7o{b:Y6}{d:Y7}(c:AllG env [S33 d,S16 b,S34]):Q0c env (S16 (F16 b d)):=by
 refine hd c (fnq func16) 59 ?_
 rintro O X hS hX hpf hk (e:(List Cmd)) (r:Int) (h:F16 b d e=some r)
 refine gs ?_
 rw[F16]at h
 refine R [0] ?_
 refine R [0,3] ?_
 refine seq (R [0,3,4] ?_)
 refine block (Lp h (λ(g,f)=>⟨sl [(0,vC e),(3,ai g),(4,ai f)],59,[]⟩) ?_)
 clear h
 rintro⟨g,f⟩ x h
 rw[J2e]at h
 try dsimp only at h
 refine AW.st (seq ?_)
 refine R [0,3,4,11] ?_
 refine iz h (λh=>?_) λh=>?_
 ·refine skip (seq ?_)
  refine block (seq ?_)
  obtain⟨i,a,h⟩:=oc h λ_=>Q0m
  obtain⟨y,n,h⟩:=oc h (Zt hk 0 33 i.words_)
  obtain⟨z,o,h⟩:=oc h (Zt hk 1 16 i.kids_)
  apply dgk mixed hS [0,3,4] (ordp hpf (by kernel_rfl))
  ·exact di1 (an a.1 (an a.2.1 (an (ca n) (ca o))))
  refine R [0,3,4,5] ?_
  refine block (Lp h (λ(j,l)=>⟨sl [(0,vC e),(3,ai j),(4,ai f),(5,ai l)],59,[]⟩) ?_)
  clear h
  rintro⟨j,l⟩ A h
  rw[X3l]at h
  try dsimp only at h
  refine AW.st (seq ?_)
  refine srg hS [0,3,4,5,43] (di1 (an a.1 a.2.1)) ?_
  refine iz h (λh=>?_) λh=>?_
  ·obtain⟨p,m,h⟩:=oc h λ_=>Q0m
   obtain⟨q,t,h⟩:=oc h (Zt hk 2 34 p)
   obtain⟨C,u,h⟩:=oc h (Zt hk 0 33 q)
   refine skip (seq ?_)
   refine block (rg hS [0,3,4,5] (di1 (an a.1 (an a.2.1 (an m.1 (an m.2.1 (an (ca t) (ca u))))))) ?_)
   refine G [0,3,4,5] ?_
   exact nx h
  refine exit (G [0,3,4] ?_)
  exact nx h
 exact exit (Rt h [2])
theorem Y7e{a:Y6}{b:Y7}(c:AllG env [S33 b,S16 a]):Q0c env (S33 (F33 a b)):=by
 refine hd c (fnq func33) 29 ?_
 rintro O X hS hX hpf hk (d:(List Word)) (r:Int) (h:F33 a b d=some r)
 refine gs ?_
 rw[F33]at h
 refine R [0] ?_
 refine R [0,3] ?_
 refine seq (R [0,3,4] ?_)
 refine block (Lp h (λ(e,f)=>⟨sl [(0,vWo d),(3,ai e),(4,ai f)],29,[]⟩) ?_)
 clear h
 rintro⟨e,f⟩ m h
 rw[K2a]at h
 try dsimp only at h
 refine AW.st (seq ?_)
 refine R [0,3,4,10] ?_
 refine iz h (λh=>?_) λh=>?_
 ·refine skip (seq ?_)
  refine block ?_
  obtain⟨g,i,h⟩:=oc h λ_=>Q0m
  obtain⟨n,j,h⟩:=oc h (Zt hk 0 33 g.words_)
  obtain⟨o,l,h⟩:=oc h (Zt hk 1 16 g.cmd_)
  apply dgk mixed hS [0,3,4] (ordp hpf (by kernel_rfl))
  ·exact di1 (an i.1 (an i.2.1 (an (ca j) (ca l))))
  refine G [0,3,4] ?_
  exact nx h
 exact exit (Rt h [2])
theorem Y7j{f:Y6}{g:Y7}(c:AllG env [S61 g,S25 f,S34]):Q0c env (S25 (F25 f g)):=by
 refine hd c (fnq func25) 53 ?_
 rintro O X hS hX hpf hk (b:(List Cmd)) (r:Int) (h:F25 f g b=some r)
 refine gs ?_
 rw[F25]at h
 refine R [0] ?_
 refine R [0,3] ?_
 refine seq (R [0,3,4] ?_)
 refine block (Lp h (λ(d,e)=>⟨sl [(0,vC b),(3,ai d),(4,ai e)],53,[]⟩) ?_)
 clear h
 rintro⟨d,e⟩ z h
 rw[J2b]at h
 try dsimp only at h
 refine AW.st (seq ?_)
 refine R [0,3,4,10] ?_
 refine iz h (λh=>?_) λh=>?_
 ·obtain⟨i,a,h⟩:=oc h λ_=>Q0m
  obtain⟨n,o,h⟩:=oc h (Zt hk 0 61 i.words_)
  obtain⟨p,q,h⟩:=oc h (Zt hk 1 25 i.kids_)
  refine skip (seq ?_)
  refine block (seq ?_)
  refine dreg mixed hS (ordp hpf (by kernel_rfl)) [(0,vC b),(3,ai d),(4,ai e),(5,ai (imax n p))] [] ?_ ?_
  ·exact dk1 (an a.1 (an a.2.1 (an (ca o) (ca q))))
  refine seq (R [0,3,4,5,6] ?_)
  refine block (Lp h (λ(j,l)=>⟨sl [(0,vC b),(3,ai d),(4,ai e),(5,ai j),(6,ai l)],53,[]⟩) ?_)
  clear h
  rintro⟨j,l⟩ A h
  rw[X3j]at h
  try dsimp only at h
  refine AW.st (seq ?_)
  refine srg hS [0,3,4,5,6,33] (di1 (an a.1 a.2.1)) ?_
  refine iz h (λh=>?_) λh=>?_
  ·obtain⟨t,m,h⟩:=oc h λ_=>Q0m
   obtain⟨u,x,h⟩:=oc h (Zt hk 2 34 t)
   obtain⟨C,y,h⟩:=oc h (Zt hk 0 61 u)
   refine skip (seq ?_)
   refine block (rg hS [0,3,4,5,6] (di1 (an a.1 (an a.2.1 (an m.1 (an m.2.1 (an (ca x) (ca y))))))) ?_)
   refine G [0,3,4,5,6] ?_
   exact nx h
  refine exit (rg hS [0,3,4] di ?_)
  refine G [0,3,4] ?_
  exact nx h
 exact exit (Rt h [2])
theorem Y6u{a:Y6}{b:Y7}(c:AllG env [S61 b,S25 a]):Q0c env (S61 (F61 a b)):=by
 refine hd c (fnq func61) 28 ?_
 rintro O X hS hX hpf hk (d:(List Word)) (r:Int) (h:F61 a b d=some r)
 refine gs ?_
 rw[F61]at h
 refine R [0] ?_
 refine R [0,3] ?_
 refine seq (R [0,3,4] ?_)
 refine block (Lp h (λ(e,f)=>⟨sl [(0,vWo d),(3,ai e),(4,ai f)],28,[]⟩) ?_)
 clear h
 rintro⟨e,f⟩ o h
 rw[K1w]at h
 try dsimp only at h
 refine AW.st (seq ?_)
 refine R [0,3,4,8] ?_
 refine iz h (λh=>?_) λh=>?_
 ·obtain⟨g,i,h⟩:=oc h λ_=>Q0m
  obtain⟨j,l,h⟩:=oc h (Zt hk 0 61 g.words_)
  obtain⟨m,n,h⟩:=oc h (Zt hk 1 25 g.cmd_)
  refine skip (seq ?_)
  refine block (dreg mixed hS (ordp hpf (by kernel_rfl)) [(0,vWo d),(3,ai (imax e (IntKind.wrap .i64 (1+(imax j m))))),(4,ai f)] [] ?_ ?_)
  ·exact dk1 (an i.1 (an i.2.1 (an (ca l) (ca n))))
  refine G [0,3,4] ?_
  exact nx h
 exact exit (Rt h [2])
theorem Y0n(c:AllG env []):Q0c env S100:=by
 refine hd c (fnq func100) 24 ?_
 rintro O X hS hX hpf hk (Q0k r:Int) (h:F100 Q0k=some r)
 refine gs ?_
 rw[F100]at h
 refine R [0] ?_
 refine seq (R [3] ?_)
 refine block (seqM ⟨sl [(3,ai Q0k),(4,ab (bif decide (Q0k=1)then decide (Q0k=1)else(bif decide (Q0k=2)then decide (Q0k=2)else(bif decide (Q0k=7)then decide (Q0k=7)else(bif decide (Q0k=8)then decide (Q0k=8)else(bif decide (Q0k=9)then decide (Q0k=9)else(bif decide (Q0k=10)then decide (Q0k=10)else(bif decide (Q0k=11)then decide (Q0k=11)else(bif decide (Q0k=12)then decide (Q0k=12)else(bif decide (Q0k=13)then decide (Q0k=13)else(bif decide (Q0k=15)then decide (Q0k=15)else(bif decide (Q0k=16)then decide (Q0k=16)else decide (Q0k=17)))))))))))))],24,[]⟩ ?_ ?_)
 ·refine R [3,4] ?_
  refine cond (b:=decide (Q0k=1)) rfl (λa=>?_) (λa=>?_)
  ·exact skip (Weak.of_eq (Wq0 (L:=[(3,ai Q0k),(4,ab (decide (Q0k=1)))]) kp) (wq a))
  refine R [3,4] ?_
  refine cond (b:=decide (Q0k=2)) rfl (λd=>?_) (λd=>?_)
  ·exact skip (Weak.of_eq (Wq0 (L:=[(3,ai Q0k),(4,ab (decide (Q0k=2)))]) kp) (by simp only[a,d,G1a,G0v,Q1x,G0m,G0o]<;>rfl))
  refine R [3,4] ?_
  refine cond (b:=decide (Q0k=7)) rfl (λe=>?_) (λe=>?_)
  ·exact skip (Weak.of_eq (Wq0 (L:=[(3,ai Q0k),(4,ab (decide (Q0k=7)))]) kp) (by simp only[a,d,e,G1a,G0v,Q1x,G0m,G0o]<;>rfl))
  refine R [3,4] ?_
  refine cond (b:=decide (Q0k=8)) rfl (λf=>?_) (λf=>?_)
  ·exact skip (Weak.of_eq (Wq0 (L:=[(3,ai Q0k),(4,ab (decide (Q0k=8)))]) kp) (by simp only[a,d,e,f,G1a,G0v,Q1x,G0m,G0o]<;>rfl))
  refine R [3,4] ?_
  refine cond (b:=decide (Q0k=9)) rfl (λg=>?_) (λg=>?_)
  ·exact skip (Weak.of_eq (Wq0 (L:=[(3,ai Q0k),(4,ab (decide (Q0k=9)))]) kp) (by simp only[a,d,e,f,g,G1a,G0v,Q1x,G0m,G0o]<;>rfl))
  refine R [3,4] ?_
  refine cond (b:=decide (Q0k=10)) rfl (λi=>?_) (λi=>?_)
  ·exact skip (Weak.of_eq (Wq0 (L:=[(3,ai Q0k),(4,ab (decide (Q0k=10)))]) kp) (by simp only[a,d,e,f,g,i,G1a,G0v,Q1x,G0m,G0o]<;>rfl))
  refine R [3,4] ?_
  refine cond (b:=decide (Q0k=11)) rfl (λj=>?_) (λj=>?_)
  ·exact skip (Weak.of_eq (Wq0 (L:=[(3,ai Q0k),(4,ab (decide (Q0k=11)))]) kp) (by simp only[a,d,e,f,g,i,j,G1a,G0v,Q1x,G0m,G0o]<;>rfl))
  refine R [3,4] ?_
  refine cond (b:=decide (Q0k=12)) rfl (λl=>?_) (λl=>?_)
  ·exact skip (Weak.of_eq (Wq0 (L:=[(3,ai Q0k),(4,ab (decide (Q0k=12)))]) kp) (by simp only[a,d,e,f,g,i,j,l,G1a,G0v,Q1x,G0m,G0o]<;>rfl))
  refine R [3,4] ?_
  refine cond (b:=decide (Q0k=13)) rfl (λm=>?_) (λm=>?_)
  ·exact skip (Weak.of_eq (Wq0 (L:=[(3,ai Q0k),(4,ab (decide (Q0k=13)))]) kp) (by simp only[a,d,e,f,g,i,j,l,m,G1a,G0v,Q1x,G0m,G0o]<;>rfl))
  refine R [3,4] ?_
  refine cond (b:=decide (Q0k=15)) rfl (λn=>?_) (λn=>?_)
  ·exact skip (Weak.of_eq (Wq0 (L:=[(3,ai Q0k),(4,ab (decide (Q0k=15)))]) kp) (by simp only[a,d,e,f,g,i,j,l,m,n,G1a,G0v,Q1x,G0m,G0o]<;>rfl))
  refine R [3,4] ?_
  refine cond (b:=decide (Q0k=16)) rfl (λo=>?_) (λo=>?_)
  ·exact skip (Weak.of_eq (Wq0 (L:=[(3,ai Q0k),(4,ab (decide (Q0k=16)))]) kp) (by simp only[a,d,e,f,g,i,j,l,m,n,o,G1a,G0v,Q1x,G0m,G0o]<;>rfl))
  refine G [3,4] ?_
  exact Weak.of_eq (Wq0 (L:=[(3,ai Q0k),(4,ab (decide (Q0k=17)))]) kp) (by simp only[a,d,e,f,g,i,j,l,m,n,o,G1a,G0v,Q1x,G0m,G0o]<;>rfl)
 refine iz h (λh=>?_) λh=>?_
 ·exact Rt h [2]
 refine R [3,17] ?_
 refine iz h (λh=>?_) λh=>?_
 ·exact Rt h [2]
 refine seqM ⟨sl [(3,ai Q0k),(19,ab (bif decide (Q0k=5)then decide (Q0k=5)else decide (Q0k=6)))],24,[]⟩ ?_ ?_
 ·refine R [3,19] ?_
  refine cond (b:=decide (Q0k=5)) rfl (λp=>?_) (λp=>?_)
  ·exact skip (Weak.of_eq (Wq0 (L:=[(3,ai Q0k),(19,ab (decide (Q0k=5)))]) kp) (wq p))
  refine G [3,19] ?_
  exact Weak.of_eq (Wq0 (L:=[(3,ai Q0k),(19,ab (decide (Q0k=6)))]) kp) (wq p)
 refine iz h (λh=>?_) λh=>?_
 ·exact Rt h [2]
 refine R [22] ?_
 refine ik h (λh=>?_) λh=>?_
 ·exact Rt h [2]
 exact Rt h [2]
theorem V6q{d:Y4}(c:AllG env [S100,S101 d]):Q0c env (S65 d):=by
 refine hd c (fnq func65) 34 λO X hS hX hpf hk ⟨e,a⟩=>λr (h:F65 d e a=some r)=>gs ?_
 rw[F65]at h
 refine R [0,1] ?_
 refine seq (R [0,1,5] ?_)
 refine block (Lp h (λf=>⟨sl [(0,vC e),(1,ai a),(5,ai f)],34,[]⟩) ?_)
 clear h
 rintro f p h
 rw[K1v]at h
 try dsimp only at h
 refine AW.st (seq ?_)
 refine R [0,1,5,10] ?_
 refine iz h (λh=>?_) λh=>?_
 ·obtain⟨i,b,h⟩:=oc h λ_=>Q0m
  obtain⟨j,l,h⟩:=oc h (Zt hk 0 100 i.kind_)
  refine skip (seq ?_)
  refine block (seq ?_)
  refine rg hS [0,1,5,6] (di1 (an b.1 (an b.2.1 (ca l)))) ?_
  obtain⟨m,g,h⟩:=obs h
  replace g:=Q0d g
  have n:=λo=>(hk 1 101 rfl).ret i (g o) rfl rfl
  refine seq (reg hS [(0,vC e),(1,ai a),(5,ai f),(33,ab ((decide (j<1)||decide (a<j))||!m))] [] ?_ ?_)
  ·clear h hk hS hX c
   exact dh1 (an b.1 (an b.2.1 (ap1 101 hpf n)))
  refine ik h (λh=>?_) λh=>?_
  ·exact Rt h [4]
  refine G [0,1,5] ?_
  exact nx h
 exact exit (Rt h [4])
theorem V6v{a:Y4}(c:AllG env [S65 a]):Q0c env (S30 a):=by
 refine hd c (fnq func30) 5 ?_
 rintro O X hS hX hpf hk (b:(List Cmd)) (r:Bool) (h:F30 a b=some r)
 refine gs ?_
 rw[F30]at h
 refine R [0] ?_
 refine seq (Ua1 h [2] (Zt2 hk 0 rfl) λd h=>?_)
 exact Rf h
theorem V9a(c:AllG env []):Q0c env S172:=by
 refine hd c (fnq func172) 59 ?_
 rintro O X hS hX hpf hk (b:Str) (r:Bool) (h:F172 b=some r)
 refine gs ?_
 rw[F172]at h
 refine R [0] ?_
 refine seq (R [0,3] ?_)
 refine block (Lp h (λd=>⟨sl [(0,as_ b),(3,ai d)],59,[]⟩) ?_)
 clear h
 rintro d f h
 rw[X0c]at h
 try dsimp only at h
 refine AW.st (seq ?_)
 refine R [0,3,7] ?_
 refine iz h (λh=>?_) λh=>?_
 ·obtain⟨a,e,h⟩:=oc h λ_=>Q6h
  refine skip (seq ?_)
  refine block (seq ?_)
  refine reg hS [(0,as_ b),(3,ai d),(56,ab (!(((((decide (97<=a)&&decide (a<=122))||(decide (65<=a)&&decide (a<=90)))||(decide (48<=a)&&decide (a<=57)))||decide (a=95))||decide (a=42))))] [] ?_ ?_
  ·clear h hk hS hX c
   exact dh1 (an e.1 (an e.2.1 e.2.2))
  refine ik h (λh=>?_) λh=>?_
  ·exact Rt h [2]
  refine G [0,3] ?_
  exact nx h
 exact exit (Rt h [2])
end Go.Abs.U48
