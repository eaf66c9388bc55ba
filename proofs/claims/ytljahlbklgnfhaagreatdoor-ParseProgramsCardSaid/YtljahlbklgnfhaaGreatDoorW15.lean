import Derived.Test.YtljahlbklgnfhaaGreatDoorD1
set_option linter.unusedVariables false
set_option linter.unusedSimpArgs false
set_option maxRecDepth 8000
set_option maxHeartbeats 4000000
namespace Go.Abs.U48
open Go.RowKit Go.Proofs AW
theorem Y0v(c:AllG env []):Q0c env S88:=by
 refine hd c Y3h 39 λO X hS hX hpf hk ⟨a,b⟩=>λr (h:F88 a b=some r)=>gs ?_
 rw[F88]at h
 refine R [0,1] ?_
 obtain⟨c4,d,h⟩:=oc h λ_ q=>Q1x (Q0d q)
 refine seq (seq ?_)
 refine reg hS [(0,as_ a),(1,ai b),(20,ab (decide (b<(a.length:Int))&&(decide (c4=32)||decide (c4=9))))] [] ?_ ?_
 ·clear h hk hS hX c
  exact dh1 (an d.1 (an d.2.1 d.2.2))
 refine ik h (λh=>?_) λh=>?_
 ·exact Rt h [4]
 obtain⟨g,e,h⟩:=oc h λ_ q=>Q1x (Q0d q)
 obtain⟨i,f,h⟩:=oc h λ_ q=>Q1x (Q0d q)
 refine seq (seq ?_)
 refine reg hS [(38,ab ((decide (IntKind.wrap .i64 (b+1)<(a.length:Int))&&decide (g=92))&&decide (i=10)))] [] ?_ ?_
 ·clear h hk hS hX c
  exact dh1 (an e.1 (an e.2.1 (an e.2.2 (an f.1 (an f.2.1 f.2.2)))))
 refine ik h (λh=>?_) λh=>?_
 ·exact Rt h [4]
 exact Rt h [4]
theorem Y1r(c:AllG env []):Q0c env S54:=by
 refine hd c Y4g 54 λO X hS hX hpf hk ⟨a,b,f⟩=>λr (h:F54 a b f=some r)=>gs ?_
 rw[F54]at h
 refine R [0,1,2] ?_
 refine seq (seq ?_)
 refine reg hS [(0,as_ a),(1,ai b),(2,as_ f),(18,ab (decide (b<0)||decide ((a.length:Int)<b)))] [] ?_ ?_
 ·clear h hk hS hX c
  exact dh
 refine ik h (λh=>?_) λh=>?_
 ·exact Rt h [6,7,8]
 refine R [0,1,2,9] ?_
 refine seq (block ?_)
 refine Lp h (λg=>⟨sl [(0,as_ a),(1,ai b),(2,as_ f),(9,ai g)],54,[]⟩) ?_
 clear h
 rintro g p h
 rw[Q2s]at h
 try dsimp only at h
 refine AW.st (seq ?_)
 refine R [0,1,2,9,23] ?_
 refine iz h (λh=>?_) λh=>?_
 ·refine skip (block ?_)
  refine R [0,1,2,9,10] ?_
  refine seq (block ?_)
  refine Lp h (λi=>⟨sl [(0,as_ a),(1,ai b),(2,as_ f),(9,ai g),(10,ai i)],54,[]⟩) ?_
  clear h
  rintro i m16 h
  rw[Q8w]at h
  try dsimp only at h
  obtain⟨o,j,h⟩:=oc h λ_ q=>Q1x (Q0d q)
  refine AW.st (seq ?_)
  refine seq (reg hS [(0,as_ a),(1,ai b),(2,as_ f),(9,ai g),(10,ai i),(34,ab (decide (i<(a.length:Int))&&!decide (o=10)))] [] ?_ ?_)
  ·clear h hk hS hX c
   exact dh1 (an j.1 (an j.2.1 j.2.2))
  refine iz h (λh=>?_) λh=>?_
  ·refine skip (block ?_)
   refine G [0,1,2,9,10] ?_
   exact nx h
  obtain⟨t21,d,h⟩:=oc h λ_=>Q0r
  try simp only[NRM,Int.reduceToNat]at d
  have k:=d.2.2.2.2
  try simp only[NRM,Int.reduceToNat]at k
  have l:=d.2.2.1
  try simp only[NRM,Int.reduceToNat]at l
  refine exit (seq ?_)
  refine seq (rg hS [0,1,2,9,10,42] (di1 (an d.1 (an d.2.1 (an l (an d.2.2.2.1 k))))) ?_)
  refine ik h (λh=>?_) λh=>?_
  ·obtain⟨s,e,h⟩:=oc h λ_=>Q0r
   try simp only[NRM,Int.reduceToNat]at e
   have m:=e.2.2.2.2
   try simp only[NRM,Int.reduceToNat]at m
   have n:=e.2.2.1
   try simp only[NRM,Int.reduceToNat]at n
   exact seq (rg hS [6,7,8] (di1 (an e.1 (an e.2.1 (an n (an e.2.2.2.1 m))))) (Rf h))
  refine G [0,1,2,9] ?_
  exact nx h
 exact exit (Rt h [6,7,8])
theorem Y0t(c:AllG env [S54,S53]):Q0c env S90:=by
 refine hd c Y3f 45 λO X hS hX hpf hk ⟨k,n,o,p,q,s,b,a⟩=>λr (h:F90 k n o p q s b a=some r)=>gs ?_
 rw[F90]at h
 refine R [0,3,4] ?_
 refine seq (R [0,3,4,5] ?_)
 refine block (Lp h (λ(j,d,f,g,e,i)=>⟨sl [(0,as_ k),(3,.ref 2 0),(4,.ref 3 0),(5,ai j)],45,[rTo b,rSt a,V22 d b.length f g a.length e i,V23 0 0 false 0 0]⟩) ?_)
 clear h
 rintro⟨j,d,f,g,e,i⟩ E h
 rw[Z0b]at h
 try dsimp only at h
 refine AW.st (seq ?_)
 refine seq (reg hS [(0,as_ k),(3,.ref 2 0),(4,.ref 3 0),(5,ai j),(18,ab (decide (j<(a.length:Int))&&decide (e=0)))] [rTo b,rSt a,V22 d b.length f g a.length e i,V23 0 0 false 0 0] ?_ ?_)
 ·clear h hk hS hX c
  exact dh
 refine iz h (λh=>?_) λh=>?_
 ·refine skip (seq ?_)
  refine block (seq ?_)
  obtain⟨F,l,h⟩:=oc h λ_=>Q0l
  obtain⟨⟨H,I,m⟩,t,h⟩:=oc h (Zt3 hk 0 rfl)
  apply dgk mixed hS [0,3,4,5,7,8] (ordp hpf (by kernel_rfl))
  ·exact di1 (an l.1 (an l.2.1 (an l.2.2 (ca t))))
  refine R [0,3,4,5,7,8,35] ?_
  refine iz h (λh=>?_) λh=>?_
  ·obtain⟨⟨u,w,x,y,z⟩,A,h⟩:=obs h
   dsimp only at h
   have C:=(hk 1 53 rfl).ret (d,f,g,e,i,m,d,b,a) A rfl rfl
   have D:Q0x O [rTo b,rSt a,V22 d b.length f g a.length e i,V23 0 0 false 0 0] 53 [.agg [ai d,.vec 0 (List.length b),ai f,ab g,.vec 1 (List.length a),ai e,ai i],ai m,ai d]=some (Q1c [.agg [ai u,.vec 0 (List.length b),ai w,ab x,.vec 1 (List.length a),ai y,ai z]],[rTo b,rSt a,V22 d b.length f g a.length e i,V23 0 0 false 0 0]):=Q0k rfl rfl rfl C rfl rfl rfl
   refine rg hS [0,3,4,5] (di1 (ap0 53 hpf D)) ?_
   refine G [0,3,4,5] ?_
   exact nx h
  refine G [0,3,4,5] ?_
  refine G [0,3,4,5] ?_
  exact nx h
 refine exit (R [3,4] ?_)
 exact Rt h [4]
theorem V0j(c:AllG env []):Q0c env S136:=by
 refine hd c V4x 17 λO X hS hX hpf hk ⟨b,d⟩=>λr (h:F136 b d=some r)=>gs ?_
 rw[F136]at h
 refine R [0,1] ?_
 refine seq (R [0,1,5] ?_)
 refine block (Lp h (λi4=>⟨sl [(0,.pv (.int .u8 b)),(1,as_ d),(5,ai i4)],17,[]⟩) ?_)
 clear h
 rintro i4 e h
 rw[J6c]at h
 try dsimp only at h
 refine AW.st (seq ?_)
 refine R [0,1,5,9] ?_
 refine iz h (λh=>?_) λh=>?_
 ·obtain⟨c9,a,h⟩:=oc h λ_=>Q1y
  refine skip (seq ?_)
  refine block (seq ?_)
  refine rg hS [0,1,5,16] (di1 (an a.1 (an a.2.1 a.2.2))) ?_
  refine ik h (λh=>?_) λh=>?_
  ·exact Rt h [4]
  refine G [0,1,5] ?_
  exact nx h
 exact exit (Rt h [4])
theorem V0h(c:AllG env [S88,S136]):Q0c env S138:=by
 refine hd c V4v 22 λO X hS hX hpf hk ⟨a,b⟩=>λr (h:F138 a b=some r)=>?_
 have j:O.pf 88=true:=pft hpf 88 rfl
 refine gs ?_
 rw[F138]at h
 refine R [0,1] ?_
 obtain⟨k,d,h⟩:=obs h
 replace d:=Q0d d
 have l:=λe=>(hk 0 88 rfl).ret (a,b) (d e) rfl rfl
 obtain⟨m,f,h⟩:=oc h λ_ q=>Q1x (Q0d q)
 obtain⟨n,g,h⟩:=obs h
 replace g:=Q0d g
 have i:=λe=>(hk 1 136 rfl).ret (m,([10,59,38,124,40,41,123,125,60,62,61,94,96,36,39]:Str)) (g e) rfl rfl
 try simp only[PVE]at i
 refine seq (reg hS [(4,ab ((decide (b<(a.length:Int))&&decide (k=0))&&!n))] [] ?_ ?_)
 ·clear h hk hS hX c
  exact dh1 (an j (an l (an f.1 (an f.2.1 (an f.2.2 (ap1 136 hpf i))))))
 exact Rf h
theorem V0g(c:AllG env []):Q0c env S139:=by
 refine hd c V4u 51 λO X hS hX hpf hk ⟨a,d⟩=>λr (h:F139 a d=some r)=>gs ?_
 rw[F139]at h
 refine R [0,1,4] ?_
 refine R [0,1,4,5] ?_
 refine seq (R [0,1,4,5,6] ?_)
 refine block (Lp h (λ(i4,e,f)=>⟨sl [(0,as_ a),(1,ai d),(4,.ref 0 0),(5,.ref 1 0),(6,ai i4)],51,[V24 [] [] 0 false,V24 e f 0 false]⟩) ?_)
 clear h
 rintro⟨i4,e,f⟩ o h
 rw[Q7t]at h
 try dsimp only at h
 refine AW.st (seq ?_)
 refine R [0,1,4,5,6,13] ?_
 refine iz h (λh=>?_) λh=>?_
 ·refine skip (seq ?_)
  refine block (seqJ (α:=Int) (λl=>⟨sl [(0,as_ a),(1,ai d),(4,.ref 0 0),(5,.ref 1 0),(6,ai l)],51,[V24 [] [] 0 false,V24 e f 0 false]⟩) (λx=>Z3b a e f (iter (Q7t a d) o) x=some r) ?_ ?_)
  ·intro l h
   rw[Z3b]at h
   try dsimp only at h
   refine AW.st (seq ?_)
   obtain⟨s,b,h⟩:=oc h λ_=>Q0r
   try simp only[NRM,Int.reduceToNat]at b
   have m:=b.2.2.2.2
   try simp only[NRM,Int.reduceToNat]at m
   have n:=b.2.2.1
   try simp only[NRM,Int.reduceToNat]at n
   obtain⟨t,g,h⟩:=oc h λ_=>Q6u
   try simp only[LNS,G1w,Nat.reduceAdd,Nat.reduceLeDiff,G2j,Nat.reduceMul]at g
   apply dgB mixed hS [(5,some 1),(36,some 1),(44,some 1)] [0,1,4,5,6] rfl (ordB hpf (B:=[(5,some 1),(36,some 1),(44,some 1)]) (by kernel_rfl))
   ·exact di1 (an b.1 (an b.2.1 (an n (an b.2.2.2.1 (an m (an g.1 g.2))))))
   obtain⟨u,i,h⟩:=oc h λ_=>Q6u
   try simp only[LNS,G1w,Nat.reduceAdd,Nat.reduceLeDiff,G2j,Nat.reduceMul]at i
   refine rg hS [0,1,4,5,6] (di1 (an i.1 i.2)) ?_
   refine G [0,1,4,5,6] ?_
   exact nx h
  obtain⟨c21,j,h⟩:=oc h λ_=>Q1y
  refine seq (rg hS [0,1,4,5,6,19] (di1 (an j.1 (an j.2.1 j.2.2))) ?_)
  refine ik h (λh=>?_) λh=>?_
  ·refine R [0,1,4,5,6] ?_
   obtain⟨p,k,h⟩:=oc h λ_ q=>Q1x (Q0d q)
   refine seq (reg hS [(0,as_ a),(1,ai d),(4,.ref 0 0),(5,.ref 1 0),(6,ai (IntKind.wrap .i64 (i4+1))),(31,ab (decide (IntKind.wrap .i64 (i4+1)=(a.length:Int))||!decide (p=39)))] [V24 [] [] 0 false,V24 e f 0 false] ?_ ?_)
   ·clear h hk hS hX c
    exact dh1 (an k.1 (an k.2.1 k.2.2))
   refine ik h (λh=>?_) λh=>?_
   ·refine R [4,5] ?_
    refine R [4,5] ?_
    exact Rt h [4]
   exact jn h
  exact jn h
 exact exit (Rt h [4])
theorem Y0p(c:AllG env [S138,S139]):Q0c env S94:=by
 refine hd c Y3b 71 λO X hS hX hpf hk ⟨b,s⟩=>λr (h:F94 b s=some r)=>gs ?_
 rw[F94]at h
 refine R [0,1,4] ?_
 refine R [0,4,5] ?_
 refine seq (block ?_)
 refine Lp h (λ(e,f,d,g)=>⟨sl [(0,as_ b),(4,.ref 0 0),(5,.ref 1 0)],71,[V24 [] [] 0 false,V24 e f d g]⟩) ?_
 clear h
 rintro⟨e,f,d,g⟩ x h
 rw[Z1x]at h
 try dsimp only at h
 obtain⟨t,u,h⟩:=oc h (Zt2 hk 0 rfl)
 obtain⟨w,i,h⟩:=oc h λ_ q=>Q1x (Q0d q)
 refine AW.st (seq ?_)
 refine seq (reg hS [(0,as_ b),(4,.ref 0 0),(5,.ref 1 0),(26,ab (t||(decide (d<(b.length:Int))&&decide (w=39))))] [V24 [] [] 0 false,V24 e f d g] ?_ ?_)
 ·clear h hk hS hX c
  exact dh1 (an (ca u) (an i.1 (an i.2.1 i.2.2)))
 refine iz h (λh=>?_) λh=>?_
 ·obtain⟨y,j,h⟩:=oc h λ_=>Q1y
  refine skip (block ?_)
  refine seq (rg hS [0,4,5,31] (di1 (an j.1 (an j.2.1 j.2.2))) ?_)
  refine iz h (λh=>?_) λh=>?_
  ·refine seq (Ua1 h [0,4,5,6] (Zt2 hk 1 rfl) λz h=>?_)
   refine seq (R [0,4,5,6,38] ?_)
   refine ik h (λh=>?_) λh=>?_
   ·exact Rt h [4]
   obtain⟨A,k,h⟩:=oc h λ_=>Q6u
   try simp only[LNS,G1w,Nat.reduceAdd,Nat.reduceLeDiff,G2j,Nat.reduceMul]at k
   obtain⟨C,l,h⟩:=oc h λ_=>Q6u
   try simp only[LNS,G1w,Nat.reduceAdd,Nat.reduceLeDiff,G2j,Nat.reduceMul]at l
   refine rg hS [0,4,5] (di1 (an k.1 (an k.2 (an l.1 l.2)))) ?_
   exact nx h
  obtain⟨D,a,h⟩:=oc h λ_=>Q0r
  try simp only[NRM,Int.reduceToNat]at a
  have o:=a.2.2.2.2
  try simp only[NRM,Int.reduceToNat]at o
  have p:=a.2.2.1
  try simp only[NRM,Int.reduceToNat]at p
  obtain⟨E,m,h⟩:=oc h λ_=>Q6u
  try simp only[LNS,G1w,Nat.reduceAdd,Nat.reduceLeDiff,G2j,Nat.reduceMul]at m
  obtain⟨F,n,h⟩:=oc h λ_=>Q6u
  try simp only[LNS,G1w,Nat.reduceAdd,Nat.reduceLeDiff,G2j,Nat.reduceMul]at n
  apply dgB mixed hS [(5,some 1),(53,some 1),(56,some 1),(58,some 1),(63,some 1),(66,some 1)] [0,4,5] rfl (ordB hpf (B:=[(5,some 1),(53,some 1),(56,some 1),(58,some 1),(63,some 1),(66,some 1)]) (by kernel_rfl))
  ·exact di1 (an a.1 (an a.2.1 (an p (an a.2.2.2.1 (an o (an m.1 (an m.2 (an n.1 n.2))))))))
  exact nx h
 exact exit (Rt h [4])
end Go.Abs.U48
