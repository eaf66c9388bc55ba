import Derived.Test.YtljahlbklgnfhaaGreatDoorD1
set_option linter.unusedVariables false
set_option linter.unusedSimpArgs false
set_option maxRecDepth 8000
set_option maxHeartbeats 4000000
namespace Go.Abs.U48
open Go.RowKit Go.Proofs AW
theorem Y0s(c:AllG env [S88,S94,S53,S89]):Q0c env S91:=by
 refine hd c Y3e 58 λO X hS hX hpf hk ⟨l,d,e,f,g,i,b,a⟩=>λr (h:F91 l d e f g i b a=some r)=>gs ?_
 rw[F91]at h
 refine R [0,3,4] ?_
 refine R [0,3,4,5] ?_
 refine R [0,3,4,5,6] ?_
 refine seq (block ?_)
 refine Lp h (λk=>⟨sl [(0,as_ l),(3,.ref 2 0),(4,.ref 3 0),(5,ai d),(6,ai k)],58,[rTo b,rSt a,V22 d b.length e f a.length g i,V23 0 0 false 0 0]⟩) ?_
 clear h
 rintro k m19 h
 rw[Q7x]at h
 try dsimp only at h
 obtain⟨T,m,h⟩:=oc h (Zt2 hk 0 rfl)
 refine AW.st (seq ?_)
 refine seq (rg hS [0,3,4,5,6,15] (di1 (ca m)) ?_)
 refine iz h (λh=>?_) λh=>?_
 ·refine skip (block ?_)
  refine rg hS [0,3,4,5,6] (di1 (ca m)) ?_
  exact nx h
 refine exit (seq ?_)
 refine Ua1 h [3,4,5,6,7] (Zt2 hk 1 rfl) λj h=>?_
 refine seq (R [3,4,5,6,7,26] ?_)
 refine ik h (λh=>?_) λh=>?_
 ·obtain⟨⟨o,p,q,s,t⟩,u,h⟩:=obs h
  dsimp only at h
  have w:=(hk 2 53 rfl).ret (d,e,f,g,i,48,j.to_,b,a) u rfl rfl
  have x:Q0x O [rTo b,rSt a,V22 d b.length e f a.length g i,V23 0 0 false 0 0,V25 j] 53 [.agg [ai d,.vec 0 (List.length b),ai e,ab f,.vec 1 (List.length a),ai g,ai i],ai 48,ai j.to_]=some (Q1c [.agg [ai o,.vec 0 (List.length b),ai p,ab q,.vec 1 (List.length a),ai s,ai t]],[rTo b,rSt a,V22 d b.length e f a.length g i,V23 0 0 false 0 0,V25 j]):=Q0k rfl rfl rfl w rfl rfl rfl
  refine seq (rg hS [4] (di1 (ap0 53 hpf x)) ?_)
  exact Rf h
 refine seq (R [3,4,5,6,7,34] ?_)
 refine ik h (λh=>?_) λh=>?_
 ·obtain⟨⟨y,z,A,C,D⟩,E,h⟩:=obs h
  dsimp only at h
  have F:=(hk 2 53 rfl).ret (d,e,f,g,i,47,k,b,a) E rfl rfl
  have H:Q0x O [rTo b,rSt a,V22 d b.length e f a.length g i,V23 0 0 false 0 0,V25 j] 53 [.agg [ai d,.vec 0 (List.length b),ai e,ab f,.vec 1 (List.length a),ai g,ai i],ai 47,ai k]=some (Q1c [.agg [ai y,.vec 0 (List.length b),ai z,ab A,.vec 1 (List.length a),ai C,ai D]],[rTo b,rSt a,V22 d b.length e f a.length g i,V23 0 0 false 0 0,V25 j]):=Q0k rfl rfl rfl F rfl rfl rfl
  refine seq (rg hS [4] (di1 (ap0 53 hpf H)) ?_)
  exact Rf h
 obtain⟨⟨I,J,K,L,M,n⟩,N,h⟩:=obs h
 dsimp only at h
 have P:=(hk 3 89 rfl).ret (d,e,f,g,i,Token.mk 4 d j.text_ j.quoted_,b,a) N rfl rfl
 have Q:Q0x O [rTo b,rSt a,V22 d b.length e f a.length g i,V23 0 0 false 0 0,V25 j] 89 [.agg [ai d,.vec 0 (List.length b),ai e,ab f,.vec 1 (List.length a),ai g,ai i],.pv (V2 4 d j.text_ j.quoted_)]=some (Q1c [.agg [ai I,.vec 0 (List.length n),ai J,ab K,.vec 1 (List.length a),ai L,ai M]],[rTo n,rSt a,V22 d b.length e f a.length g i,V23 0 0 false 0 0,V25 j]):=Q0k rfl rfl rfl P rfl rfl rfl
 refine seq (rg hS [3,4,7] (di1 (ap0 89 hpf Q)) ?_)
 replace h:=ap PV.str h;obtain⟨U,S,h⟩:=h
 refine seq (rg hS [3,4,7] (di1 S) ?_)
 refine R [3,4] ?_
 refine R [3,4] ?_
 exact Rt h [4]
theorem K9u(c:AllG env []):Q0c env S170:=by
 refine hd c V4e 60 λO X hS hX hpf hk ⟨d,b⟩=>λr (h:F170 d b=some r)=>gs ?_
 rw[F170]at h
 refine R [0,1] ?_
 refine R [0,1,5,6] ?_
 refine seq (block ?_)
 refine Lp h (λ(e,a)=>⟨sl [(0,as_ d),(1,ai b),(5,ai e),(6,ai a)],60,[]⟩) ?_
 clear h
 rintro⟨e,a⟩ k h
 rw[Q6m]at h
 try dsimp only at h
 obtain⟨c9,f,h⟩:=oc h λ_ q=>Q1x (Q0d q)
 refine AW.st (seq ?_)
 refine seq (reg hS [(0,as_ d),(1,ai b),(5,ai e),(6,ai a),(29,ab (((decide (a<(d.length:Int))&&decide (48<=c9))&&decide (c9<=57))&&decide (a<IntKind.wrap .i64 (b+3))))] [] ?_ ?_)
 ·clear h hk hS hX c
  exact dh1 (an f.1 (an f.2.1 f.2.2))
 refine iz h (λh=>?_) λh=>?_
 ·refine skip (block ?_)
  refine seq ?_
  obtain⟨l,g,h⟩:=oc h λ_=>Q1y
  apply rg hS [0,1,5,6]
  ·simp -implicitDefEqProofs only[RUNS,Q1d,Nat.reduceAdd,Nat.reduceLeDiff,Nat.reduceSub,reduceIte,Nat.reduceEqDiff,Nat.reduceLT,reduceCtorEq,Nat.reduceMul,Nat.reduceBEq,Int.reduceEq,Int.reduceToNat,G1r,G2b,if_true,G2i,eq_self,ne_eq,Q3v,Q2w,Q2i,TYS,g.1,g.2.1,g.2.2,J6u T_5 T_3];exact⟨rfl,rfl⟩
  refine G [0,1,5,6] ?_
  exact nx h
 obtain⟨j,i,h⟩:=oc h λ_ q=>Q1x (Q0d q)
 refine exit (seq ?_)
 refine seq (reg hS [(6,ai a),(58,ab ((decide (a=b)||decide (64<=e))||(decide (IntKind.wrap .i64 (b+1)<a)&&decide (j=48))))] [] ?_ ?_)
 ·clear h hk hS hX c
  exact dh1 (an i.1 (an i.2.1 i.2.2))
 refine ik h (λh=>?_) λh=>?_
 ·exact Rt h [4]
 exact Rt h [4]
theorem V0i(c:AllG env [S170]):Q0c env S137:=by
 refine hd c V4w 60 λO X hS hX hpf hk ⟨a,j,i⟩=>λr (h:F137 a j i=some r)=>gs ?_
 rw[F137]at h
 refine R [0,1,2] ?_
 refine seq (Ua1 h [0,2,7] (Zt2 hk 0 rfl) λb h=>?_)
 refine seqJ (α:=Int) (λd=>⟨sl [(0,as_ a),(7,ai d)],60,[]⟩) (λx=>Q7u a x=some r) ?_ ?_
 ·intro d h
  rw[Q7u]at h
  try dsimp only at h
  obtain⟨c9,e,h⟩:=oc h λ_ q=>Q1x (Q0d q)
  refine AW.st (seq ?_)
  refine seq (reg hS [(7,ai d),(57,ab ((decide (d<0)||decide ((a.length:Int)<=d))||!decide (c9=93)))] [] ?_ ?_)
  ·clear h hk hS hX c
   exact dh1 (an e.1 (an e.2.1 e.2.2))
  refine ik h (λh=>?_) λh=>?_
  ·exact Rt h [6]
  exact Rt h [6]
 obtain⟨k,f,h⟩:=oc h λ_ q=>Q1x (Q0d q)
 refine seq (reg hS [(0,as_ a),(7,ai b),(28,ab (((decide (0<=b)&&decide (b<(a.length:Int)))&&decide (k=61))&&i))] [] ?_ ?_)
 ·clear h hk hS hX c
  exact dh1 (an f.1 (an f.2.1 f.2.2))
 refine ik h (λh=>?_) λh=>?_
 ·refine R [0,7] ?_
  obtain⟨l,g,h⟩:=oc h λ_ q=>Q1x (Q0d q)
  refine seq (reg hS [(0,as_ a),(7,ai (IntKind.wrap .i64 (b+1))),(40,ab (decide (IntKind.wrap .i64 (b+1)<(a.length:Int))&&!decide (l=93)))] [] ?_ ?_)
  ·clear h hk hS hX c
   exact dh1 (an g.1 (an g.2.1 g.2.2))
  refine ik h (λh=>?_) λh=>?_
  ·refine Ua1 h [0,7] (Zt2 hk 0 rfl) λm h=>?_
   exact jn h
  exact jn h
 exact jn h
theorem Y0r(c:AllG env [S136,S137]):Q0c env S92:=by
 refine hd c Y3d 65 λO X hS hX hpf hk ⟨e,a⟩=>λr (h:F92 e a=some r)=>gs ?_
 rw[F92]at h
 refine R [0,1] ?_
 refine R [0,1,5] ?_
 refine seqJ (α:=Str) (λd=>⟨sl [(0,as_ e),(1,ai a),(5,as_ d)],65,[]⟩) (λx=>Z8z a e x=some r) ?_ ?_
 ·intro d h
  rw[Z8z]at h
  try dsimp only at h
  refine AW.st (seq ?_)
  refine seq (reg hS [(0,as_ e),(1,ai a),(5,as_ d),(26,ab ((decide (d=[38,38])||decide (d=[124,124]))||decide (d=[36,35])))] [] ?_ ?_)
  ·clear h hk hS hX c
   exact dh
  refine ik h (λh=>?_) λh=>?_
  ·exact Rt h [4]
  obtain⟨t,f,h⟩:=oc h λ_=>Q1y
  obtain⟨u,i,h⟩:=oc h (Zt2 hk 0 rfl)
  replace i:=ca i
  try simp only[PVE]at i
  refine seq (seq ?_)
  refine rg hS [0,1,5,33] (di1 (an f.1 (an f.2.1 (an f.2.2 i)))) ?_
  refine ik h (λh=>?_) λh=>?_
  ·exact Rt h [4]
  refine R [0,1,5,6] ?_
  refine seqM ⟨sl [(0,as_ e),(1,ai a),(6,ai (bif decide (d=[62,62])then IntKind.wrap .i64 (a+2)else IntKind.wrap .i64 (a+1)))],65,[]⟩ ?_ ?_
  ·refine R [0,1,6,38] ?_
   refine cond (b:=decide (d=[62,62])) rfl (λk=>?_) (λk=>?_)
   ·refine G [0,1,6] ?_
    exact Weak.of_eq (Weak.slots (L:=[(0,as_ e),(1,ai a),(6,ai (IntKind.wrap .i64 (a+2)))]) kp) (wq k)
   exact skip (Weak.of_eq (Weak.slots (L:=[(0,as_ e),(1,ai a),(6,ai (IntKind.wrap .i64 (a+1)))]) kp) (wq k))
  obtain⟨o,j,h⟩:=oc h (Zt2 hk 0 rfl)
  replace j:=ca j
  try simp only[PVE]at j
  obtain⟨p,l,h⟩:=oc h λ_ q=>Q1x (Q0d q)
  refine seq (seq ?_)
  refine reg hS [(0,as_ e),(1,ai a),(6,ai (bif decide (d=[62,62])then IntKind.wrap .i64 (a+2)else IntKind.wrap .i64 (a+1))),(56,ab ((o&&decide ((bif decide (d=[62,62])then IntKind.wrap .i64 (a+2)else IntKind.wrap .i64 (a+1))<(e.length:Int)))&&decide (p=91)))] [] ?_ ?_
  ·clear h hk hS hX c
   exact dh1 (an f.1 (an f.2.1 (an f.2.2 (an j (an l.1 (an l.2.1 l.2.2))))))
  refine ik h (λh=>?_) λh=>?_
  ·obtain⟨w,s,h⟩:=oc h (Zt3 hk 1 rfl)
   refine seq (rg hS [4] (di1 (an f.1 (an f.2.1 (an f.2.2 (ca s))))) ?_)
   exact Rf h
  exact Rt h [4]
 refine R [0,1,5,11] ?_
 refine ik h (λh=>?_) λh=>?_
 ·obtain⟨y,g,h⟩:=oc h λ_=>Q0r
  try simp only[NRM,Int.reduceToNat]at g
  have m:=g.2.2.2.2
  try simp only[NRM,Int.reduceToNat]at m
  have n:=g.2.2.1
  try simp only[NRM,Int.reduceToNat]at n
  refine rg hS [0,1,5] (di1 (an g.1 (an g.2.1 (an n (an g.2.2.2.1 m))))) ?_
  exact jn h
 exact jn h
theorem Y0q(c:AllG env [S89]):Q0c env S93:=by
 refine hd c Y3c 14 λO X hS hX hpf hk ⟨b,e,f,g,i,d,a⟩=>λr (h:F93 b e f g i d a=some r)=>gs ?_
 rw[F93]at h
 refine R [1,2] ?_
 refine seq (R [1,2,7] ?_)
 refine ik h (λh=>?_) λh=>?_
 ·obtain⟨⟨l,m,n,o,p,j⟩,q,h⟩:=obs h
  dsimp only at h
  have k:=(hk 0 89 rfl).ret (b,e,f,g,i,Token.mk 2 b [94] [],d,a) q rfl rfl
  try simp only[PVE]at k
  have s:Q0x O [rTo d,rSt a,V22 b d.length e f a.length g i,V23 0 0 false 0 0] 89 [.agg [ai b,.vec 0 (List.length d),ai e,ab f,.vec 1 (List.length a),ai g,ai i],.pv (V2 2 b [94] [])]=some (Q1c [.agg [ai l,.vec 0 (List.length j),ai m,ab n,.vec 1 (List.length a),ai o,ai p]],[rTo j,rSt a,V22 b d.length e f a.length g i,V23 0 0 false 0 0]):=Q0k rfl rfl rfl k rfl rfl rfl
  refine seq (rg hS [2] (di1 (ap0 89 hpf s)) ?_)
  exact Rf h
 exact Rt h [2]
theorem Y1t(c:AllG env [S87,S88,S89,S90,S91,S92,S53,S93,S94]):Q0c env S52:=by
 refine hd c Y4i 171 λO X hS hX hpf hk ⟨j,d,e,f,g,i,b,a⟩=>λr (h:F52 j d e f g i b a=some r)=>?_
 have au:O.pf 93=false:=pft hpf 93 rfl
 refine gs ?_
 rw[F52]at h
 refine R [0,3,4] ?_
 refine seq (R [0,3,4,10] ?_)
 refine ik h (λh=>?_) λh=>?_
 ·obtain⟨⟨av,aw,ax,ay,az,ac⟩,aA,h⟩:=obs h
  dsimp only at h
  have aB:=(hk 0 87 rfl).ret (j,d,e,f,g,i,b,a) aA rfl rfl
  have aC:Q0x O [rTo b,rSt a,V22 d b.length e f a.length g i,V23 0 0 false 0 0] 87 [as_ j,.agg [ai d,.vec 0 (List.length b),ai e,ab f,.vec 1 (List.length a),ai g,ai i]]=some (Q1c [.agg [ai av,.vec 0 (List.length ac),ai aw,ab ax,.vec 1 (List.length a),ai ay,ai az]],[rTo ac,rSt a,V22 d b.length e f a.length g i,V23 0 0 false 0 0]):=Q0k rfl rfl rfl aB rfl rfl rfl
  refine seq (rg hS [4] (di1 (ap0 87 hpf aC)) ?_)
  exact Rf h
 refine seq (seq ?_)
 refine Ua1 h [0,3,4,5] (Zt2 hk 1 rfl) λbD h=>?_
 refine R [0,3,4,5,19] ?_
 refine ik h (λh=>?_) λh=>?_
 ·refine R [3,4] ?_
  refine R [3,4] ?_
  exact Rt h [4]
 obtain⟨ad,l,h⟩:=oc h λ_=>Q1y
 refine seq (seq ?_)
 refine rg hS [0,3,4,31] (di1 (an l.1 (an l.2.1 l.2.2))) ?_
 refine ik h (λh=>?_) λh=>?_
 ·refine seq (block ?_)
  refine Lp h (λH=>⟨sl [(0,as_ j),(3,.ref 2 0),(4,.ref 3 0)],171,[rTo b,rSt a,V22 H b.length e f a.length g i,V23 0 0 false 0 0]⟩) ?_
  clear h
  rintro H bE h
  rw[Z3y]at h
  try dsimp only at h
  obtain⟨aD,P,h⟩:=oc h λ_ q=>Q1x (Q0d q)
  refine AW.st (seq ?_)
  refine seq (reg hS [(0,as_ j),(3,.ref 2 0),(4,.ref 3 0),(43,ab (decide (H<(j.length:Int))&&!decide (aD=10)))] [rTo b,rSt a,V22 H b.length e f a.length g i,V23 0 0 false 0 0] ?_ ?_)
  ·clear h hk hS hX c
   exact dh1 (an P.1 (an P.2.1 P.2.2))
  refine iz h (λh=>?_) λh=>?_
  ·refine skip (block ?_)
   refine G [0,3,4] ?_
   exact nx h
  refine exit (R [3,4] ?_)
  exact Rt h [4]
 refine seq (srg hS [0,3,4,54] (di1 (an l.1 (an l.2.1 l.2.2))) ?_)
 refine ik h (λh=>?_) λh=>?_
 ·obtain⟨⟨A,aE,C,D,E,m⟩,aF,h⟩:=obs h
  dsimp only at h
  have ae:=(hk 2 89 rfl).ret (d,e,f,g,i,Token.mk 3 d [10] [],b,a) aF rfl rfl
  try simp only[PVE]at ae
  have aG:Q0x O [rTo b,rSt a,V22 d b.length e f a.length g i,V23 0 0 false 0 0] 89 [.agg [ai d,.vec 0 (List.length b),ai e,ab f,.vec 1 (List.length a),ai g,ai i],.pv (V2 3 d [10] [])]=some (Q1c [.agg [ai A,.vec 0 (List.length m),ai aE,ab C,.vec 1 (List.length a),ai D,ai E]],[rTo m,rSt a,V22 d b.length e f a.length g i,V23 0 0 false 0 0]):=Q0k rfl rfl rfl ae rfl rfl rfl
  refine seq (rg hS [0,3,4] (di1 (ap0 89 hpf aG)) ?_)
  refine R [0,3,4] ?_
  refine R [0,3,4] ?_
  obtain⟨⟨aH,aI,aJ,aK,aL⟩,aM,h⟩:=obs h
  dsimp only at h
  have aN:=(hk 3 90 rfl).ret (j,IntKind.wrap .i64 (A+1),(-1),C,D,E,m,a) aM rfl rfl
  have aO:Q0x O [rTo m,rSt a,V22 (IntKind.wrap .i64 (A+1)) m.length (-1) C a.length D E,V23 0 0 false 0 0] 90 [as_ j,.agg [ai (IntKind.wrap .i64 (A+1)),.vec 0 (List.length m),ai (-1),ab C,.vec 1 (List.length a),ai D,ai E]]=some (Q1c [.agg [ai aH,.vec 0 (List.length m),ai aI,ab aJ,.nils,ai aK,ai aL]],[rTo m,rSt a,V22 (IntKind.wrap .i64 (A+1)) m.length (-1) C a.length D E,V23 0 0 false 0 0]):=Q0k rfl rfl rfl aN rfl rfl rfl
  refine seq (rg hS [4] (di1 (ap0 90 hpf aO)) ?_)
  exact Rf h
 obtain⟨aP,s,h⟩:=oc h λ_ q=>Z9v (Q0d q)
 try simp only[NRM,Int.reduceToNat]at s
 have af:=s.2.2.2.2
 try simp only[NRM,Int.reduceToNat]at af
 have ag:=s.2.2.1
 try simp only[NRM,Int.reduceToNat]at ag
 refine seq (seq ?_)
 refine reg hS [(0,as_ j),(3,.ref 2 0),(4,.ref 3 0),(83,ab (decide (IntKind.wrap .i64 (d+2)<=(j.length:Int))&&decide (aP=[60,60])))] [rTo b,rSt a,V22 d b.length e f a.length g i,V23 0 0 false 0 0] ?_ ?_
 ·clear h hk hS hX c
  exact dh1 (an s.1 (an s.2.1 (an ag (an s.2.2.2.1 af))))
 refine ik h (λh=>?_) λh=>?_
 ·obtain⟨⟨aQ,aR,aS,aT,aU,ah,aj⟩,aV,h⟩:=obs h
  dsimp only at h
  have aW:=(hk 4 91 rfl).ret (j,d,e,f,g,i,b,a) aV rfl rfl
  have aX:Q0x O [rTo b,rSt a,V22 d b.length e f a.length g i,V23 0 0 false 0 0] 91 [as_ j,.agg [ai d,.vec 0 (List.length b),ai e,ab f,.vec 1 (List.length a),ai g,ai i]]=some (Q1c [.agg [ai aQ,.vec 0 (List.length ah),ai aR,ab aS,.vec 1 (List.length aj),ai aT,ai aU]],[rTo ah,rSt aj,V22 d b.length e f a.length g i,V23 0 0 false 0 0]):=Q0k rfl rfl rfl aW rfl rfl rfl
  refine seq (rg hS [4] (di1 (ap0 91 hpf aX)) ?_)
  exact Rf h
 refine seq (Ua1 h [0,3,4,6] (Zt2 hk 5 rfl) λQ h=>?_)
 refine seq (R [0,3,4,6,92] ?_)
 refine ik h (λh=>?_) λh=>?_
 ·refine R [0,3,4,7] ?_
  refine seq (block ?_)
  refine Lp h (λI=>⟨sl [(0,as_ j),(3,.ref 2 0),(4,.ref 3 0),(7,ai I)],171,[rTo b,rSt a,V22 d b.length e f a.length g i,V23 0 0 false 0 0]⟩) ?_
  clear h
  rintro I bF h
  rw[Z3x]at h
  try dsimp only at h
  obtain⟨bG,S,h⟩:=oc h λ_=>Q1y
  refine AW.st (seq ?_)
  refine seq (rg hS [0,3,4,7,99] (di1 (an S.1 (an S.2.1 S.2.2))) ?_)
  refine iz h (λh=>?_) λh=>?_
  ·refine skip (block ?_)
   refine G [0,3,4,7] ?_
   exact nx h
  obtain⟨⟨aY,aZ,a0,a1,a2⟩,a3,h⟩:=obs h
  dsimp only at h
  have a4:=(hk 6 53 rfl).ret (d,e,f,g,i,47,I,b,a) a3 rfl rfl
  have a5:Q0x O [rTo b,rSt a,V22 d b.length e f a.length g i,V23 0 0 false 0 0] 53 [.agg [ai d,.vec 0 (List.length b),ai e,ab f,.vec 1 (List.length a),ai g,ai i],ai 47,ai I]=some (Q1c [.agg [ai aY,.vec 0 (List.length b),ai aZ,ab a0,.vec 1 (List.length a),ai a1,ai a2]],[rTo b,rSt a,V22 d b.length e f a.length g i,V23 0 0 false 0 0]):=Q0k rfl rfl rfl a4 rfl rfl rfl
  refine exit (seq ?_)
  refine rg hS [4] (di1 (ap0 53 hpf a5)) ?_
  exact Rf h
 refine seq (R [0,3,4,6,108] ?_)
 refine ik h (λh=>?_) λh=>?_
 ·refine seqJ (α:=(List Token)×Int×Int×Bool×Int×Int) (λ(n,o,t,u,w,y)=>⟨sl [(0,as_ j),(3,.ref 2 0),(4,.ref 3 0),(6,ai Q)],171,[rTo n,rSt a,V22 o n.length t u a.length w y,V23 0 0 false 0 0]⟩) (λx=>Q6e j Q a x=some r) ?_ ?_
  ·intro⟨n,o,t,u,w,y⟩ h
   rw[Q6e]at h
   try dsimp only at h
   refine AW.st (seq ?_)
   obtain⟨ak,z,h⟩:=oc h λ_=>Q0r
   try simp only[NRM,Int.reduceToNat]at z
   have al:=z.2.2.2.2
   try simp only[NRM,Int.reduceToNat]at al
   have am:=z.2.2.1
   try simp only[NRM,Int.reduceToNat]at am
   obtain⟨⟨a6,a7,a8,a9,ba,ao⟩,bb,h⟩:=obs h
   dsimp only at h
   have aq:=(hk 2 89 rfl).ret (o,t,u,w,y,Token.mk 2 o ak [],n,a) bb rfl rfl
   try simp only[PVE]at aq
   have bc:Q0x O [rTo n,rSt a,V22 o n.length t u a.length w y,V23 0 0 false 0 0] 89 [.agg [ai o,.vec 0 (List.length n),ai t,ab u,.vec 1 (List.length a),ai w,ai y],.pv (V2 2 o ak [])]=some (Q1c [.agg [ai a6,.vec 0 (List.length ao),ai a7,ab a8,.vec 1 (List.length a),ai a9,ai ba]],[rTo ao,rSt a,V22 o n.length t u a.length w y,V23 0 0 false 0 0]):=Q0k rfl rfl rfl aq rfl rfl rfl
   apply dgB mixed hS [(3,some 2),(124,some 2),(127,some 2)] [0,3,4,6] rfl (ordB hpf (B:=[(3,some 2),(124,some 2),(127,some 2)]) (by kernel_rfl))
   ·exact di1 (an z.1 (an z.2.1 (an am (an z.2.2.2.1 (an al (ap0 89 hpf bc))))))
   obtain⟨bH,T,h⟩:=oc h λ_=>Q1y
   refine seq (rg hS [3,4,6] (di1 (an T.1 (an T.2.1 T.2.2))) ?_)
   refine R [3,4] ?_
   refine R [3,4] ?_
   exact Rt h [4]
  refine seq (reg hS [(0,as_ j),(3,.ref 2 0),(4,.ref 3 0),(6,ai Q),(120,ab (decide (ad=36)||decide (ad=96)))] [rTo b,rSt a,V22 d b.length e f a.length g i,V23 0 0 false 0 0] ?_ ?_)
  ·clear h hk hS hX c
   exact dh1 (an l.1 (an l.2.1 l.2.2))
  refine ik h (λh=>?_) λh=>?_
  ·obtain⟨⟨be,bf,bg,bh,bi,ar⟩,bj,h⟩:=obs h
   dsimp only at h
   have bk:=(hk 7 93 rfl).ret (d,e,f,g,i,b,a) bj rfl rfl
   have bl:Q0x O [rTo b,rSt a,V22 d b.length e f a.length g i,V23 0 0 false 0 0] 93 [.agg [ai d,.vec 0 (List.length b),ai e,ab f,.vec 1 (List.length a),ai g,ai i]]=some (Q1c [.agg [ai be,.vec 0 (List.length ar),ai bf,ab bg,.vec 1 (List.length a),ai bh,ai bi]],[rTo ar,rSt a,V22 d b.length e f a.length g i,V23 0 0 false 0 0]):=Q0k rfl rfl rfl bk rfl rfl rfl
   refine rg hS [0,3,4,6] (di1 (ap0 93 hpf bl)) ?_
   exact jn h
  exact jn h
 refine seq (Ua1 h [3,4,8] (Zt2 hk 8 rfl) λk h=>?_)
 refine seq (R [3,4,8,149] ?_)
 refine ik h (λh=>?_) λh=>?_
 ·obtain⟨⟨bm,bn,bo,bp,bq⟩,br,h⟩:=obs h
  dsimp only at h
  have bt:=(hk 6 53 rfl).ret (d,e,f,g,i,48,k.to_,b,a) br rfl rfl
  have bu:Q0x O [rTo b,rSt a,V22 d b.length e f a.length g i,V23 0 0 false 0 0,V25 k] 53 [.agg [ai d,.vec 0 (List.length b),ai e,ab f,.vec 1 (List.length a),ai g,ai i],ai 48,ai k.to_]=some (Q1c [.agg [ai bm,.vec 0 (List.length b),ai bn,ab bo,.vec 1 (List.length a),ai bp,ai bq]],[rTo b,rSt a,V22 d b.length e f a.length g i,V23 0 0 false 0 0,V25 k]):=Q0k rfl rfl rfl bt rfl rfl rfl
  refine seq (rg hS [4] (di1 (ap0 53 hpf bu)) ?_)
  exact Rf h
 obtain⟨⟨J,K,L,M,N,p⟩,bv,h⟩:=obs h
 dsimp only at h
 have bw:=(hk 7 93 rfl).ret (d,e,f,g,i,b,a) bv rfl rfl
 have bx:Q0x O [rTo b,rSt a,V22 d b.length e f a.length g i,V23 0 0 false 0 0,V25 k] 93 [.agg [ai d,.vec 0 (List.length b),ai e,ab f,.vec 1 (List.length a),ai g,ai i]]=some (Q1c [.agg [ai J,.vec 0 (List.length p),ai K,ab L,.vec 1 (List.length a),ai M,ai N]],[rTo p,rSt a,V22 d b.length e f a.length g i,V23 0 0 false 0 0,V25 k]):=Q0k rfl rfl rfl bw rfl rfl rfl
 obtain⟨⟨U,V,W,Y,aa,F⟩,bz,h⟩:=obs h
 dsimp only at h
 have bA:=(hk 2 89 rfl).ret (J,K,L,M,N,Token.mk 1 d k.text_ k.quoted_,p,a) bz rfl rfl
 have bB:Q0x O [rTo p,rSt a,V22 d b.length e f a.length g i,V23 0 0 false 0 0,V25 k] 89 [.agg [ai J,.vec 0 (List.length p),ai K,ab L,.vec 1 (List.length a),ai M,ai N],.pv (V2 1 d k.text_ k.quoted_)]=some (Q1c [.agg [ai U,.vec 0 (List.length F),ai V,ab W,.vec 1 (List.length a),ai Y,ai aa]],[rTo F,rSt a,V22 d b.length e f a.length g i,V23 0 0 false 0 0,V25 k]):=Q0k rfl rfl rfl bA rfl rfl rfl
 refine seq (dV 154 10 [1,9,10] [(0,0),(1,0),(2,0),(2,1),(3,0),(3,1),(4,0),(4,1),(5,0),(5,1),(6,0),(6,1),(7,0),(7,1),(8,0),(8,1),(9,1),(10,2)] [.agg [ai d,.vec 0 (List.length b),ai e,ab f,.vec 1 (List.length a),ai g,ai i],.agg [ai J,.vec 0 (List.length p),ai K,ab L,.vec 1 (List.length a),ai M,ai N],.ref 2 0,ai d,.ref 4 0,as_ k.text_,.ref 4 1,as_ k.quoted_,.pv (V2 1 d k.text_ k.quoted_),.agg [ai U,.vec 0 (List.length F),ai V,ab W,.vec 1 (List.length a),ai Y,ai aa],.any] [[(0,rTo p)],[(0,rTo F)],[(2,V22 U F.length V W a.length Y aa)]] [3,4,8] (an au (an bx (ap0 89 hpf bB))) ?_)
 refine R [3,4,8] ?_
 refine R [3,4] ?_
 exact Rt h [4]
theorem Y2k(c:AllG env [S52,S53]):Q0c env S22:=by
 refine hd c Y5a 46 ?_
 rintro O X hS hX hpf hk (j:Str) (r:(List Token)×Int×Int) (h:F22 j=some r)
 refine gs ?_
 rw[F22]at h
 refine R [0] ?_
 refine seq (R [0,8] ?_)
 refine ik h (λh=>?_) λh=>?_
 ·exact Rt h [2,3,4]
 refine seq (AW.after ?_)
 refine rg hS [0,5] di ?_
 refine o2 (oC Token.pv 0 1 87 4 ?_)
 refine oC PV.str 0 4 9 1 ?_
 refine seq (block ?_)
 refine Lp h (λ(d,f,g,e,i,a,b)=>⟨sl [(0,as_ j),(5,.ref 0 0)],46,[V26 d a.length f g b.length e i,rTo a,rSt b]⟩) ?_
 clear h
 rintro⟨d,f,g,e,i,a,b⟩ m15 h
 rw[Q2m]at h
 try dsimp only at h
 refine AW.st (seq ?_)
 refine seq (reg hS [(0,as_ j),(5,.ref 0 0),(19,ab (decide (e=0)&&decide (d<(j.length:Int))))] [V26 d a.length f g b.length e i,rTo a,rSt b] ?_ ?_)
 ·clear h hk hS hX c
  exact dh
 refine iz h (λh=>?_) λh=>?_
 ·obtain⟨⟨K,w,y,z,A,C,q,s⟩,D,h⟩:=obs h
  dsimp only at h
  refine skip (block ?_)
  refine AW.cases (K) (λt=>?_) (λt=>?_)
  ·subst t
   replace h:=K3z rfl h
   have p:=(hk 0 52 rfl).ret (j,d,f,g,e,i,a,b) D rfl rfl
   simp only[G4y,G5q]at p
   have u:Q0x O [V26 d a.length f g b.length e i,rTo a,rSt b] 52 [as_ j,.agg [ai d,.vec 1 (List.length a),ai f,ab g,.vec 2 (List.length b),ai e,ai i]]=some (Q1c [.agg [ai w,.vec 1 (List.length q),ai y,ab z,.vec 2 (List.length s),ai A,ai C]],[V26 d a.length f g b.length e i,rTo q,rSt s]):=Q0k rfl rfl rfl p rfl rfl rfl
   refine rg hS [0,5] (di1 (ap0 52 hpf u)) ?_
   exact nx h
  subst t
  replace h:=K4a rfl h
  have p:=(hk 0 52 rfl).ret (j,d,f,g,e,i,a,b) D rfl rfl
  simp only[G4y,G5q]at p
  have u:Q0x O [V26 d a.length f g b.length e i,rTo a,rSt b] 52 [as_ j,.agg [ai d,.vec 1 (List.length a),ai f,ab g,.vec 2 (List.length b),ai e,ai i]]=some (Q1c [.agg [ai w,.vec 1 (List.length q),ai y,ab z,.nils,ai A,ai C]],[V26 d a.length f g b.length e i,rTo q,rSt s]):=Q0k rfl rfl rfl p rfl rfl rfl
  refine AW.after ?_
  refine rg hS [0,5] (di1 (ap0 52 hpf u)) ?_
  refine oC PV.str 0 4 9 1 ?_
  exact nx h (Weak.sel [0,1,3] (L:=[(0,as_ j),(5,.ref 0 0)]) ⟨rfl,rfl,trivial⟩ (by decide) rfl rfl)
 refine exit (seqJ (α:=Int×Int×Bool×Int×Int) (λ(k,l,m,n,o)=>⟨sl [(0,as_ j),(5,.ref 0 0)],46,[V26 k a.length l m b.length n o,rTo a,rSt b]⟩) (λx=>Z7h b j a x=some r) ?_ ?_)
 ·intro⟨k,l,m,n,o⟩ h
  rw[Z7h]at h
  try dsimp only at h
  refine AW.st (seqJ (α:=Int×Int×Bool×Int×Int) (λ(E,F,H,I,J)=>⟨sl [(5,.ref 0 0)],46,[V26 E a.length F H b.length I J,rTo a,rSt b]⟩) (λx=>Z7g a x=some r) ?_ ?_)
  ·intro⟨E,F,H,I,J⟩ h
   rw[Z7g]at h
   try dsimp only at h
   refine AW.st (seq ?_)
   refine R [5,39] ?_
   refine ik h (λh=>?_) λh=>?_
   ·refine seq ?_
    apply dgk mixed hS [2,3,4] (ordp hpf (by kernel_rfl))
    ·exact di
    exact Rf h
   exact Rt h [2,3,4]
  refine R [0,5,32] ?_
  refine ik h (λh=>?_) λh=>?_
  ·obtain⟨⟨M,N,P,Q,S⟩,T,h⟩:=obs h
   dsimp only at h
   have U:=(hk 1 53 rfl).ret (k,l,m,n,o,3,(j.length:Int),a,b) T rfl rfl
   have e47:Q0x O [V26 k a.length l m b.length n o,rTo a,rSt b] 53 [.agg [ai k,.vec 1 (List.length a),ai l,ab m,.vec 2 (List.length b),ai n,ai o],ai 3,ai (j.length:Int)]=some (Q1c [.agg [ai M,.vec 1 (List.length a),ai N,ab P,.vec 2 (List.length b),ai Q,ai S]],[V26 k a.length l m b.length n o,rTo a,rSt b]):=Q0k rfl rfl rfl U rfl rfl rfl
   refine rg hS [5] (di1 (ap0 53 hpf e47)) ?_
   exact jn h
  exact jn h
 refine R [0,5,24] ?_
 refine ik h (λh=>?_) λh=>?_
 ·obtain⟨⟨V,W,Y,aa,ac⟩,ad,h⟩:=obs h
  dsimp only at h
  have ae:=(hk 1 53 rfl).ret (d,f,g,e,i,47,d,a,b) ad rfl rfl
  have af:Q0x O [V26 d a.length f g b.length e i,rTo a,rSt b] 53 [.agg [ai d,.vec 1 (List.length a),ai f,ab g,.vec 2 (List.length b),ai e,ai i],ai 47,ai d]=some (Q1c [.agg [ai V,.vec 1 (List.length a),ai W,ab Y,.vec 2 (List.length b),ai aa,ai ac]],[V26 d a.length f g b.length e i,rTo a,rSt b]):=Q0k rfl rfl rfl ae rfl rfl rfl
  refine rg hS [0,5] (di1 (ap0 53 hpf af)) ?_
  exact jn h
 exact jn h
theorem Y2j(c:AllG env [S54]):Q0c env S23:=by
 refine hd c Y4z 65 ?_
 rintro O X hS hX hpf hk ⟨b,t2⟩ (r:(List Str)) (h:F23 b t2=some r)
 refine gs ?_
 rw[F23]at h
 refine R [0,1] ?_
 obtain⟨p,j,h⟩:=oc h λ_=>K6i
 have n:=Q9v (H:=[]) (k1:=.i64) (k2:=.i64) T_42 T_9 (G4r j.1) (G4r j.2) (by decide)
 refine seq (reg hS [(0,as_ b),(1,vTo t2),(5,.vec 0 (List.length (List.replicate (Int.toNat (t2.length:Int)) ([]:Str))))] [.row 9 1 (List.map PV.str (List.replicate (Int.toNat (t2.length:Int)) ([]:Str))) false] ?_ ?_)
 ·simp -implicitDefEqProofs only[RUNS,Q1d,Nat.reduceAdd,Nat.reduceLeDiff,Nat.reduceSub,reduceIte,Nat.reduceEqDiff,Nat.reduceLT,reduceCtorEq,Nat.reduceMul,Nat.reduceBEq,Int.reduceEq,Int.reduceToNat,G1r,G2b,if_true,G2i,eq_self,ne_eq,TYS,n,G1w,List.map_replicate]<;>(try simp only[G1h,G0p,G1m])
 refine R [0,1,5,6] ?_
 refine seq (R [0,1,5,6,7] ?_)
 refine block (Lp h (λ(k,f,a)=>⟨sl [(0,as_ b),(1,vTo t2),(5,.vec 0 (List.length a)),(6,ai k),(7,ai f)],65,[.row 9 1 (List.map PV.str a) false]⟩) ?_)
 clear h
 rintro⟨k,f,a⟩ q h
 rw[Z0e]at h
 try dsimp only at h
 refine AW.st (seq ?_)
 refine R [0,1,5,6,7,19] ?_
 refine iz h (λh=>?_) λh=>?_
 ·obtain⟨s,d,h⟩:=oc h λ_=>Q0l
  refine skip (seq ?_)
  refine block (seq ?_)
  refine seq (rg hS [0,1,5,6,7,27] (di1 (an d.1 d.2.1)) ?_)
  refine ik h (λh=>?_) λh=>?_
  ·refine exit (G [0,1,5,6,7] ?_)
   exact nx h
  refine srg hS [0,1,5,6,7,8] (di1 (an d.1 d.2.1)) ?_
  refine seq (R [0,1,5,7,8,9] ?_)
  refine block (Lp h (λ(l,m,g)=>⟨sl [(0,as_ b),(1,vTo t2),(5,.vec 0 (List.length g)),(7,ai f),(8,ai l),(9,ai m)],65,[.row 9 1 (List.map PV.str g) false]⟩) ?_)
  clear h
  rintro⟨l,m,g⟩ t h
  rw[Z7f]at h
  try dsimp only at h
  refine AW.st (seq ?_)
  refine R [0,1,5,7,8,9,37] ?_
  refine iz h (λh=>?_) λh=>?_
  ·obtain⟨u,e,h⟩:=oc h λ_=>Q0l
   refine skip (seq ?_)
   refine block (seq ?_)
   refine rg hS [0,1,5,7,8,9,45] (di1 (an e.1 e.2.1)) ?_
   refine ik h (λh=>?_) λh=>?_
   ·obtain⟨⟨w,x,y⟩,o,h⟩:=oc h (Zt3 hk 0 rfl)
    refine seq (rg hS [0,1,5,7,9,10,11] (di1 (an e.1 (an e.2.1 (ca o)))) ?_)
    obtain⟨z,i,h⟩:=oc h λ_=>Q0l
    refine seq (rg hS [0,1,5,7,9,11] (di1 (an i.1 (an i.2.1 i.2.2))) ?_)
    refine G [0,1,5,7,8,9] ?_
    refine G [0,1,5,7,8,9] ?_
    exact nx h
   refine G [0,1,5,7,8,9] ?_
   exact nx h
  refine exit (G [0,1,5,6,7] ?_)
  refine G [0,1,5,6,7] ?_
  exact nx h
 refine exit (R [4] ?_)
 refine weak (Weak.freeze 0 rfl) ?_
 refine weak (σ':=⟨sl [(4,.vec 0 (List.length a))],65,[rSt a]⟩) (Weak.slots ⟨rfl,trivial⟩) ?_
 exact Rf h
end Go.Abs.U48
