import Derived.Test.YtljahlbklgnfhaaGreatDoorD1
set_option linter.unusedVariables false
set_option linter.unusedSimpArgs false
set_option linter.defProp false
set_option maxRecDepth 8000
set_option maxHeartbeats 4000000
namespace Go.Abs.U48
open Go.RowKit Go.Proofs AW
theorem V5b(c:AllG env [S88,S94,S53,S89]):Q0a env S91:=by
 refine hd c V7n 58 fun O X hS hX hpf hk ⟨s1,xat2,xend3,xname4,xe5,xoff6,l7,l8⟩=>fun r (h:F91 s1 xat2 xend3 xname4 xe5 xoff6 l7 l8=some r)=>gs ?_
 rw[F91]at h
 refine R [0,3,4] ?_
 refine R [0,3,4,5] ?_
 refine R [0,3,4,5,6] ?_
 refine seq (block ?_)
 refine Lp h (fun to16=>⟨sl [(0,as_ s1),(3,.ref 2 0),(4,.ref 3 0),(5,ai xat2),(6,ai to16)],58,[rTo l7,rSt l8,V22 xat2 l7.length xend3 xname4 l8.length xe5 xoff6,V23 0 0 false 0 0]⟩) ?_
 clear h
 rintro to16 m19 h
 rw[X7c]at h
 try dsimp only at h
 obtain⟨r20,f22,h⟩:=oc h (Zt2 hk 0 rfl)
 refine AW.st (seq ?_)
 refine seq (rg hS [0,3,4,5,6,15] (di1 (ca f22)) ?_)
 refine iz h (fun h=>?_) fun h=>?_
 ·refine skip (block ?_)
  refine rg hS [0,3,4,5,6] (di1 (ca f22)) ?_
  exact nx h
 refine exit (seq ?_)
 refine Ua1 h [3,4,5,6,7] (Zt2 hk 1 rfl) fun r24 h=>?_
 refine seq (R [3,4,5,6,7,26] ?_)
 refine ik h (fun h=>?_) fun h=>?_
 ·obtain⟨⟨at28,end29,name30,e31,off32⟩,q33,h⟩:=obs h
  dsimp only at h
  have f34:=(hk 2 53 rfl).ret (xat2,xend3,xname4,xe5,xoff6,48,r24.to_,l7,l8) q33 rfl rfl
  have e35:Q0v O [rTo l7,rSt l8,V22 xat2 l7.length xend3 xname4 l8.length xe5 xoff6,V23 0 0 false 0 0,V25 r24] 53 [.agg [ai xat2,.vec 0 (List.length l7),ai xend3,ab xname4,.vec 1 (List.length l8),ai xe5,ai xoff6],ai 48,ai r24.to_]=some (Q1a [.agg [ai at28,.vec 0 (List.length l7),ai end29,ab name30,.vec 1 (List.length l8),ai e31,ai off32]],[rTo l7,rSt l8,V22 xat2 l7.length xend3 xname4 l8.length xe5 xoff6,V23 0 0 false 0 0,V25 r24]):=Q0i rfl rfl rfl f34 rfl rfl rfl
  refine seq (rg hS [4] (di1 (ap0 53 hpf e35)) ?_)
  exact Rf h
 refine seq (R [3,4,5,6,7,34] ?_)
 refine ik h (fun h=>?_) fun h=>?_
 ·obtain⟨⟨at37,end38,name39,e40,off41⟩,q42,h⟩:=obs h
  dsimp only at h
  have f43:=(hk 2 53 rfl).ret (xat2,xend3,xname4,xe5,xoff6,47,to16,l7,l8) q42 rfl rfl
  have e44:Q0v O [rTo l7,rSt l8,V22 xat2 l7.length xend3 xname4 l8.length xe5 xoff6,V23 0 0 false 0 0,V25 r24] 53 [.agg [ai xat2,.vec 0 (List.length l7),ai xend3,ab xname4,.vec 1 (List.length l8),ai xe5,ai xoff6],ai 47,ai to16]=some (Q1a [.agg [ai at37,.vec 0 (List.length l7),ai end38,ab name39,.vec 1 (List.length l8),ai e40,ai off41]],[rTo l7,rSt l8,V22 xat2 l7.length xend3 xname4 l8.length xe5 xoff6,V23 0 0 false 0 0,V25 r24]):=Q0i rfl rfl rfl f43 rfl rfl rfl
  refine seq (rg hS [4] (di1 (ap0 53 hpf e44)) ?_)
  exact Rf h
 obtain⟨⟨at45,end46,name47,e48,off49,o50⟩,q51,h⟩:=obs h
 dsimp only at h
 have f52:=(hk 3 89 rfl).ret (xat2,xend3,xname4,xe5,xoff6,Token.mk 4 xat2 r24.text_ r24.quoted_,l7,l8) q51 rfl rfl
 have e53:Q0v O [rTo l7,rSt l8,V22 xat2 l7.length xend3 xname4 l8.length xe5 xoff6,V23 0 0 false 0 0,V25 r24] 89 [.agg [ai xat2,.vec 0 (List.length l7),ai xend3,ab xname4,.vec 1 (List.length l8),ai xe5,ai xoff6],.pv (V2 4 xat2 r24.text_ r24.quoted_)]=some (Q1a [.agg [ai at45,.vec 0 (List.length o50),ai end46,ab name47,.vec 1 (List.length l8),ai e48,ai off49]],[rTo o50,rSt l8,V22 xat2 l7.length xend3 xname4 l8.length xe5 xoff6,V23 0 0 false 0 0,V25 r24]):=Q0i rfl rfl rfl f52 rfl rfl rfl
 refine seq (rg hS [3,4,7] (di1 (ap0 89 hpf e53)) ?_)
 replace h:=ap PV.str h;obtain⟨out54,f56,h⟩:=h
 refine seq (rg hS [3,4,7] (di1 f56) ?_)
 refine R [3,4] ?_
 refine R [3,4] ?_
 exact Rt h [4]
theorem K5d(c:AllG env []):Q0a env S170:=by
 refine hd c K9n 60 fun O X hS hX hpf hk ⟨s1,at2⟩=>fun r (h:F170 s1 at2=some r)=>gs ?_
 rw[F170]at h
 refine R [0,1] ?_
 refine R [0,1,5,6] ?_
 refine seq (block ?_)
 refine Lp h (fun(n4,to5)=>⟨sl [(0,as_ s1),(1,ai at2),(5,ai n4),(6,ai to5)],60,[]⟩) ?_
 clear h
 rintro⟨n4,to5⟩ m8 h
 rw[X2u]at h
 try dsimp only at h
 obtain⟨c9,f11,h⟩:=oc h fun _ q=>Q1s (Q0d q)
 refine AW.st (seq ?_)
 refine seq (reg hS [(0,as_ s1),(1,ai at2),(5,ai n4),(6,ai to5),(29,ab (((decide (to5<(s1.length:Int))&&decide (48≤c9))&&decide (c9≤57))&&decide (to5<IntKind.wrap .i64 (at2+3))))] [] ?_ ?_)
 ·clear h hk hS hX c
  exact dh1 (an f11.1 (an f11.2.1 f11.2.2))
 refine iz h (fun h=>?_) fun h=>?_
 ·refine skip (block ?_)
  refine seq ?_
  obtain⟨c13,f15,h⟩:=oc h fun _=>Q1t
  apply rg hS [0,1,5,6]
  ·simp -implicitDefEqProofs only[RUNS,Q1b,Nat.reduceAdd,Nat.reduceLeDiff,Nat.reduceSub,reduceIte,Nat.reduceEqDiff,Nat.reduceLT,reduceCtorEq,Nat.reduceMul,Nat.reduceBEq,Int.reduceEq,Int.reduceToNat,Int.toNat_zero,Nat.sub_zero,if_true,if_false,eq_self,ne_eq,Q3h,Q2m,Q2b,TYS,f15.1,f15.2.1,f15.2.2,J3w T_5 T_3];exact⟨rfl,rfl⟩
  refine G [0,1,5,6] ?_
  exact nx h
 obtain⟨c16,f18,h⟩:=oc h fun _ q=>Q1s (Q0d q)
 refine exit (seq ?_)
 refine seq (reg hS [(6,ai to5),(58,ab ((decide (to5=at2)||decide (64≤n4))||(decide (IntKind.wrap .i64 (at2+1)<to5)&&decide (c16=48))))] [] ?_ ?_)
 ·clear h hk hS hX c
  exact dh1 (an f18.1 (an f18.2.1 f18.2.2))
 refine ik h (fun h=>?_) fun h=>?_
 ·exact Rt h [4]
 exact Rt h [4]
theorem K5r(c:AllG env [S170]):Q0a env S137:=by
 refine hd c V0f 60 fun O X hS hX hpf hk ⟨s1,at2,equal3⟩=>fun r (h:F137 s1 at2 equal3=some r)=>gs ?_
 rw[F137]at h
 refine R [0,1,2] ?_
 refine seq (Ua1 h [0,2,7] (Zt2 hk 0 rfl) fun r5 h=>?_)
 refine seqJ (α:=Int) (fun to8=>⟨sl [(0,as_ s1),(7,ai to8)],60,[]⟩) (fun x=>Z5n s1 x=some r) ?_ ?_
 ·intro to8 h
  rw[Z5n]at h
  try dsimp only at h
  obtain⟨c9,f11,h⟩:=oc h fun _ q=>Q1s (Q0d q)
  refine AW.st (seq ?_)
  refine seq (reg hS [(7,ai to8),(57,ab ((decide (to8<0)||decide ((s1.length:Int)≤to8))||!decide (c9=93)))] [] ?_ ?_)
  ·clear h hk hS hX c
   exact dh1 (an f11.1 (an f11.2.1 f11.2.2))
  refine ik h (fun h=>?_) fun h=>?_
  ·exact Rt h [6]
  exact Rt h [6]
 obtain⟨c13,f15,h⟩:=oc h fun _ q=>Q1s (Q0d q)
 refine seq (reg hS [(0,as_ s1),(7,ai r5),(28,ab (((decide (0≤r5)&&decide (r5<(s1.length:Int)))&&decide (c13=61))&&equal3))] [] ?_ ?_)
 ·clear h hk hS hX c
  exact dh1 (an f15.1 (an f15.2.1 f15.2.2))
 refine ik h (fun h=>?_) fun h=>?_
 ·refine R [0,7] ?_
  obtain⟨c17,f19,h⟩:=oc h fun _ q=>Q1s (Q0d q)
  refine seq (reg hS [(0,as_ s1),(7,ai (IntKind.wrap .i64 (r5+1))),(40,ab (decide (IntKind.wrap .i64 (r5+1)<(s1.length:Int))&&!decide (c17=93)))] [] ?_ ?_)
  ·clear h hk hS hX c
   exact dh1 (an f19.1 (an f19.2.1 f19.2.2))
  refine ik h (fun h=>?_) fun h=>?_
  ·refine Ua1 h [0,7] (Zt2 hk 0 rfl) fun r21 h=>?_
   exact jn h
  exact jn h
 exact jn h
theorem V5a(c:AllG env [S136,S137]):Q0a env S92:=by
 refine hd c V7m 65 fun O X hS hX hpf hk ⟨s1,at2⟩=>fun r (h:F92 s1 at2=some r)=>gs ?_
 rw[F92]at h
 refine R [0,1] ?_
 refine R [0,1,5] ?_
 refine seqJ (α:=Str) (fun two4=>⟨sl [(0,as_ s1),(1,ai at2),(5,as_ two4)],65,[]⟩) (fun x=>J4z at2 s1 x=some r) ?_ ?_
 ·intro two4 h
  rw[J4z]at h
  try dsimp only at h
  refine AW.st (seq ?_)
  refine seq (reg hS [(0,as_ s1),(1,ai at2),(5,as_ two4),(26,ab ((decide (two4=[38,38])||decide (two4=[124,124]))||decide (two4=[36,35])))] [] ?_ ?_)
  ·clear h hk hS hX c
   exact dh
  refine ik h (fun h=>?_) fun h=>?_
  ·exact Rt h [4]
  obtain⟨c6,f8,h⟩:=oc h fun _=>Q1t
  obtain⟨r9,f11,h⟩:=oc h (Zt2 hk 0 rfl)
  replace f11:=ca f11
  try simp only[PVE]at f11
  refine seq (seq ?_)
  refine rg hS [0,1,5,33] (di1 (an f8.1 (an f8.2.1 (an f8.2.2 f11)))) ?_
  refine ik h (fun h=>?_) fun h=>?_
  ·exact Rt h [4]
  refine R [0,1,5,6] ?_
  refine seqM ⟨sl [(0,as_ s1),(1,ai at2),(6,ai (bif decide (two4=[62,62])then IntKind.wrap .i64 (at2+2)else IntKind.wrap .i64 (at2+1)))],65,[]⟩ ?_ ?_
  ·refine R [0,1,6,38] ?_
   refine cond (b:=decide (two4=[62,62])) rfl (fun hb13=>?_) (fun hb13=>?_)
   ·refine G [0,1,6] ?_
    exact Weak.of_eq (Weak.slots (L:=[(0,as_ s1),(1,ai at2),(6,ai (IntKind.wrap .i64 (at2+2)))]) kp) (wq hb13)
   exact skip (Weak.of_eq (Weak.slots (L:=[(0,as_ s1),(1,ai at2),(6,ai (IntKind.wrap .i64 (at2+1)))]) kp) (wq hb13))
  obtain⟨r14,f16,h⟩:=oc h (Zt2 hk 0 rfl)
  replace f16:=ca f16
  try simp only[PVE]at f16
  obtain⟨c17,f19,h⟩:=oc h fun _ q=>Q1s (Q0d q)
  refine seq (seq ?_)
  refine reg hS [(0,as_ s1),(1,ai at2),(6,ai (bif decide (two4=[62,62])then IntKind.wrap .i64 (at2+2)else IntKind.wrap .i64 (at2+1))),(56,ab ((r14&&decide ((bif decide (two4=[62,62])then IntKind.wrap .i64 (at2+2)else IntKind.wrap .i64 (at2+1))<(s1.length:Int)))&&decide (c17=91)))] [] ?_ ?_
  ·clear h hk hS hX c
   exact dh1 (an f8.1 (an f8.2.1 (an f8.2.2 (an f16 (an f19.1 (an f19.2.1 f19.2.2))))))
  refine ik h (fun h=>?_) fun h=>?_
  ·obtain⟨r21,f23,h⟩:=oc h (Zt3 hk 1 rfl)
   refine seq (rg hS [4] (di1 (an f8.1 (an f8.2.1 (an f8.2.2 (ca f23))))) ?_)
   exact Rf h
  exact Rt h [4]
 refine R [0,1,5,11] ?_
 refine ik h (fun h=>?_) fun h=>?_
 ·obtain⟨t25,f27,h⟩:=oc h fun _=>Q0p
  try simp only[NRM,Int.reduceToNat]at f27
  have f27e:=f27.2.2.2.2
  try simp only[NRM,Int.reduceToNat]at f27e
  have f27l:=f27.2.2.1
  try simp only[NRM,Int.reduceToNat]at f27l
  refine rg hS [0,1,5] (di1 (an f27.1 (an f27.2.1 (an f27l (an f27.2.2.2.1 f27e))))) ?_
  exact jn h
 exact jn h
theorem V4z(c:AllG env [S89]):Q0a env S93:=by
 refine hd c V7l 14 fun O X hS hX hpf hk ⟨xat1,xend2,xname3,xe4,xoff5,l6,l7⟩=>fun r (h:F93 xat1 xend2 xname3 xe4 xoff5 l6 l7=some r)=>gs ?_
 rw[F93]at h
 refine R [1,2] ?_
 refine seq (R [1,2,7] ?_)
 refine ik h (fun h=>?_) fun h=>?_
 ·obtain⟨⟨at15,end16,name17,e18,off19,o20⟩,q21,h⟩:=obs h
  dsimp only at h
  have f22:=(hk 0 89 rfl).ret (xat1,xend2,xname3,xe4,xoff5,Token.mk 2 xat1 [94] [],l6,l7) q21 rfl rfl
  try simp only[PVE]at f22
  have e23:Q0v O [rTo l6,rSt l7,V22 xat1 l6.length xend2 xname3 l7.length xe4 xoff5,V23 0 0 false 0 0] 89 [.agg [ai xat1,.vec 0 (List.length l6),ai xend2,ab xname3,.vec 1 (List.length l7),ai xe4,ai xoff5],.pv (V2 2 xat1 [94] [])]=some (Q1a [.agg [ai at15,.vec 0 (List.length o20),ai end16,ab name17,.vec 1 (List.length l7),ai e18,ai off19]],[rTo o20,rSt l7,V22 xat1 l6.length xend2 xname3 l7.length xe4 xoff5,V23 0 0 false 0 0]):=Q0i rfl rfl rfl f22 rfl rfl rfl
  refine seq (rg hS [2] (di1 (ap0 89 hpf e23)) ?_)
  exact Rf h
 exact Rt h [2]
theorem V6c(c:AllG env [S87,S88,S89,S90,S91,S92,S53,S93,S94]):Q0a env S52:=by
 refine hd c V8r 171 fun O X hS hX hpf hk ⟨s1,xat2,xend3,xname4,xe5,xoff6,l7,l8⟩=>fun r (h:F52 s1 xat2 xend3 xname4 xe5 xoff6 l7 l8=some r)=>?_
 have pf_93:O.pf 93=false:=pft hpf 93 rfl
 refine gs ?_
 rw[F52]at h
 refine R [0,3,4] ?_
 refine seq (R [0,3,4,10] ?_)
 refine ik h (fun h=>?_) fun h=>?_
 ·obtain⟨⟨at18,end19,name20,e21,off22,o23⟩,q24,h⟩:=obs h
  dsimp only at h
  have f25:=(hk 0 87 rfl).ret (s1,xat2,xend3,xname4,xe5,xoff6,l7,l8) q24 rfl rfl
  have e26:Q0v O [rTo l7,rSt l8,V22 xat2 l7.length xend3 xname4 l8.length xe5 xoff6,V23 0 0 false 0 0] 87 [as_ s1,.agg [ai xat2,.vec 0 (List.length l7),ai xend3,ab xname4,.vec 1 (List.length l8),ai xe5,ai xoff6]]=some (Q1a [.agg [ai at18,.vec 0 (List.length o23),ai end19,ab name20,.vec 1 (List.length l8),ai e21,ai off22]],[rTo o23,rSt l8,V22 xat2 l7.length xend3 xname4 l8.length xe5 xoff6,V23 0 0 false 0 0]):=Q0i rfl rfl rfl f25 rfl rfl rfl
  refine seq (rg hS [4] (di1 (ap0 87 hpf e26)) ?_)
  exact Rf h
 refine seq (seq ?_)
 refine Ua1 h [0,3,4,5] (Zt2 hk 1 rfl) fun r27 h=>?_
 refine R [0,3,4,5,19] ?_
 refine ik h (fun h=>?_) fun h=>?_
 ·refine R [3,4] ?_
  refine R [3,4] ?_
  exact Rt h [4]
 obtain⟨c31,f33,h⟩:=oc h fun _=>Q1t
 refine seq (seq ?_)
 refine rg hS [0,3,4,31] (di1 (an f33.1 (an f33.2.1 f33.2.2))) ?_
 refine ik h (fun h=>?_) fun h=>?_
 ·refine seq (block ?_)
  refine Lp h (fun x35=>⟨sl [(0,as_ s1),(3,.ref 2 0),(4,.ref 3 0)],171,[rTo l7,rSt l8,V22 x35 l7.length xend3 xname4 l8.length xe5 xoff6,V23 0 0 false 0 0]⟩) ?_
  clear h
  rintro x35 m38 h
  rw[X7l]at h
  try dsimp only at h
  obtain⟨c39,f41,h⟩:=oc h fun _ q=>Q1s (Q0d q)
  refine AW.st (seq ?_)
  refine seq (reg hS [(0,as_ s1),(3,.ref 2 0),(4,.ref 3 0),(43,ab (decide (x35<(s1.length:Int))&&!decide (c39=10)))] [rTo l7,rSt l8,V22 x35 l7.length xend3 xname4 l8.length xe5 xoff6,V23 0 0 false 0 0] ?_ ?_)
  ·clear h hk hS hX c
   exact dh1 (an f41.1 (an f41.2.1 f41.2.2))
  refine iz h (fun h=>?_) fun h=>?_
  ·refine skip (block ?_)
   refine G [0,3,4] ?_
   exact nx h
  refine exit (R [3,4] ?_)
  exact Rt h [4]
 refine seq (srg hS [0,3,4,54] (di1 (an f33.1 (an f33.2.1 f33.2.2))) ?_)
 refine ik h (fun h=>?_) fun h=>?_
 ·obtain⟨⟨at45,end46,name47,e48,off49,o50⟩,q51,h⟩:=obs h
  dsimp only at h
  have f52:=(hk 2 89 rfl).ret (xat2,xend3,xname4,xe5,xoff6,Token.mk 3 xat2 [10] [],l7,l8) q51 rfl rfl
  try simp only[PVE]at f52
  have e53:Q0v O [rTo l7,rSt l8,V22 xat2 l7.length xend3 xname4 l8.length xe5 xoff6,V23 0 0 false 0 0] 89 [.agg [ai xat2,.vec 0 (List.length l7),ai xend3,ab xname4,.vec 1 (List.length l8),ai xe5,ai xoff6],.pv (V2 3 xat2 [10] [])]=some (Q1a [.agg [ai at45,.vec 0 (List.length o50),ai end46,ab name47,.vec 1 (List.length l8),ai e48,ai off49]],[rTo o50,rSt l8,V22 xat2 l7.length xend3 xname4 l8.length xe5 xoff6,V23 0 0 false 0 0]):=Q0i rfl rfl rfl f52 rfl rfl rfl
  refine seq (rg hS [0,3,4] (di1 (ap0 89 hpf e53)) ?_)
  refine R [0,3,4] ?_
  refine R [0,3,4] ?_
  obtain⟨⟨at54,end55,name56,e57,off58⟩,q59,h⟩:=obs h
  dsimp only at h
  have f60:=(hk 3 90 rfl).ret (s1,IntKind.wrap .i64 (at45+1),(-1),name47,e48,off49,o50,l8) q59 rfl rfl
  have e61:Q0v O [rTo o50,rSt l8,V22 (IntKind.wrap .i64 (at45+1)) o50.length (-1) name47 l8.length e48 off49,V23 0 0 false 0 0] 90 [as_ s1,.agg [ai (IntKind.wrap .i64 (at45+1)),.vec 0 (List.length o50),ai (-1),ab name47,.vec 1 (List.length l8),ai e48,ai off49]]=some (Q1a [.agg [ai at54,.vec 0 (List.length o50),ai end55,ab name56,.nils,ai e57,ai off58]],[rTo o50,rSt l8,V22 (IntKind.wrap .i64 (at45+1)) o50.length (-1) name47 l8.length e48 off49,V23 0 0 false 0 0]):=Q0i rfl rfl rfl f60 rfl rfl rfl
  refine seq (rg hS [4] (di1 (ap0 90 hpf e61)) ?_)
  exact Rf h
 obtain⟨t62,f64,h⟩:=oc h fun _ q=>Z7r (Q0d q)
 try simp only[NRM,Int.reduceToNat]at f64
 have f64e:=f64.2.2.2.2
 try simp only[NRM,Int.reduceToNat]at f64e
 have f64l:=f64.2.2.1
 try simp only[NRM,Int.reduceToNat]at f64l
 refine seq (seq ?_)
 refine reg hS [(0,as_ s1),(3,.ref 2 0),(4,.ref 3 0),(83,ab (decide (IntKind.wrap .i64 (xat2+2)≤(s1.length:Int))&&decide (t62=[60,60])))] [rTo l7,rSt l8,V22 xat2 l7.length xend3 xname4 l8.length xe5 xoff6,V23 0 0 false 0 0] ?_ ?_
 ·clear h hk hS hX c
  exact dh1 (an f64.1 (an f64.2.1 (an f64l (an f64.2.2.2.1 f64e))))
 refine ik h (fun h=>?_) fun h=>?_
 ·obtain⟨⟨at66,end67,name68,e69,off70,o71,o72⟩,q73,h⟩:=obs h
  dsimp only at h
  have f74:=(hk 4 91 rfl).ret (s1,xat2,xend3,xname4,xe5,xoff6,l7,l8) q73 rfl rfl
  have e75:Q0v O [rTo l7,rSt l8,V22 xat2 l7.length xend3 xname4 l8.length xe5 xoff6,V23 0 0 false 0 0] 91 [as_ s1,.agg [ai xat2,.vec 0 (List.length l7),ai xend3,ab xname4,.vec 1 (List.length l8),ai xe5,ai xoff6]]=some (Q1a [.agg [ai at66,.vec 0 (List.length o71),ai end67,ab name68,.vec 1 (List.length o72),ai e69,ai off70]],[rTo o71,rSt o72,V22 xat2 l7.length xend3 xname4 l8.length xe5 xoff6,V23 0 0 false 0 0]):=Q0i rfl rfl rfl f74 rfl rfl rfl
  refine seq (rg hS [4] (di1 (ap0 91 hpf e75)) ?_)
  exact Rf h
 refine seq (Ua1 h [0,3,4,6] (Zt2 hk 5 rfl) fun r76 h=>?_)
 refine seq (R [0,3,4,6,92] ?_)
 refine ik h (fun h=>?_) fun h=>?_
 ·refine R [0,3,4,7] ?_
  refine seq (block ?_)
  refine Lp h (fun open80=>⟨sl [(0,as_ s1),(3,.ref 2 0),(4,.ref 3 0),(7,ai open80)],171,[rTo l7,rSt l8,V22 xat2 l7.length xend3 xname4 l8.length xe5 xoff6,V23 0 0 false 0 0]⟩) ?_
  clear h
  rintro open80 m83 h
  rw[X7k]at h
  try dsimp only at h
  obtain⟨c84,f86,h⟩:=oc h fun _=>Q1t
  refine AW.st (seq ?_)
  refine seq (rg hS [0,3,4,7,99] (di1 (an f86.1 (an f86.2.1 f86.2.2))) ?_)
  refine iz h (fun h=>?_) fun h=>?_
  ·refine skip (block ?_)
   refine G [0,3,4,7] ?_
   exact nx h
  obtain⟨⟨at88,end89,name90,e91,off92⟩,q93,h⟩:=obs h
  dsimp only at h
  have f94:=(hk 6 53 rfl).ret (xat2,xend3,xname4,xe5,xoff6,47,open80,l7,l8) q93 rfl rfl
  have e95:Q0v O [rTo l7,rSt l8,V22 xat2 l7.length xend3 xname4 l8.length xe5 xoff6,V23 0 0 false 0 0] 53 [.agg [ai xat2,.vec 0 (List.length l7),ai xend3,ab xname4,.vec 1 (List.length l8),ai xe5,ai xoff6],ai 47,ai open80]=some (Q1a [.agg [ai at88,.vec 0 (List.length l7),ai end89,ab name90,.vec 1 (List.length l8),ai e91,ai off92]],[rTo l7,rSt l8,V22 xat2 l7.length xend3 xname4 l8.length xe5 xoff6,V23 0 0 false 0 0]):=Q0i rfl rfl rfl f94 rfl rfl rfl
  refine exit (seq ?_)
  refine rg hS [4] (di1 (ap0 53 hpf e95)) ?_
  exact Rf h
 refine seq (R [0,3,4,6,108] ?_)
 refine ik h (fun h=>?_) fun h=>?_
 ·refine seqJ (α:=(List Token)×Int×Int×Bool×Int×Int) (fun(l98,x99,x100,x101,x102,x103)=>⟨sl [(0,as_ s1),(3,.ref 2 0),(4,.ref 3 0),(6,ai r76)],171,[rTo l98,rSt l8,V22 x99 l98.length x100 x101 l8.length x102 x103,V23 0 0 false 0 0]⟩) (fun x=>J5e s1 r76 l8 x=some r) ?_ ?_
  ·intro⟨l98,x99,x100,x101,x102,x103⟩ h
   rw[J5e]at h
   try dsimp only at h
   refine AW.st (seq ?_)
   obtain⟨t104,f106,h⟩:=oc h fun _=>Q0p
   try simp only[NRM,Int.reduceToNat]at f106
   have f106e:=f106.2.2.2.2
   try simp only[NRM,Int.reduceToNat]at f106e
   have f106l:=f106.2.2.1
   try simp only[NRM,Int.reduceToNat]at f106l
   obtain⟨⟨at107,end108,name109,e110,off111,o112⟩,q113,h⟩:=obs h
   dsimp only at h
   have f114:=(hk 2 89 rfl).ret (x99,x100,x101,x102,x103,Token.mk 2 x99 t104 [],l98,l8) q113 rfl rfl
   try simp only[PVE]at f114
   have e115:Q0v O [rTo l98,rSt l8,V22 x99 l98.length x100 x101 l8.length x102 x103,V23 0 0 false 0 0] 89 [.agg [ai x99,.vec 0 (List.length l98),ai x100,ab x101,.vec 1 (List.length l8),ai x102,ai x103],.pv (V2 2 x99 t104 [])]=some (Q1a [.agg [ai at107,.vec 0 (List.length o112),ai end108,ab name109,.vec 1 (List.length l8),ai e110,ai off111]],[rTo o112,rSt l8,V22 x99 l98.length x100 x101 l8.length x102 x103,V23 0 0 false 0 0]):=Q0i rfl rfl rfl f114 rfl rfl rfl
   apply dgB mixed hS [(3,some 2),(124,some 2),(127,some 2)] [0,3,4,6] rfl (ordB hpf (B:=[(3,some 2),(124,some 2),(127,some 2)]) (by kernel_rfl))
   ·exact di1 (an f106.1 (an f106.2.1 (an f106l (an f106.2.2.2.1 (an f106e (ap0 89 hpf e115))))))
   obtain⟨c116,f118,h⟩:=oc h fun _=>Q1t
   refine seq (rg hS [3,4,6] (di1 (an f118.1 (an f118.2.1 f118.2.2))) ?_)
   refine R [3,4] ?_
   refine R [3,4] ?_
   exact Rt h [4]
  refine seq (reg hS [(0,as_ s1),(3,.ref 2 0),(4,.ref 3 0),(6,ai r76),(120,ab (decide (c31=36)||decide (c31=96)))] [rTo l7,rSt l8,V22 xat2 l7.length xend3 xname4 l8.length xe5 xoff6,V23 0 0 false 0 0] ?_ ?_)
  ·clear h hk hS hX c
   exact dh1 (an f33.1 (an f33.2.1 f33.2.2))
  refine ik h (fun h=>?_) fun h=>?_
  ·obtain⟨⟨at120,end121,name122,e123,off124,o125⟩,q126,h⟩:=obs h
   dsimp only at h
   have f127:=(hk 7 93 rfl).ret (xat2,xend3,xname4,xe5,xoff6,l7,l8) q126 rfl rfl
   have e128:Q0v O [rTo l7,rSt l8,V22 xat2 l7.length xend3 xname4 l8.length xe5 xoff6,V23 0 0 false 0 0] 93 [.agg [ai xat2,.vec 0 (List.length l7),ai xend3,ab xname4,.vec 1 (List.length l8),ai xe5,ai xoff6]]=some (Q1a [.agg [ai at120,.vec 0 (List.length o125),ai end121,ab name122,.vec 1 (List.length l8),ai e123,ai off124]],[rTo o125,rSt l8,V22 xat2 l7.length xend3 xname4 l8.length xe5 xoff6,V23 0 0 false 0 0]):=Q0i rfl rfl rfl f127 rfl rfl rfl
   refine rg hS [0,3,4,6] (di1 (ap0 93 hpf e128)) ?_
   exact jn h
  exact jn h
 refine seq (Ua1 h [3,4,8] (Zt2 hk 8 rfl) fun r129 h=>?_)
 refine seq (R [3,4,8,149] ?_)
 refine ik h (fun h=>?_) fun h=>?_
 ·obtain⟨⟨at133,end134,name135,e136,off137⟩,q138,h⟩:=obs h
  dsimp only at h
  have f139:=(hk 6 53 rfl).ret (xat2,xend3,xname4,xe5,xoff6,48,r129.to_,l7,l8) q138 rfl rfl
  have e140:Q0v O [rTo l7,rSt l8,V22 xat2 l7.length xend3 xname4 l8.length xe5 xoff6,V23 0 0 false 0 0,V25 r129] 53 [.agg [ai xat2,.vec 0 (List.length l7),ai xend3,ab xname4,.vec 1 (List.length l8),ai xe5,ai xoff6],ai 48,ai r129.to_]=some (Q1a [.agg [ai at133,.vec 0 (List.length l7),ai end134,ab name135,.vec 1 (List.length l8),ai e136,ai off137]],[rTo l7,rSt l8,V22 xat2 l7.length xend3 xname4 l8.length xe5 xoff6,V23 0 0 false 0 0,V25 r129]):=Q0i rfl rfl rfl f139 rfl rfl rfl
  refine seq (rg hS [4] (di1 (ap0 53 hpf e140)) ?_)
  exact Rf h
 obtain⟨⟨at141,end142,name143,e144,off145,o146⟩,q147,h⟩:=obs h
 dsimp only at h
 have f148:=(hk 7 93 rfl).ret (xat2,xend3,xname4,xe5,xoff6,l7,l8) q147 rfl rfl
 have e149:Q0v O [rTo l7,rSt l8,V22 xat2 l7.length xend3 xname4 l8.length xe5 xoff6,V23 0 0 false 0 0,V25 r129] 93 [.agg [ai xat2,.vec 0 (List.length l7),ai xend3,ab xname4,.vec 1 (List.length l8),ai xe5,ai xoff6]]=some (Q1a [.agg [ai at141,.vec 0 (List.length o146),ai end142,ab name143,.vec 1 (List.length l8),ai e144,ai off145]],[rTo o146,rSt l8,V22 xat2 l7.length xend3 xname4 l8.length xe5 xoff6,V23 0 0 false 0 0,V25 r129]):=Q0i rfl rfl rfl f148 rfl rfl rfl
 obtain⟨⟨at150,end151,name152,e153,off154,o155⟩,q156,h⟩:=obs h
 dsimp only at h
 have f157:=(hk 2 89 rfl).ret (at141,end142,name143,e144,off145,Token.mk 1 xat2 r129.text_ r129.quoted_,o146,l8) q156 rfl rfl
 have e158:Q0v O [rTo o146,rSt l8,V22 xat2 l7.length xend3 xname4 l8.length xe5 xoff6,V23 0 0 false 0 0,V25 r129] 89 [.agg [ai at141,.vec 0 (List.length o146),ai end142,ab name143,.vec 1 (List.length l8),ai e144,ai off145],.pv (V2 1 xat2 r129.text_ r129.quoted_)]=some (Q1a [.agg [ai at150,.vec 0 (List.length o155),ai end151,ab name152,.vec 1 (List.length l8),ai e153,ai off154]],[rTo o155,rSt l8,V22 xat2 l7.length xend3 xname4 l8.length xe5 xoff6,V23 0 0 false 0 0,V25 r129]):=Q0i rfl rfl rfl f157 rfl rfl rfl
 refine seq (dV 154 10 [1,9,10] [(0,0),(1,0),(2,0),(2,1),(3,0),(3,1),(4,0),(4,1),(5,0),(5,1),(6,0),(6,1),(7,0),(7,1),(8,0),(8,1),(9,1),(10,2)] [.agg [ai xat2,.vec 0 (List.length l7),ai xend3,ab xname4,.vec 1 (List.length l8),ai xe5,ai xoff6],.agg [ai at141,.vec 0 (List.length o146),ai end142,ab name143,.vec 1 (List.length l8),ai e144,ai off145],.ref 2 0,ai xat2,.ref 4 0,as_ r129.text_,.ref 4 1,as_ r129.quoted_,.pv (V2 1 xat2 r129.text_ r129.quoted_),.agg [ai at150,.vec 0 (List.length o155),ai end151,ab name152,.vec 1 (List.length l8),ai e153,ai off154],.any] [[(0,rTo o146)],[(0,rTo o155)],[(2,V22 at150 o155.length end151 name152 l8.length e153 off154)]] [3,4,8] (an pf_93 (an e149 (ap0 89 hpf e158))) ?_)
 refine R [3,4,8] ?_
 refine R [3,4] ?_
 exact Rt h [4]
end Go.Abs.U48
