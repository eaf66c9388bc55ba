import Derived.Test.YtljahlbklgnfhaaGreatDoorD1
set_option linter.unusedVariables false
set_option linter.unusedSimpArgs false
set_option maxRecDepth 8000
set_option maxHeartbeats 4000000
namespace Go.Abs.U48
open Go.RowKit Go.Proofs AW
theorem K9q(c:AllG env [S58,S60]):Q0c env S174:=by
 refine hd c V4a 17 λO X hS hX hpf hk ⟨a,b,d,e,f,g,i⟩=>λr (h:F174 a b d e f g i=some r)=>gs ?_
 rw[F174]at h
 refine seq (seq ?_)
 refine Ua1 h [0,7] (Z7 hk 0 rfl) λj h=>?_
 refine ik h (λh=>?_) λh=>?_
 ·refine Ua2 h [0] (Z6 hk 1 rfl) λk l h=>?_
  refine G [] ?_
  cases h
  exact fin
 refine G [] ?_
 cases h
 exact fin
theorem K9c(c:AllG env [S59,S58]):Q0c env S203:=by
 refine hd c V3m 23 λO X hS hX hpf hk ⟨l,m,n,o,p,q⟩=>λr (h:F203 l m n o p q=some r)=>gs ?_
 rw[F203]at h
 refine R [0] ?_
 obtain⟨s,e,h⟩:=oc h (Z6 hk 0 rfl)
 refine seq ?_
 rcases bs h with⟨b,h⟩|⟨b,h⟩
 ·exact rg hS [2] (di1 (an (cb e) b)) (Rf h)
 obtain⟨t,a,h⟩:=oc h (Z7 hk 1 rfl)
 replace a:=cb a
 try simp only[PVE]at a
 rcases bs h with⟨f,h⟩|⟨f,h⟩
 ·exact rg hS [2] (di1 (an (cb e) (an b (an a f)))) (Rf h)
 obtain⟨u,d,h⟩:=oc h (Z7 hk 1 rfl)
 replace d:=cb d
 try simp only[PVE]at d
 rcases bs h with⟨i,h⟩|⟨i,h⟩
 ·exact rg hS [2] (di1 (an (cb e) (an b (an a (an f (an d i)))))) (Rf h)
 obtain⟨w,g,h⟩:=oc h (Z7 hk 1 rfl)
 replace g:=cb g
 try simp only[PVE]at g
 rcases bs h with⟨k,h⟩|⟨k,h⟩
 ·exact rg hS [2] (di1 (an (cb e) (an b (an a (an f (an d (an i (an g k)))))))) (Rf h)
 obtain⟨x,j,h⟩:=oc h (Z7 hk 1 rfl)
 replace j:=cb j
 try simp only[PVE]at j
 exact rg hS [2] (di1 (an (cb e) (an b (an a (an f (an d (an i (an g (an k j))))))))) (Rf h)
theorem K9m(c:AllG env [S59]):Q0c env S178:=by
 refine hd c V3x 26 λO X hS hX hpf hk ⟨d,e,f,g,i,j⟩=>λr (h:F178 d e f g i j=some r)=>gs ?_
 rw[F178]at h
 refine R [0] ?_
 refine seq (Ua1 h [3] (Z6 hk 0 rfl) λb h=>?_)
 obtain⟨k,a,h⟩:=oc h λ_ q=>Q1x (Q0d q)
 try simp only[NRM,Int.reduceToNat]at a
 refine seq (reg hS [(2,ab (decide (b.kind_=4)||(decide (b.kind_=2)&&(decide (k=60)||decide (k=62)))))] [V27 d e f g i j,V1 b] ?_ ?_)
 ·clear h hk hS hX c
  exact dh1 (an a.1 (an a.2.1 a.2.2))
 exact Rf h
theorem K9o(c:AllG env [S58,S203,S178]):Q0c env S176:=by
 refine hd c V3z 21 λO X hS hX hpf hk ⟨k,l,m,n,o,p⟩=>λr (h:F176 k l m n o p=some r)=>gs ?_
 rw[F176]at h
 refine R [0] ?_
 obtain⟨s,a,h⟩:=oc h (Z7 hk 0 rfl)
 replace a:=cb a
 try simp only[PVE]at a
 refine seq ?_
 rcases bs h with⟨d,h⟩|⟨d,h⟩
 ·exact rg hS [2] (di1 (an a d)) (Rf h)
 obtain⟨t,b,h⟩:=oc h (Z7 hk 0 rfl)
 replace b:=cb b
 try simp only[PVE]at b
 rcases bs h with⟨f,h⟩|⟨f,h⟩
 ·exact rg hS [2] (di1 (an a (an d (an b f)))) (Rf h)
 obtain⟨u,e,h⟩:=oc h (Z7 hk 0 rfl)
 replace e:=cb e
 try simp only[PVE]at e
 rcases bs h with⟨g,h⟩|⟨g,h⟩
 ·exact rg hS [2] (di1 (an a (an d (an b (an f (an e g)))))) (Rf h)
 obtain⟨w,j,h⟩:=oc h (Z6 hk 1 rfl)
 rcases bs h with⟨i,h⟩|⟨i,h⟩
 ·exact rg hS [2] (di1 (an a (an d (an b (an f (an e (an g (an (cb j) i)))))))) (Rf h)
 obtain⟨x,q,h⟩:=oc h (Z6 hk 2 rfl)
 exact rg hS [2] (di1 (an a (an d (an b (an f (an e (an g (an (cb j) (an i (cb q)))))))))) (Rf h)
theorem K9n{a:Y3}(c:AllG env [S59,S174,S24 a]):Q0c env (S177 a):=by
 refine hd c V3y 23 λO X hS hX hpf hk ⟨b,d,e,f,g,i,j,k⟩=>λr (h:F177 a b d e f g i j k=some r)=>gs ?_
 rw[F177]at h
 refine R [0,1,2,6] ?_
 refine seq (Ua1 h [0,1,2,6,7] (Z6 hk 0 rfl) λl h=>?_)
 refine seq (Ua3 h [0,2,6,7] (Z7 hk 1 rfl) λm n o h=>?_)
 refine seq (Ua4 h [0,2,6,7] (Z7 hk 2 rfl) λp q s t h=>?_)
 refine seq (Ua3 h [6,7] (Z7 hk 1 rfl) λu w x h=>?_)
 exact Rt h [6]
theorem K9h(c:AllG env []):Q0c env S186:=by
 refine hd c V3t 13 ?_
 rintro O X hS hX hpf hk (b:Int) (r:Str) (h:F186 b=some r)
 refine gs ?_
 rw[F186]at h
 refine R [0] ?_
 refine R [0,3] ?_
 refine seq (R [0,3,4] ?_)
 refine block (Lp h (λ(d,i4)=>⟨sl [(0,ai b),(3,as_ d),(4,ai i4)],13,[]⟩) ?_)
 clear h
 rintro⟨d,i4⟩ e h
 rw[Z2x]at h
 try dsimp only at h
 refine AW.st (seq ?_)
 refine R [0,3,4,7] ?_
 refine iz h (λh=>?_) λh=>?_
 ·obtain⟨f,a,h⟩:=oc h λ_=>Q6u
  try simp only[LNS,G1w,Nat.reduceAdd,Nat.reduceLeDiff,G2j,Nat.reduceMul]at a
  refine skip (seq ?_)
  refine block (rg hS [0,3,4] (di1 (an a.1 a.2)) ?_)
  refine G [0,3,4] ?_
  exact nx h
 exact exit (Rt h [2])
theorem K9b(c:AllG env []):Q0c env S204:=by
 refine hd c V3l 35 λO X hS hX hpf hk ⟨a,i⟩=>λr (h:F204 a i=some r)=>gs ?_
 rw[F204]at h
 refine R [0,1] ?_
 refine R [0,1,6] ?_
 refine seq (block ?_)
 refine Lp h (λ(b,d)=>⟨sl [(0,as_ a),(1,ai b),(6,ai d)],35,[]⟩) ?_
 clear h
 rintro⟨b,d⟩ j h
 rw[Q5j]at h
 try dsimp only at h
 obtain⟨g,e,h⟩:=oc h λ_ q=>Q1x (Q0d q)
 refine AW.st (seq ?_)
 refine seq (reg hS [(0,as_ a),(1,ai b),(6,ai d),(22,ab ((decide (b<(a.length:Int))&&decide (48<=g))&&decide (g<=57)))] [] ?_ ?_)
 ·clear h hk hS hX c
  exact dh1 (an e.1 (an e.2.1 e.2.2))
 refine iz h (λh=>?_) λh=>?_
 ·refine skip (block ?_)
  refine seq ?_
  obtain⟨k,f,h⟩:=oc h λ_=>Q1y
  apply rg hS [0,1,6]
  ·simp -implicitDefEqProofs only[RUNS,Q1d,Nat.reduceAdd,Nat.reduceLeDiff,Nat.reduceSub,reduceIte,Nat.reduceEqDiff,Nat.reduceLT,reduceCtorEq,Nat.reduceMul,Nat.reduceBEq,Int.reduceEq,Int.reduceToNat,G1r,G2b,if_true,G2i,eq_self,ne_eq,Q3v,Q2w,Q2i,TYS,f.1,f.2.1,f.2.2,J6u T_5 T_3];exact⟨rfl,rfl⟩
  refine G [0,1,6] ?_
  exact nx h
 exact exit (Rt h [4,5])
theorem K9l{j:Y2}(c:AllG env [S59,S186,S171,S204,S175 j]):Q0c env (S179 j):=by
 refine hd c V3w 104 λO X hS hX hpf hk ⟨a,b,d,e,f,g⟩=>λr (h:F179 j a b d e f g=some r)=>gs ?_
 rw[F179]at h
 refine R [0,2] ?_
 refine seq (Ua1 h [0,2,3] (Z6 hk 0 rfl) λi h=>?_)
 refine seq (R [0,2,3,11] ?_)
 refine ik h (λh=>?_) λh=>?_
 ·refine seq ?_
  obtain⟨y,t,h⟩:=oc h λ_=>Q0l
  apply dgk mixed hS [0,2,3,4] (ordp hpf (by kernel_rfl))
  ·exact di1 (an t.1 t.2.1)
  refine R [2,3,4] ?_
  refine seq ?_
  obtain⟨D,z,h⟩:=oc h (Zt hk 1 186 (y.length:Int))
  obtain⟨E,A,h⟩:=oc h (Zt hk 2 171 i.quoted_)
  apply dgB mixed hS [(2,some 1),(3,some 2),(34,some 2)] [2] rfl (ordB hpf (B:=[(2,some 1),(3,some 2),(34,some 2)]) (by kernel_rfl))
  ·exact di1 (an (ca z) (ca A))
  exact Rf h
 refine R [0,2,3] ?_
 refine R [0,2,3,5] ?_
 refine R [0,2,3,5,6] ?_
 refine seqJ (α:=Int×Int) (λ(o,k)=>⟨sl [(0,.ref 0 0),(2,.ref 1 0),(3,.ref 2 0),(5,.ref 3 0),(6,ai 1)],104,[V27 a b d (IntKind.wrap .i64 (e+1)) f g,V10 0 0 0 0 [] [] false,V1 i,V11 o k 0 0 [] [] [] [] false]⟩) (λx=>Z0s i e f g j a b d x=some r) ?_ ?_
 ·intro⟨o,k⟩ h
  rw[Z0s]at h
  try dsimp only at h
  refine AW.st (seqJ (α:=Int×Int) (λ(u,l)=>⟨sl [(0,.ref 0 0),(2,.ref 1 0),(3,.ref 2 0),(5,.ref 3 0),(6,ai u)],104,[V27 a b d (IntKind.wrap .i64 (e+1)) f g,V10 0 0 0 0 [] [] false,V1 i,V11 l k 0 0 [] [] [] [] false]⟩) (λx=>Z2z i e f g j a b d k x=some r) ?_ ?_)
  ·intro⟨u,l⟩ h
   rw[Z2z]at h
   try dsimp only at h
   refine AW.st (seqJ (α:=Int) (λw=>⟨sl [(0,.ref 0 0),(2,.ref 1 0),(5,.ref 3 0)],104,[V27 a b d (IntKind.wrap .i64 (e+1)) f g,V10 0 0 0 0 [] [] false,V1 i,V11 l w 0 0 [] [] [] [] false]⟩) (λx=>Z2y j a b d e f g l x=some r) ?_ ?_)
   ·intro w h
    rw[Z2y]at h
    try dsimp only at h
    refine AW.st (seq ?_)
    refine Ua4 h [2,5] (Z6 hk 4 rfl) λF H I J h=>?_
    exact Rt h [2]
   refine R [0,2,3,5,6,67] ?_
   refine ik h (λh=>?_) λh=>?_
   ·refine seq (Ua2 h [0,2,3,5,6] (Zt2 hk 3 rfl) λK L h=>?_)
    obtain⟨M,p,h⟩:=oc h λ_=>Q1y
    refine seq (rg hS [0,2,3,5,6,81] (di1 (an p.1 (an p.2.1 p.2.2))) ?_)
    refine ik h (λh=>?_) λh=>?_
    ·refine R [2,3,5,6] ?_
     obtain⟨c46,s,h⟩:=oc h λ_=>Q1y
     refine seq (seq ?_)
     refine rg hS [2,3,5,6,88] (di1 (an s.1 (an s.2.1 s.2.2))) ?_
     refine ik h (λh=>?_) λh=>?_
     ·refine R [2,3,5,6] ?_
      refine Ua2 h [2,5] (Zt2 hk 3 rfl) λN P h=>?_
      exact Rt h [2]
     exact Rt h [2]
    exact jn h
   exact jn h
  obtain⟨C,m,h⟩:=oc h λ_ q=>Q1x (Q0d q)
  try simp only[NRM,Int.reduceToNat]at m
  refine seq (reg hS [(0,.ref 0 0),(2,.ref 1 0),(3,.ref 2 0),(5,.ref 3 0),(6,ai 1),(61,ab (decide (1<(i.text_.length:Int))&&decide (C=62)))] [V27 a b d (IntKind.wrap .i64 (e+1)) f g,V10 0 0 0 0 [] [] false,V1 i,V11 o k 0 0 [] [] [] [] false] ?_ ?_)
  ·clear h hk hS hX c
   exact dh1 (an m.1 (an m.2.1 m.2.2))
  refine ik h (λh=>?_) λh=>?_
  ·refine R [0,2,3,5] ?_
   refine G [0,2,3,5,6] ?_
   exact jn h
  exact jn h
 obtain⟨Q,n,h⟩:=oc h λ_=>Q1y
 try simp only[NRM,Int.reduceToNat]at n
 refine seq (rg hS [0,2,3,5,6,49] (di1 (an n.1 (an n.2.1 n.2.2))) ?_)
 refine ik h (λh=>?_) λh=>?_
 ·refine R [0,2,3,5,6] ?_
  refine G [0,2,3,5,6] ?_
  exact jn h
 exact jn h
theorem K8z{a:Y2}(c:AllG env [S175 a,S203]):Q0c env (S206 a):=by
 refine hd c V3j 22 λO X hS hX hpf hk ⟨b,d,e,n,o,p⟩=>λr (h:F206 a b d e n o p=some r)=>gs ?_
 rw[F206]at h
 refine R [0] ?_
 obtain⟨⟨D,E,F,H⟩,q,h⟩:=oc h (Z6 hk 0 rfl)
 refine seq (rg hS [0,3] (di1 (cb q)) ?_)
 refine seq (block ?_)
 refine Lq r (Q3o b d e a) (λ(j,k,l,f)=>⟨sl [(0,.ref 0 0),(3,.vec 1 (List.length f))],22,[V27 b d e j k l,rWo f]⟩) ?_ ?_
 ·refine seq (seq ?_)
  rcases bs h with⟨g,h⟩|⟨g,h⟩
  ·obtain⟨I,s,h⟩:=oc h (Z6 hk 1 rfl)
   refine rg hS [0,3,15] (di1 (an g (cb s))) ?_
   refine iz h (λh=>?_) λh=>?_
   ·obtain⟨⟨J,t,u,w⟩,x,h⟩:=oc h (Z6 hk 0 rfl)
    replace h:=ap Word.pv h;obtain⟨m,y,h⟩:=h
    refine skip (block ?_)
    refine reg hS [(0,.ref 0 0),(3,.vec 1 (List.length m))] [V27 b d e t u w,rWo m] (dk1 (an (cb x) y)) ?_
    exact ny h
   exact exit (Rt h [2])
  refine rg hS [0,3,15] (di1 g) ?_
  exact cF (exit (Rt h [2]))
 clear h
 rintro⟨j,k,l,f⟩ K h
 unfold Q3o at h
 try dsimp only at h
 refine AW.st (seq ?_)
 refine seq ?_
 rcases bs h with⟨i,h⟩|⟨i,h⟩
 ·obtain⟨L,z,h⟩:=oc h (Z6 hk 1 rfl)
  refine rg hS [0,3,15] (di1 (an i (cb z))) ?_
  refine iz h (λh=>?_) λh=>?_
  ·obtain⟨⟨M,N,P,Q⟩,A,h⟩:=oc h (Z6 hk 0 rfl)
   replace h:=ap Word.pv h;obtain⟨S,C,h⟩:=h
   refine skip (block ?_)
   refine rg hS [0,3] (di1 (an (cb A) C)) ?_
   exact nx h
  exact exit (Rt h [2])
 refine rg hS [0,3,15] (di1 i) ?_
 exact cF (exit (Rt h [2]))
theorem K9a{a:Y2}(c:AllG env [S97,S58,S175 a]):Q0c env (S205 a):=by
 refine hd c V3k 26 λO X hS hX hpf hk ⟨d,e,f,k,l,m⟩=>λr (h:F205 a d e f k l m=some r)=>gs ?_
 rw[F205]at h
 refine R [0] ?_
 refine seq (rg hS [0,3] di ?_)
 refine weak (Weak.own 3 49 5 (by decide) rfl) ?_
 refine weak (Weak.slots (L:=[(0,.ref 0 0),(3,.vec 1 (List.length ([]:List Word)))]) ⟨rfl,rfl,trivial⟩) ?_
 refine seq (block ?_)
 refine Lp h (λ(g,i,j,b)=>⟨sl [(0,.ref 0 0),(3,.vec 1 (List.length b))],26,[V27 d e f g i j,rWo b]⟩) ?_
 clear h
 rintro⟨g,i,j,b⟩ m17 h
 rw[Q6l]at h
 try dsimp only at h
 refine AW.st (seq ?_)
 refine R [0,3,8] ?_
 refine iz h (λh=>?_) λh=>?_
 ·refine skip (block ?_)
  refine seq (Ua1 h [0,3] (Z6 hk 0 rfl) λp h=>?_)
  refine seq (seq ?_)
  refine Ua1 h [0,3,12] (Z7 hk 1 rfl) λq h=>?_
  refine ik h (λh=>?_) λh=>?_
  ·refine R [3] ?_
   exact Rt h [2]
  obtain⟨⟨s,t,u,w⟩,n,h⟩:=oc h (Z6 hk 2 rfl)
  replace h:=ap Word.pv h;obtain⟨x,o,h⟩:=h
  refine rg hS [0,3] (di1 (an (cb n) o)) ?_
  exact nx h
 exact exit (Rt h [2])
theorem K9k{k:Y3}{o:Y2}(c:AllG env [S59,S174,S175 o,S173,S206 o,S140,S177 k,S97,S142 k,S205 o,S55,S58,S56,S60,S24 k]):Q0c env (S180 k o):=by
 refine hd c V3v 181 λO X hS hX hpf hk ⟨ae,i,j,d,e,f,l,m,n,a⟩=>λr (h:F180 k o ae i j d e f l m n a=some r)=>?_
 have af:O.pf 177=false:=pft hpf 177 rfl
 refine gs ?_
 rw[F180]at h
 refine seq (AW.after ?_)
 refine rg hS [0,3,4] di ?_
 refine oC Cmd.pv 2 5 36 6 ?_
 refine seq (Ua1 h [0,3,4,5] (Z6 hk 0 rfl) λg h=>?_)
 refine R [0,3,4,5] ?_
 refine seq (R [0,3,4,5,17] ?_)
 refine block (seqM ⟨sl [(0,.ref 0 0),(3,.ref 2 0),(4,.ref 3 0),(5,as_ g.text_),(17,as_ g.text_),(22,ab (bif decide (g.text_=[105,102])then decide (g.text_=[105,102])else decide (g.text_=[119,104,105,108,101])))],181,[V27 d e f (IntKind.wrap .i64 (l+1)) m n,rRe a,V28 ae i j a.length (List.length ([]:List Cmd)),V5 0 0 [],.row 36 6 (List.map Cmd.pv ([]:List Cmd)) true]⟩ ?_ ?_)
 ·refine R [0,3,4,5,17,22] ?_
  refine cond (b:=decide (g.text_=[105,102])) rfl (λC=>?_) (λC=>?_)
  ·exact skip (Weak.of_eq (Weak.slots (L:=[(0,.ref 0 0),(3,.ref 2 0),(4,.ref 3 0),(5,as_ g.text_),(17,as_ g.text_),(22,ab (decide (g.text_=[105,102])))]) kp) (wq C))
  refine G [0,3,4,5,17,22] ?_
  exact Weak.of_eq (Weak.slots (L:=[(0,.ref 0 0),(3,.ref 2 0),(4,.ref 3 0),(5,as_ g.text_),(17,as_ g.text_),(22,ab (decide (g.text_=[119,104,105,108,101])))]) kp) (wq C)
 refine iz h (λh=>?_) λh=>?_
 ·refine R [0,3,4,5] ?_
  refine seqM ⟨sl [(0,.ref 0 0),(3,.ref 2 0),(4,.ref 3 0),(5,as_ g.text_)],181,[V27 d e f (IntKind.wrap .i64 (l+1)) m n,rRe a,V28 (bif decide (g.text_=[119,104,105,108,101])then 11 else 8) i j a.length (List.length ([]:List Cmd)),V5 0 0 [],.row 36 6 (List.map Cmd.pv ([]:List Cmd)) true]⟩ ?_ ?_
  ·refine R [0,3,4,5,27] ?_
   refine cond (b:=decide (g.text_=[119,104,105,108,101])) rfl (λD=>?_) (λD=>?_)
   ·refine G [0,3,4,5] ?_
    exact Weak.of_eq (Weak.slots (L:=[(0,.ref 0 0),(3,.ref 2 0),(4,.ref 3 0),(5,as_ g.text_)]) kp) (wq D)
   exact skip (Weak.of_eq (Weak.slots (L:=[(0,.ref 0 0),(3,.ref 2 0),(4,.ref 3 0),(5,as_ g.text_)]) kp) (wq D))
  refine seqJ (α:=Int×Int×Int×Int×(List Cmd)) (λ(ag,ah,aj,E,t)=>⟨sl [(0,.ref 0 0),(3,.ref 2 0),(4,.ref 3 0)],181,[V27 d e f ag ah aj,rRe a,V28 E i j a.length t.length,V5 0 0 [],rCm t]⟩) (λx=>Q4i d e f k i j a x=some r) ?_ ?_
  ·intro⟨ag,ah,aj,E,t⟩ h
   rw[Q4i]at h
   try dsimp only at h
   refine AW.st (seq ?_)
   refine Ua1 h [0,3,4] (Z6 hk 7 rfl) λbi h=>?_
   obtain⟨⟨ak,aO,aP,aQ⟩,aR,h⟩:=oc h (Z6 hk 8 rfl)
   replace h:=ap Cmd.pv h;obtain⟨F,aS,h⟩:=h
   refine dV 52 7 [3,5,7] [(0,0),(0,1),(1,0),(1,1),(2,0),(3,0),(4,1),(5,1),(6,2),(7,2)] [.ref 2 5,.vec 4 (List.length t),.ref 0 0,.pv (V7 ak),.full [V7 ak],.vec 4 (List.length F),.ref 2 5,.any] [[(0,V27 d e f aO aP aQ)],[(4,rCm F)],[(2,V28 E i j a.length F.length)]] [3,4] (an (cb aR) aS) ?_
   exact Rt h [4]
  refine seq ?_
  rcases bs h with⟨H,h⟩|⟨H,h⟩
  ·obtain⟨bj,u,h⟩:=oc h (Z7 hk 5 rfl)
   replace u:=cb u
   try simp only[PVE]at u
   refine rg hS [0,3,4,34] (di1 (an H u)) ?_
   refine iz h (λh=>?_) λh=>?_
   ·refine R [0,3,4] ?_
    refine G [0,3,4] ?_
    exact jn h
   obtain⟨⟨I,J,K,M,al,am,ao⟩,aT,h⟩:=obs h
   dsimp only at h
   have w:=(hk 6 177 rfl).ret (([40]:Str),([41]:Str),d,e,f,(IntKind.wrap .i64 (l+1)),m,n) aT rfl rfl
   try simp only[PVE]at w
   have aq:Q0x O [V27 d e f (IntKind.wrap .i64 (l+1)) m n,rRe a,V28 (bif decide (g.text_=[119,104,105,108,101])then 11 else 8) i j a.length (List.length ([]:List Cmd)),V5 0 0 [],.row 36 6 (List.map Cmd.pv ([]:List Cmd)) true] 177 [.ref 0 0,as_ [40],as_ [41]]=some (Q1c [.agg [ai I,ai J,as_ K,.nils,.nils,vC M]],[V27 d e f al am ao,rRe a,V28 (bif decide (g.text_=[119,104,105,108,101])then 11 else 8) i j a.length (List.length ([]:List Cmd)),V5 0 0 [],.row 36 6 (List.map Cmd.pv ([]:List Cmd)) true]):=Q0k rfl rfl rfl w rfl rfl rfl
   try simp only[G0j,G2h]at aq
   replace h:=ap Cmd.pv h;obtain⟨N,aU,h⟩:=h
   refine dV 43 7 [3,5,7] [(0,0),(0,1),(1,0),(1,1),(2,0),(3,0),(4,1),(5,1),(6,2),(7,2)] [.ref 2 5,.vec 4 (List.length ([]:List Cmd)),.ref 0 0,.agg [ai I,ai J,as_ K,.nils,.nils,vC M],.full (List.map Cmd.pv [Cmd.mk I J K [] [] M]),.vec 4 (List.length N),.ref 2 5,.any] [[(0,V27 d e f al am ao)],[(4,rCm N)],[(2,V28 (bif decide (g.text_=[119,104,105,108,101])then 11 else 8) i j a.length N.length)]] [0,3,4] (an af (an aq aU)) ?_
   exact jn h
  refine rg hS [0,3,4,34] (di1 H) ?_
  refine cF ?_
  obtain⟨⟨P,Q,S,T,ar,au,av⟩,aV,h⟩:=obs h
  dsimp only at h
  have aw:=(hk 6 177 rfl).ret (([40]:Str),([41]:Str),d,e,f,IntKind.wrap .i64 (l+1),m,n) aV rfl rfl
  try simp only[PVE]at aw
  have ax:Q0x O [V27 d e f (IntKind.wrap .i64 (l+1)) m n,rRe a,V28 (bif decide (g.text_=[119,104,105,108,101])then 11 else 8) i j a.length (List.length ([]:List Cmd)),V5 0 0 [],.row 36 6 (List.map Cmd.pv ([]:List Cmd)) true] 177 [.ref 0 0,as_ [40],as_ [41]]=some (Q1c [.agg [ai P,ai Q,as_ S,.nils,.nils,vC T]],[V27 d e f ar au av,rRe a,V28 (bif decide (g.text_=[119,104,105,108,101])then 11 else 8) i j a.length (List.length ([]:List Cmd)),V5 0 0 [],.row 36 6 (List.map Cmd.pv ([]:List Cmd)) true]):=Q0k rfl rfl rfl aw rfl rfl rfl
  try simp only[G0j,G2h]at ax
  replace h:=ap Cmd.pv h;obtain⟨U,w,h⟩:=h
  refine dV 43 7 [3,5,7] [(0,0),(0,1),(1,0),(1,1),(2,0),(3,0),(4,1),(5,1),(6,2),(7,2)] [.ref 2 5,.vec 4 (List.length ([]:List Cmd)),.ref 0 0,.agg [ai P,ai Q,as_ S,.nils,.nils,vC T],.full (List.map Cmd.pv [Cmd.mk P Q S [] [] T]),.vec 4 (List.length U),.ref 2 5,.any] [[(0,V27 d e f ar au av)],[(4,rCm U)],[(2,V28 (bif decide (g.text_=[119,104,105,108,101])then 11 else 8) i j a.length U.length)]] [0,3,4] (an af (an ax w)) ?_
  exact jn h
 refine R [0,3,4,17,59] ?_
 refine iz h (λh=>?_) λh=>?_
 ·refine R [0,3,4] ?_
  refine seq (Ua3 h [0,3,4] (Z7 hk 1 rfl) λbk bl bm h=>?_)
  refine seq (Ua4 h [0,3,4] (Z6 hk 3 rfl) λay bn bo bp h=>?_)
  refine seq (rg hS [0,3,4] di ?_)
  refine seq (seq ?_)
  refine Ua1 h [0,3,4,71] (Z7 hk 5 rfl) λbq h=>?_
  refine iz h (λh=>?_) λh=>?_
  ·refine R [0,3,4] ?_
   refine Ua4 h [0,3,4] (Z6 hk 9 rfl) λaW br bt bu h=>?_
   refine seq (Ua1 h [0,3,4] (Z6 hk 7 rfl) λbv h=>?_)
   obtain⟨⟨az,aX,aY,aZ⟩,a0,h⟩:=oc h (Z6 hk 8 rfl)
   replace h:=ap Cmd.pv h;obtain⟨V,a1,h⟩:=h
   refine dV 86 7 [3,5,7] [(0,0),(0,1),(1,0),(1,1),(2,0),(3,0),(4,1),(5,1),(6,2),(7,2)] [.ref 2 5,.vec 4 (List.length ([]:List Cmd)),.ref 0 0,.pv (V7 az),.full [V7 az],.vec 4 (List.length V),.ref 2 5,.any] [[(0,V27 d e f aX aY aZ)],[(4,rCm V)],[(2,V29 10 i ay aW a.length V.length)]] [3,4] (an (cb a0) a1) ?_
   exact Rt h [4]
  refine Ua3 h [0,3,4] (Z7 hk 1 rfl) λbw bx bz h=>?_
  refine seq (Ua1 h [0,3,4] (Z6 hk 7 rfl) λbA h=>?_)
  obtain⟨⟨aA,a2,a3,a4⟩,a5,h⟩:=oc h (Z6 hk 8 rfl)
  replace h:=ap Cmd.pv h;obtain⟨W,a6,h⟩:=h
  refine dV 86 7 [3,5,7] [(0,0),(0,1),(1,0),(1,1),(2,0),(3,0),(4,1),(5,1),(6,2),(7,2)] [.ref 2 5,.vec 4 (List.length ([]:List Cmd)),.ref 0 0,.pv (V7 aA),.full [V7 aA],.vec 4 (List.length W),.ref 2 5,.any] [[(0,V27 d e f a2 a3 a4)],[(4,rCm W)],[(2,.var [ai 10,ai i,as_ ay,.full (List.map Word.pv [Word.mk 2 [42] [] [] []]),.vec 1 (List.length a),.vec 4 (List.length W)])]] [3,4] (an (cb a5) a6) ?_
  exact Rt h [4]
 refine R [0,3,4,17,93] ?_
 refine iz h (λh=>?_) λh=>?_
 ·refine R [0,3,4] ?_
  obtain⟨⟨Y,bB,bD,bE⟩,a7,h⟩:=oc h (Z6 hk 2 rfl)
  refine seq (rg hS [0,3,4] (di1 (cb a7)) ?_)
  refine seq (Ua3 h [0,3,4] (Z7 hk 1 rfl) λbF bG bH h=>?_)
  refine seq (Ua1 h [0,3,4] (Z6 hk 10 rfl) λbI h=>?_)
  refine seq (block ?_)
  refine Lp h (λ(aB,aC,aD,p)=>⟨sl [(0,.ref 0 0),(3,.ref 2 0),(4,.ref 3 0)],181,[V27 d e f aB aC aD,rRe a,.var [ai 17,ai i,as_ j,.full [V14 Y],.vec 1 (List.length a),.vec 4 (List.length p)],V5 0 0 [],rCm p]⟩) ?_
  clear h
  rintro⟨aB,aC,aD,p⟩ a8 h
  rw[Q1w]at h
  try dsimp only at h
  refine AW.st (seq ?_)
  refine seq ?_
  rcases bs h with⟨aa,h⟩|⟨aa,h⟩
  ·obtain⟨bJ,y,h⟩:=oc h (Z7 hk 5 rfl)
   replace y:=cb y
   try simp only[PVE]at y
   refine rg hS [0,3,4,112] (di1 (an aa y)) ?_
   refine iz h (λh=>?_) λh=>?_
   ·refine skip (block ?_)
    refine seq (Ua1 h [0,3,4,6] (Z6 hk 0 rfl) λaE h=>?_)
    refine R [0,3,4,6] ?_
    refine seq (Ua4 h [0,3,4,6] (Z6 hk 4 rfl) λaF aG bK bL h=>?_)
    refine seqJ (α:=Int×Int) (λ(aH,aI)=>⟨sl [(0,.ref 0 0),(3,.ref 2 0),(4,.ref 3 0),(6,.ref 5 0)],181,[V27 d e f aG aH aI,rRe a,.var [ai 17,ai i,as_ j,.full [V14 Y],.vec 1 (List.length a),.vec 4 (List.length p)],V5 0 0 [],rCm p,V30 18 aE.at_ [] aF]⟩) (λx=>Q2n k d e f aG p aE aF (iter (Q1w d e f o k i j Y a) a8) x=some r) ?_ ?_
    ·intro⟨aH,aI⟩ h
     rw[Q2n]at h
     try dsimp only at h
     refine AW.st (seq ?_)
     refine Ua4 h [0,3,4,6] (Z7 hk 14 rfl) λbM bN bO bP h=>?_
     replace h:=ap Cmd.pv h;obtain⟨bQ,f171,h⟩:=h
     refine rg hS [0,3,4] (di1 f171) ?_
     exact nx h
    refine seq ?_
    rcases bs h with⟨q,h⟩|⟨q,h⟩
    ·obtain⟨bS,ac,h⟩:=oc h (Z6 hk 0 rfl)
     rcases bs h with⟨z,h⟩|⟨z,h⟩
     ·obtain⟨bT,s,h⟩:=oc h (Z7 hk 11 rfl)
      replace s:=cb s
      try simp only[PVE]at s
      rcases bs h with⟨ad,h⟩|⟨ad,h⟩
      ·obtain⟨bU,A,h⟩:=oc h (Z7 hk 12 rfl)
       replace A:=cb A
       try simp only[PVE]at A
       refine rg hS [0,3,4,6,147] (di1 (an q (an (cb ac) (an z (an s (an ad A)))))) ?_
       refine ik h (λh=>?_) λh=>?_
       ·refine Ua2 h [0,3,4,6] (Z6 hk 13 rfl) λbV bX h=>?_
        exact jn h
       exact jn h
      refine rg hS [0,3,4,6,147] (di1 (an q (an (cb ac) (an z (an s ad))))) ?_
      refine cF (skip ?_)
      exact jn h
     refine rg hS [0,3,4,6,147] (di1 (an q (an (cb ac) z))) ?_
     refine cF (skip ?_)
     exact jn h
    refine rg hS [0,3,4,6,147] (di1 q) ?_
    refine cF (skip ?_)
    exact jn h
   refine exit (Ua3 h [3,4] (Z7 hk 1 rfl) λbY bZ b0 h=>?_)
   exact Rt h [4]
  refine rg hS [0,3,4,112] (di1 aa) ?_
  refine cF (exit (Ua3 h [3,4] (Z7 hk 1 rfl) λb1 b2 b3 h=>?_))
  exact Rt h [4]
 refine R [0,3,4,161] ?_
 refine iz h (λh=>?_) λh=>?_
 ·refine R [0,3,4] ?_
  refine seq (Ua4 h [0,3,4] (Z6 hk 3 rfl) λaJ aK aL aM h=>?_)
  refine seq (Ua1 h [0,3,4,168] (Z7 hk 11 rfl) λb4 h=>?_)
  refine ik h (λh=>?_) λh=>?_
  ·obtain⟨⟨a9,ba,bb,bc,be,bf,bg⟩,bh,h⟩:=obs h
   dsimp only at h
   have f218:=(hk 6 177 rfl).ret (([123]:Str),([125]:Str),d,e,f,aK,aL,aM) bh rfl rfl
   try simp only[PVE]at f218
   have aN:Q0x O [V27 d e f aK aL aM,rRe a,V28 15 i aJ a.length (List.length ([]:List Cmd)),V5 0 0 [],.row 36 6 (List.map Cmd.pv ([]:List Cmd)) true] 177 [.ref 0 0,as_ [123],as_ [125]]=some (Q1c [.agg [ai a9,ai ba,as_ bb,.nils,.nils,vC bc]],[V27 d e f be bf bg,rRe a,V28 15 i aJ a.length (List.length ([]:List Cmd)),V5 0 0 [],.row 36 6 (List.map Cmd.pv ([]:List Cmd)) true]):=Q0k rfl rfl rfl f218 rfl rfl rfl
   try simp only[G0j,G2h]at aN
   refine seq (rg hS [3,4] (di1 (ap0 177 hpf aN)) ?_)
   refine R [3,4,176] ?_
   refine ik h (λh=>?_) λh=>?_
   ·refine rg hS [3,4] di ?_
    exact Rt h [4]
   exact Rt h [4]
  exact Rt h [4]
 refine R [0,3,4] ?_
 refine Ua4 h [3,4] (Z6 hk 4 rfl) λb5 b6 b7 b9 h=>?_
 exact Rt h [4]
end Go.Abs.U48
