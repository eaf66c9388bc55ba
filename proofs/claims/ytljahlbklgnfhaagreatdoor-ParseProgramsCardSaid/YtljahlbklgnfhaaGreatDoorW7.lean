import Derived.Test.YtljahlbklgnfhaaGreatDoorD1
set_option linter.unusedVariables false
set_option linter.unusedSimpArgs false
set_option maxRecDepth 8000
set_option maxHeartbeats 4000000
namespace Go.Abs.U48
open Go.RowKit Go.Proofs AW
theorem V0a(c:AllG env [S190,S103]):Q0c env S152:=by
 refine hd c V4o 54 λO X hS hX hpf hk ⟨w1,a,b⟩=>λr (h:F152 w1 a b=some r)=>gs ?_
 rw[F152]at h
 refine R [0,3] ?_
 refine R [0,3,5] ?_
 refine block (R [0,3,5,6] ?_)
 refine iz h (λh=>?_) λh=>?_
 ·refine Ua1 h [] (Z3 hk 0 rfl) λd h=>?_
  cases h
  exact fin
 refine R [0,3,11] ?_
 refine iz h (λh=>?_) λh=>?_
 ·refine Ua1 h [] (Z3 hk 1 rfl) λe h=>?_
  cases h
  exact fin
 cases h
theorem V0z(c:AllG env [S103,S152,S105]):Q0c env S106:=by
 refine hd c V5t 45 λO X hS hX hpf hk ⟨a,f,b⟩=>λr (h:F106 a f b=some r)=>gs ?_
 rw[F106]at h
 refine R [0,3] ?_
 refine seq (R [0,3,8,9,10] ?_)
 refine block (Lp h (λ(i5,d)=>⟨sl [(0,.ref 0 0),(3,.ref 1 0),(8,vWo a.words_),(9,ai (a.words_.length:Int)),(10,ai i5)],45,[.prn 5 d 51 9 (List.map Redir.pv b),V9 a]⟩) ?_)
 clear h
 rintro⟨i5,d⟩ g h
 rw[X6h]at h
 try dsimp only at h
 refine AW.st (R [0,3,8,9,10,11] ?_)
 refine seq (iz h (λh=>?_) λh=>?_)
 ·obtain⟨i,e,h⟩:=oc h λ_=>Q0l
  refine skip (seq ?_)
  refine block (seq ?_)
  refine rg hS [0,3,4,5,8,9,10] (di1 (an e.1 e.2.1)) ?_
  refine seq (R [0,3,5,8,9,10,16] ?_)
  refine ik h (λh=>?_) λh=>?_
  ·refine Ua1 h [0,3,5,8,9,10] (Z3 hk 0 rfl) λj h=>?_
   refine Ua1 h [0,3,8,9,10] (Z3 hk 1 rfl) λk h=>?_
   refine G [0,3,8,9,10] ?_
   exact nx h
  refine Ua1 h [0,3,8,9,10] (Z3 hk 1 rfl) λl h=>?_
  refine G [0,3,8,9,10] ?_
  exact nx h
 refine exit (R [0,3,6] ?_)
 refine seq (seq ?_)
 refine reg hS [(0,.ref 0 0),(6,vRe a.redirs_),(34,ab (decide ((a.words_.length:Int)=0)&&decide (0<(a.redirs_.length:Int))))] [.prn 5 d 51 9 (List.map Redir.pv b),V9 a] ?_ ?_
 ·clear h hk hS hX c
  exact dh
 refine ik h (λh=>?_) λh=>?_
 ·cases h
 refine Ua1 h [] (Z3 hk 2 rfl) λ_ h=>?_
 cases h
 exact fin
theorem K9z(c:AllG env [S103,S152]):Q0c env S153:=by
 refine hd c V4n 19 λO X hS hX hpf hk ⟨a,f,b⟩=>λr (h:F153 a f b=some r)=>gs ?_
 rw[F153]at h
 refine R [0,6,7,8] ?_
 refine block (Lp h (λ(i5,d)=>⟨sl [(0,.ref 0 0),(6,vWo a),(7,ai (a.length:Int)),(8,ai i5)],19,[.prn 5 d 51 9 (List.map Redir.pv b)]⟩) ?_)
 clear h
 rintro⟨i5,d⟩ g h
 rw[X6f]at h
 try dsimp only at h
 refine AW.st (R [0,6,7,8,9] ?_)
 refine seq (iz h (λh=>?_) λh=>?_)
 ·obtain⟨i,e,h⟩:=oc h λ_=>Q0l
  refine skip (seq ?_)
  refine block (seq ?_)
  refine rg hS [0,5,6,7,8] (di1 (an e.1 e.2.1)) ?_
  refine seq (Ua1 h [0,5,6,7,8] (Z3 hk 0 rfl) λj h=>?_)
  refine Ua1 h [0,6,7,8] (Z3 hk 1 rfl) λk h=>?_
  refine G [0,6,7,8] ?_
  exact nx h
 exact ex h
theorem V0y{a:Y5}(c:AllG env [S104 a,S66 a,S103,S153]):Q0c env (S107 a):=by
 refine hd c V5s 107 λO X hS hX hpf hk ⟨f,g,i⟩=>λr (h:F107 a f g i=some r)=>gs ?_
 rw[F107]at h
 refine R [0,3] ?_
 refine R [0,3,5] ?_
 refine block (R [0,3,5,6] ?_)
 refine iz h (λh=>?_) λh=>?_
 ·cases h
 refine R [0,3,5,30] ?_
 refine iz h (λh=>?_) λh=>?_
 ·obtain⟨k,d,h⟩:=oc h λ_=>Q0l
  try simp only[NRM,Int.reduceToNat]at d
  obtain⟨⟨l,m⟩,b,h⟩:=oc h (Z5 hk 0 rfl)
  replace b:=cb b
  try simp only[PVE]at b
  refine seq (rg hS [0,3] (di1 (an d.1 (an d.2.1 b))) ?_)
  obtain⟨n,e,h⟩:=oc h λ_=>Q0l
  try simp only[NRM,Int.reduceToNat]at e
  obtain⟨⟨o,p⟩,j,h⟩:=oc h (Z3 hk 1 rfl)
  refine rg hS [] (di1 (an e.1 (an e.2.1 (cb j)))) ?_
  cases h
  exact fin
 refine R [0,3,5,45] ?_
 refine iz h (λh=>?_) λh=>?_
 ·cases h
 refine R [0,3,5,60] ?_
 refine iz h (λh=>?_) λh=>?_
 ·cases h
 refine R [0,3,5,78] ?_
 refine iz h (λh=>?_) λh=>?_
 ·cases h
 refine R [0,3,5,83] ?_
 refine iz h (λh=>?_) λh=>?_
 ·cases h
 refine R [0,3,98] ?_
 refine iz h (λh=>?_) λh=>?_
 ·refine seq (Ua1 h [0,3] (Z3 hk 2 rfl) λq h=>?_)
  refine Ua1 h [] (Z3 hk 3 rfl) λs h=>?_
  cases h
  exact fin
 cases h
theorem Y1k{a:Y5}(c:AllG env [S104 a,S105,S106,S107 a]):Q0c env (S66 (F66 a)):=by
 refine hd c V1q 78 λO X hS hX hpf hk ⟨b,d,e⟩=>λr (h:F66 a b d e=some r)=>gs ?_
 rw[F66]at h
 refine R [0,3] ?_
 refine R [0,3,5] ?_
 refine block (R [0,3,5,9] ?_)
 refine iz h (λh=>?_) λh=>?_
 ·cases h
 refine R [0,3,5,18] ?_
 refine iz h (λh=>?_) λh=>?_
 ·cases h
 refine R [0,3,5,24] ?_
 refine iz h (λh=>?_) λh=>?_
 ·cases h
 refine R [0,3,5,30] ?_
 refine iz h (λh=>?_) λh=>?_
 ·cases h
 refine R [0,3,5,36] ?_
 refine iz h (λh=>?_) λh=>?_
 ·cases h
 refine R [0,3,5,45] ?_
 refine iz h (λh=>?_) λh=>?_
 ·cases h
 refine R [0,3,5,54] ?_
 refine iz h (λh=>?_) λh=>?_
 ·cases h
 refine R [0,3,5,63] ?_
 refine iz h (λh=>?_) λh=>?_
 ·refine seq (Ua2 h [0,3] (Z5 hk 0 rfl) λf m15 h=>?_)
  refine Ua1 h [] (Z3 hk 1 rfl) λ_ h=>?_
  cases h
  exact fin
 refine R [0,3,73] ?_
 refine iz h (λh=>?_) λh=>?_
 ·refine Ua1 h [] (Z3 hk 2 rfl) λg h=>?_
  cases h
  exact fin
 refine Ua2 h [] (Z3 hk 3 rfl) λi j h=>?_
 cases h
 exact fin
theorem Y2o(c:AllG env [S13,S35 (K66 BIG),S36]):Q0c env S17:=by
 refine hd c Y5d 12 ?_
 rintro O X hS hX hpf hk (a:(List Cmd)) (r:Str×Int) (h:F17 a=some r)
 refine gs ?_
 rw[F17]at h
 refine R [0] ?_
 refine seq (seq ?_)
 refine Ua1 h [0,7] (Zt hk 0 13 a) λi h=>?_
 refine ik h (λh=>?_) λh=>?_
 ·cases h
 refine seq ?_
 apply rg hS [0,4]
 ·simp -implicitDefEqProofs only[RUNS,Q1d,Nat.reduceAdd,Nat.reduceLeDiff,Nat.reduceSub,reduceIte,Nat.reduceEqDiff,Nat.reduceLT,reduceCtorEq,Nat.reduceMul,Nat.reduceBEq,Int.reduceEq,Int.reduceToNat,G1r,G2b,if_true,G2i,eq_self,ne_eq,Q3v,Q2w,Q2i,TYS,K0b];exact⟨rfl,rfl⟩
 obtain⟨⟨e,f⟩,g,h⟩:=obs h
 dsimp only at h
 have b:=hk 1 35 rfl
 replace b:=b.ret (a,([]:Str),(([]:List Redir):List Redir)) g rfl rfl
 try simp only[PVE]at b
 have d:Q0x O [.prn 5 [] 51 9 (List.map Redir.pv ([]:List Redir))] 35 [.ref 0 0,vC a]=some (Q1c [],[.prn 5 e 51 9 (List.map Redir.pv f)]):=Q0k rfl rfl rfl b rfl rfl rfl
 try simp only[G0j,G2h]at d
 refine seq (rg hS [4] (di1 (ap0 35 hpf d)) ?_)
 refine seq (Ua1 h [2,3] (Z2 hk 2 rfl) λj h=>?_)
 exact Rf h
theorem g_F7(c:AllG env [S8,S15 (K15 BIG),S13,S17]):Q0c env (S7 F7):=by
 refine hd c fn_7 71 ?_
 rintro O X hS hX hpf hk ⟨⟩ r h
 replace h:=(S7_F F7).symm.trans h
 have j:O.pf 15=true:=pft hpf 15 rfl
 refine gs ?_
 refine R [] ?_
 refine seq (Ua3 h [1,2,3] (Zt hk 0 8 ([105,102,40,126,32,36,120,32,97,41,123,101,99,104,111,32,39,98,32,99,39,125]:Str)) λa k l h=>?_)
 obtain⟨i,b,h⟩:=oc h λ_ q=>J7c (Q0d q)
 try simp only[NRM,Int.reduceToNat]at b
 obtain⟨m,d,h⟩:=obs h
 have e:=hk 1 15 rfl
 replace d:=Q0d d
 replace e:=λf=>e.ret a (d f) rfl rfl
 obtain⟨n,g,h⟩:=obs h
 replace g:=Q0d g
 have o:=λf=>(hk 2 13 rfl).ret a (g f) rfl rfl
 refine seq (seq ?_)
 refine reg hS [(1,vC a),(48,ab ((((((!decide (l=0)||!decide (k=0))||!decide ((a.length:Int)=1))||!decide (i.kind_=8))||!decide ((i.kids_.length:Int)=2))||!decide (m=9))||!n))] [] ?_ ?_
 ·clear h hk hS hX c
  exact dh1 (an b.1 (an b.2.1 (an j (an e (ap1 13 hpf o)))))
 refine ik h (λh=>?_) λh=>?_
 ·exact Rt h [0]
 refine seq (seq ?_)
 refine Ua3 h [1,5,6] (Zt hk 0 8 ([97,32,124,32,124,32,98]:Str)) λw p s h=>?_
 refine seq (reg hS [(1,vC a),(59,ab (!decide (p=4)||!decide (s=47)))] [] ?_ ?_)
 ·clear h hk hS hX c
  exact dh
 refine ik h (λh=>?_) λh=>?_
 ·exact Rt h [0]
 refine seq (Ua2 h [3,7] (Zt hk 3 17 a) λt u h=>?_)
 refine seq (reg hS [(0,ab (decide (t=[105,102,40,10,126,32,36,120,32,97,10,41,32,123,10,101,99,104,111,32,39,98,32,99,39,10,125,10])&&decide (u=0)))] [] ?_ ?_)
 ·clear h hk hS hX c
  exact dh
 exact Rf h
theorem V0k(c:AllG env []):Q0c env S135:=by
 refine hd c V4y 33 ?_
 rintro O X hS hX hpf hk (a:Int) (r:Bool) (h:F135 a=some r)
 refine gs ?_
 rw[F135]at h
 refine R [0] ?_
 refine seq (reg hS [(2,ab (((((decide (97<=a)&&decide (a<=122))||(decide (65<=a)&&decide (a<=90)))||(decide (48<=a)&&decide (a<=57)))||decide (a=95))||decide (a=42)))] [] ?_ ?_)
 ·clear h hk hS hX c
  exact dh
 exact Rf h
theorem Y1s(c:AllG env []):Q0c env S53:=by
 refine hd c Y4h 15 λO X hS hX hpf hk ⟨g,i,j,a,k,l,m,d,e⟩=>λr (h:F53 g i j a k l m d e=some r)=>gs ?_
 rw[F53]at h
 refine R [1,2,3,6] ?_
 refine seqM ⟨sl [(3,.ref 2 0),(6,.ref 3 0)],15,[rTo d,rSt e,V22 g d.length i j e.length (bif decide (a=0)then l else a) (bif decide (a=0)then m else k),V23 0 0 false 0 0]⟩ ?_ ?_
 ·refine R [1,2,3,6,9] ?_
  refine cond (b:=decide (a=0)) rfl (λf=>?_) (λf=>?_)
  ·refine R [2,3,6] ?_
   refine G [3,6] ?_
   exact Weak.of_eq (Weak.slots (L:=[(3,.ref 2 0),(6,.ref 3 0)]) kp) (wq f)
  exact skip (Weak.of_eq (Weak.slots (L:=[(3,.ref 2 0),(6,.ref 3 0)]) kp) (wq f))
 exact Rt h [6]
theorem Y0u(c:AllG env [S53]):Q0c env S89:=by
 refine hd c Y3g 20 λO X hS hX hpf hk ⟨d,e,f,g,i,j,a,b⟩=>λr (h:F89 d e f g i j a b=some r)=>gs ?_
 rw[F89]at h
 refine R [2,3,4] ?_
 refine seq (R [2,3,4,8] ?_)
 refine ik h (λh=>?_) λh=>?_
 ·obtain⟨⟨k,l,m,n,o⟩,p,h⟩:=obs h
  dsimp only at h
  have q:=(hk 0 53 rfl).ret (d,e,f,g,i,4,j.at_,a,b) p rfl rfl
  have s:Q0x O [rTo a,rSt b,V22 d a.length e f b.length g i,V1 j,V23 0 0 false 0 0] 53 [.agg [ai d,.vec 0 (List.length a),ai e,ab f,.vec 1 (List.length b),ai g,ai i],ai 4,ai j.at_]=some (Q1c [.agg [ai k,.vec 0 (List.length a),ai l,ab m,.vec 1 (List.length b),ai n,ai o]],[rTo a,rSt b,V22 d a.length e f b.length g i,V1 j,V23 0 0 false 0 0]):=Q0k rfl rfl rfl q rfl rfl rfl
  refine seq (rg hS [4] (di1 (ap0 53 hpf s)) ?_)
  exact Rf h
 replace h:=ap Token.pv h;obtain⟨u,t,h⟩:=h
 refine seq (rg hS [2,4] (di1 t) ?_)
 exact Rt h [4]
theorem Y0w(c:AllG env [S135,S53,S89]):Q0c env S87:=by
 refine hd c Y3i 48 λO X hS hX hpf hk ⟨l,d,e,f,g,i,b,a⟩=>λr (h:F87 l d e f g i b a=some r)=>gs ?_
 rw[F87]at h
 refine R [0,3,4] ?_
 refine R [0,3,4,5] ?_
 refine R [0,3,4,5,6] ?_
 refine seq (block ?_)
 refine Lp h (λ(m,k)=>⟨sl [(0,as_ l),(3,.ref 2 0),(4,.ref 3 0),(5,ai m),(6,as_ k)],48,[rTo b,rSt a,V22 d b.length e f a.length g i,V23 0 0 false 0 0]⟩) ?_
 clear h
 rintro⟨m,k⟩ m19 h
 rw[Z6v]at h
 try dsimp only at h
 obtain⟨c20,n,h⟩:=oc h λ_ q=>Q1x (Q0d q)
 obtain⟨x,o,h⟩:=obs h
 replace o:=Q0d o
 have y:=λz=>(hk 0 135 rfl).ret c20 (o z) rfl rfl
 refine AW.st (seq ?_)
 refine seq (reg hS [(0,as_ l),(3,.ref 2 0),(4,.ref 3 0),(5,ai m),(6,as_ k),(18,ab (decide (m<(l.length:Int))&&x))] [rTo b,rSt a,V22 d b.length e f a.length g i,V23 0 0 false 0 0] ?_ ?_)
 ·clear h hk hS hX c
  exact dh1 (an n.1 (an n.2.1 (an n.2.2 (ap1 135 hpf y))))
 refine iz h (λh=>?_) λh=>?_
 ·refine skip (block ?_)
  refine R [0,3,4,5,6] ?_
  obtain⟨U,p,h⟩:=oc h λ_=>Q6u
  try simp only[LNS,G1w,Nat.reduceAdd,Nat.reduceLeDiff,G2j,Nat.reduceMul]at p
  refine rg hS [0,3,4,5,6] (di1 (an p.1 p.2)) ?_
  exact nx h
 refine exit (seq ?_)
 refine R [0,3,4,5,6,26] ?_
 refine ik h (λh=>?_) λh=>?_
 ·obtain⟨⟨A,C,D,E,F⟩,H,h⟩:=obs h
  dsimp only at h
  have I:=(hk 1 53 rfl).ret (d,e,f,g,i,47,d,b,a) H rfl rfl
  have J:Q0x O [rTo b,rSt a,V22 d b.length e f a.length g i,V23 0 0 false 0 0] 53 [.agg [ai d,.vec 0 (List.length b),ai e,ab f,.vec 1 (List.length a),ai g,ai i],ai 47,ai d]=some (Q1c [.agg [ai A,.vec 0 (List.length b),ai C,ab D,.vec 1 (List.length a),ai E,ai F]],[rTo b,rSt a,V22 d b.length e f a.length g i,V23 0 0 false 0 0]):=Q0k rfl rfl rfl I rfl rfl rfl
  refine seq (rg hS [4] (di1 (ap0 53 hpf J)) ?_)
  exact Rf h
 refine seq ?_
 obtain⟨s,j,h⟩:=oc h λ_=>Q0r
 try simp only[NRM,Int.reduceToNat]at j
 have t:=j.2.2.2.2
 try simp only[NRM,Int.reduceToNat]at t
 have u:=j.2.2.1
 try simp only[NRM,Int.reduceToNat]at u
 obtain⟨⟨K,L,M,N,P,w⟩,Q,h⟩:=obs h
 dsimp only at h
 have S:=(hk 2 89 rfl).ret (d,e,f,g,i,Token.mk 1 d s k,b,a) Q rfl rfl
 have T:Q0x O [rTo b,rSt a,V22 d b.length e f a.length g i,V23 0 0 false 0 0] 89 [.agg [ai d,.vec 0 (List.length b),ai e,ab f,.vec 1 (List.length a),ai g,ai i],.pv (V2 1 d s k)]=some (Q1c [.agg [ai K,.vec 0 (List.length w),ai L,ab M,.vec 1 (List.length a),ai N,ai P]],[rTo w,rSt a,V22 d b.length e f a.length g i,V23 0 0 false 0 0]):=Q0k rfl rfl rfl S rfl rfl rfl
 apply dgB mixed hS [(3,some 2),(32,some 2),(35,some 2)] [3,4,5] rfl (ordB hpf (B:=[(3,some 2),(32,some 2),(35,some 2)]) (by kernel_rfl))
 ·exact di1 (an j.1 (an j.2.1 (an u (an j.2.2.2.1 (an t (ap0 89 hpf T))))))
 refine R [3,4,5] ?_
 refine R [3,4] ?_
 refine R [3,4] ?_
 exact Rt h [4]
end Go.Abs.U48
