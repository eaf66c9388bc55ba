import Derived.Test.YtljahlbklgnfhaaGreatDoorD1
set_option linter.unusedVariables false
set_option linter.unusedSimpArgs false
set_option maxRecDepth 8000
set_option maxHeartbeats 4000000
namespace Go.Abs.U48
open Go.RowKit Go.Proofs AW
open Go.Proofs.Tryz
theorem Y6s{w66:Y5}{w152:Y2}(c:AllG env [S102 w66,S103,S104 w66,S105 w152,S106 w152,S107 w66 w152]):Q0c env (S66 (F66 w66 w152)):=by
 refine hd c (fnq func66) 78 λO X hS hX hpf hk ⟨a,b,d⟩=>λr (h:F66 w66 w152 a b d=some r)=>gs ?_
 rw[F66]at h
 refine R [0,3] ?_
 refine R [0,3,5] ?_
 refine block (R [0,3,5,9] ?_)
 refine iz h (λh=>?_) λh=>?_
 ·refine seq (Ua2 h [0] (Z4 hk 0 rfl) λe f h=>?_)
  refine Ua1 h [] (Z3 hk 1 rfl) λg h=>?_
  cases h
  exact fin
 refine R [0,3,5,18] ?_
 refine iz h (λh=>?_) λh=>?_
 ·refine Ua2 h [] (Z4 hk 0 rfl) λi j h=>?_
  cases h
  exact fin
 refine R [0,3,5,24] ?_
 refine iz h (λh=>?_) λh=>?_
 ·refine Ua2 h [] (Z4 hk 0 rfl) λl m h=>?_
  cases h
  exact fin
 refine R [0,3,5,30] ?_
 refine iz h (λh=>?_) λh=>?_
 ·refine Ua2 h [] (Z4 hk 0 rfl) λn o h=>?_
  cases h
  exact fin
 refine R [0,3,5,36] ?_
 refine iz h (λh=>?_) λh=>?_
 ·refine seq (Ua1 h [0,3] (Z3 hk 1 rfl) λp h=>?_)
  refine Ua2 h [] (Z4 hk 0 rfl) λq t h=>?_
  cases h
  exact fin
 refine R [0,3,5,45] ?_
 refine iz h (λh=>?_) λh=>?_
 ·refine seq (Ua1 h [0,3] (Z3 hk 1 rfl) λu h=>?_)
  refine Ua2 h [] (Z4 hk 0 rfl) λx y h=>?_
  cases h
  exact fin
 refine R [0,3,5,54] ?_
 refine iz h (λh=>?_) λh=>?_
 ·refine seq (Ua1 h [0,3] (Z3 hk 1 rfl) λz h=>?_)
  refine Ua2 h [] (Z4 hk 0 rfl) λA C h=>?_
  cases h
  exact fin
 refine R [0,3,5,63] ?_
 refine iz h (λh=>?_) λh=>?_
 ·refine seq (Ua2 h [0,3] (Z5 hk 2 rfl) λD E h=>?_)
  refine Ua2 h [] (Z3 hk 3 rfl) λF H h=>?_
  cases h
  exact fin
 refine R [0,3,73] ?_
 refine iz h (λh=>?_) λh=>?_
 ·refine Ua2 h [] (Z3 hk 4 rfl) λI J h=>?_
  cases h
  exact fin
 refine Ua2 h [] (Z3 hk 5 rfl) λK L h=>?_
 cases h
 exact fin
theorem V8s(c:AllG env [S103,Z3e]):Q0c env S190:=by
 refine hd c (fnq func190) 56 λO X hS hX hpf hk ⟨w1,u,a⟩=>λr (h:F190 w1 u a=some r)=>gs ?_
 rw[F190]at h
 refine R [0,3] ?_
 refine seqJ (α:=Str) (λo=>⟨sl [(0,.ref 0 0),(3,.ref 1 0)],56,[.prn 5 o 51 9 (List.map Redir.pv a),V2 w1]⟩) (λx=>Z4r w1 a x=some r) ?_ ?_
 ·intro o h
  rw[Z4r]at h
  try dsimp only at h
  refine AW.st (R [0,3,4] ?_)
  refine block (Lp h (λ(d,e)=>⟨sl [(0,.ref 0 0),(3,.ref 1 0),(4,ai d)],56,[.prn 5 e 51 9 (List.map Redir.pv a),V2 w1]⟩) ?_)
  clear h
  rintro⟨d,e⟩ A h
  rw[Z1x]at h
  try dsimp only at h
  refine AW.st (seq ?_)
  refine R [0,3,4,17] ?_
  refine iz h (λh=>?_) λh=>?_
  ·refine skip (block ?_)
   refine R [0,3,4,5] ?_
   refine seq (block ?_)
   refine Lp h (λf=>⟨sl [(0,.ref 0 0),(3,.ref 1 0),(4,ai d),(5,ai f)],56,[.prn 5 e 51 9 (List.map Redir.pv a),V2 w1]⟩) ?_
   clear h
   rintro f C h
   rw[Z4s]at h
   try dsimp only at h
   obtain⟨y,i,h⟩:=oc h λ_ q=>Q8n (Q0d q)
   obtain⟨z,j,h⟩:=oc h λ_ q=>Q8n (Q0d q)
   refine AW.st (seq ?_)
   refine seq (dreg mixed hS (ordp hpf (by kernel_rfl)) [(0,.ref 0 0),(3,.ref 1 0),(4,ai d),(5,ai f),(34,ab (decide (f<(w1.text_.length:Int))&&decide (y=z)))] [.prn 5 e 51 9 (List.map Redir.pv a),V2 w1] ?_ ?_)
   ·clear h hk hS hX c
    exact dh1 (an i.1 (an i.2.1 (an i.2.2 (an j.1 (an j.2.1 j.2.2)))))
   refine iz h (λh=>?_) λh=>?_
   ·refine skip (block ?_)
    refine G [0,3,4,5] ?_
    exact nx h
   obtain⟨D,b,h⟩:=oc h λ_=>Q1l
   try simp only[NRM,Int.reduceToNat]at b
   have p:=b.2.2.2.2
   try simp only[NRM,Int.reduceToNat]at p
   have t:=b.2.2.1
   try simp only[NRM,Int.reduceToNat]at t
   refine exit (seq ?_)
   refine rg hS [0,3,4,5,6] (di1 (an b.1 (an b.2.1 (an t (an b.2.2.2.1 p))))) ?_
   obtain⟨E,l,h⟩:=oc h λ_=>Q6h
   refine seq (seq ?_)
   refine rg hS [0,3,5,6,46] (di1 (an l.1 (an l.2.1 l.2.2))) ?_
   refine ik h (λh=>?_) λh=>?_
   ·obtain⟨F,g,h⟩:=oc h (Zt3 hk 1 rfl)
    replace g:=ca g
    try simp only[PVE]at g
    obtain⟨H,m,h⟩:=oc h λ_=>Z3a
    try simp only[LNS,G1z,Nat.reduceAdd,Nat.reduceLeDiff,G3m,Nat.reduceMul]at m
    obtain⟨I,n,h⟩:=oc h λ_=>Z3a
    try simp only[LNS,G1z,Nat.reduceAdd,Nat.reduceLeDiff,G3m,Nat.reduceMul]at n
    refine rg hS [0,3,5,6] (di1 (an g (an m.1 (an m.2 (an n.1 n.2))))) ?_
    refine seq (Ua1 h [0,3,5] (Z3 hk 0 rfl) λJ h=>?_)
    refine G [0,3,4] ?_
    exact nx h
   refine seq (Ua1 h [0,3,5] (Z3 hk 0 rfl) λK h=>?_)
   refine G [0,3,4] ?_
   exact nx h
  exact ex h
 refine R [0,3,9] ?_
 refine ik h (λh=>?_) λh=>?_
 ·refine Ua1 h [0,3] (Z3 hk 0 rfl) λL h=>?_
  exact jn h
 exact jn h
theorem V8r{w152:Y2}(c:AllG env [S103,S152 w152]):Q0c env (S191 w152):=by
 refine hd c (fnq func191) 37 λO X hS hX hpf hk ⟨j,a,b,d,l,m⟩=>λr (h:F191 w152 j a b d l m=some r)=>gs ?_
 rw[F191]at h
 refine seq (Ua1 h [0,2,3,4] (Z3 hk 0 rfl) λn h=>?_)
 refine seq (R [0,3,4,16,17,18] ?_)
 refine block (Lp h (λ(e,f,g)=>⟨sl [(0,.ref 0 0),(3,as_ b),(4,as_ d),(16,vWo a),(17,ai (a.length:Int)),(18,ai e)],37,[.prn 5 f 51 9 (List.map Redir.pv g)]⟩) ?_)
 clear h
 rintro⟨e,f,g⟩ o h
 rw[Z4q]at h
 try dsimp only at h
 refine AW.st (R [0,3,4,16,17,18,19] ?_)
 refine seq (iz h (λh=>?_) λh=>?_)
 ·obtain⟨p,i,h⟩:=oc h λ_=>Q0m
  refine skip (seq ?_)
  refine block (seq ?_)
  refine rg hS [0,3,4,10,11,16,17,18] (di1 (an i.1 i.2.1)) ?_
  refine seq (R [0,3,4,11,16,17,18,24] ?_)
  refine ik h (λh=>?_) λh=>?_
  ·refine Ua1 h [0,3,4,11,16,17,18] (Z3 hk 0 rfl) λq h=>?_
   refine Ua2 h [0,3,4,16,17,18] (Z3 hk 1 rfl) λt u h=>?_
   refine G [0,3,4,16,17,18] ?_
   exact nx h
  refine Ua2 h [0,3,4,16,17,18] (Z3 hk 1 rfl) λx y h=>?_
  refine G [0,3,4,16,17,18] ?_
  exact nx h
 refine exit (Ua1 h [] (Z3 hk 0 rfl) λz h=>?_)
 cases h
 exact fin
theorem V9i{w66:Y5}{w152:Y2}(c:AllG env [S190,S103,S191 w152,S104 w66]):Q0c env (S152 (F152 w66 w152)):=by
 refine hd c (fnq func152) 54 λO X hS hX hpf hk ⟨w1,a,b⟩=>λr (h:F152 w66 w152 w1 a b=some r)=>gs ?_
 rw[F152]at h
 refine R [0,3] ?_
 refine R [0,3,5] ?_
 refine block (R [0,3,5,6] ?_)
 refine iz h (λh=>?_) λh=>?_
 ·refine Ua1 h [] (Z3 hk 0 rfl) λd h=>?_
  cases h
  exact fin
 refine R [0,3,5,11] ?_
 refine iz h (λh=>?_) λh=>?_
 ·refine Ua1 h [] (Z3 hk 1 rfl) λe h=>?_
  cases h
  exact fin
 refine R [0,3,5,18] ?_
 refine iz h (λh=>?_) λh=>?_
 ·refine Ua1 h [] (Z3 hk 1 rfl) λf h=>?_
  cases h
  exact fin
 refine R [0,3,5,25] ?_
 refine iz h (λh=>?_) λh=>?_
 ·refine seq (Ua1 h [0,3] (Z3 hk 1 rfl) λg h=>?_)
  refine Ua2 h [] (Z6 hk 2 rfl) λi j h=>?_
  cases h
  exact fin
 refine R [0,3,5,36] ?_
 refine iz h (λh=>?_) λh=>?_
 ·refine Ua2 h [] (Z6 hk 2 rfl) λl m h=>?_
  cases h
  exact fin
 refine R [0,3,5,42] ?_
 refine iz h (λh=>?_) λh=>?_
 ·refine Ua2 h [] (Z6 hk 2 rfl) λn o h=>?_
  cases h
  exact fin
 refine R [0,3,48] ?_
 refine ik h (λh=>?_) λh=>?_
 ·refine Ua2 h [] (Z5 hk 3 rfl) λp q h=>?_
  cases h
  exact fin
 cases h
 exact fin
theorem Y7n(c:AllG env [S13,S35 (K66 BIG),S36]):Q0c env S17:=by
 refine hd c (fnq func17) 12 ?_
 rintro O X hS hX hpf hk (a:(List Cmd)) (r:Str×Int) (h:F17 a=some r)
 refine gs ?_
 rw[F17]at h
 refine R [0] ?_
 refine seq (seq ?_)
 refine Ua1 h [0,7] (Zt hk 0 13 a) λi h=>?_
 refine ik h (λh=>?_) λh=>?_
 ·exact Rt h [2,3]
 refine seq ?_
 apply rg hS [0,4]
 ·simp -implicitDefEqProofs only[RUNS,Q1j,Nat.reduceAdd,Nat.reduceLeDiff,Nat.reduceSub,reduceIte,Nat.reduceEqDiff,Nat.reduceLT,reduceCtorEq,Nat.reduceMul,Nat.reduceBEq,Int.reduceEq,Int.reduceToNat,G2g,G2p,if_true,G2v,eq_self,ne_eq,Q6k,Q4o,Q4q,TYS,K7o];exact⟨rfl,rfl⟩
 obtain⟨⟨e,f⟩,g,h⟩:=obs h
 dsimp only at h
 have b:=hk 1 35 rfl
 replace b:=b.ret (a,([]:Str),(([]:List Redir):List Redir)) g rfl rfl
 try simp only[PVE]at b
 have d:Q4u O [.prn 5 [] 51 9 (List.map Redir.pv ([]:List Redir))] 35 [.ref 0 0,vC a]=some (Q6w [],[.prn 5 e 51 9 (List.map Redir.pv f)]):=Z2y rfl rfl rfl b rfl rfl rfl
 try simp only[G0z,G3q]at d
 refine seq (rg hS [4] (di1 (ap0 35 hpf d)) ?_)
 refine seq (Ua1 h [2,3] (Z2 hk 2 rfl) λj h=>?_)
 exact Rf h
theorem g_F7(c:AllG env [S8,S15 (K15 BIG),S13,S17]):Q0c env (S7 F7):=by
 refine hd c (fnq func7) 71 ?_
 rintro O X hS hX hpf hk ⟨⟩ r h
 replace h:=(S7_F F7).symm.trans h
 have j:O.pf 15=true:=pft hpf 15 rfl
 refine gs ?_
 refine R [] ?_
 refine seq (Ua3 h [1,2,3] (Zt hk 0 8 ([105,102,40,126,32,36,120,32,97,41,123,101,99,104,111,32,39,98,32,99,39,125]:Str)) λa l m h=>?_)
 obtain⟨i,b,h⟩:=oc h λ_ q=>Q8v (Q0d q)
 try simp only[NRM,Int.reduceToNat]at b
 obtain⟨n,d,h⟩:=obs h
 have e:=hk 1 15 rfl
 replace d:=Q0d d
 replace e:=λf=>e.ret a (d f) rfl rfl
 obtain⟨o,g,h⟩:=obs h
 replace g:=Q0d g
 have p:=λf=>(hk 2 13 rfl).ret a (g f) rfl rfl
 refine seq (seq ?_)
 refine reg hS [(1,vC a),(48,ab ((((((!decide (m=0)||!decide (l=0))||!decide ((a.length:Int)=1))||!decide (i.kind_=8))||!decide ((i.kids_.length:Int)=2))||!decide (n=9))||!o))] [] ?_ ?_
 ·clear h hk hS hX c
  exact dh1 (an b.1 (an b.2.1 (an j (an e (ap1 13 hpf p)))))
 refine ik h (λh=>?_) λh=>?_
 ·exact Rt h [0]
 refine seq (seq ?_)
 refine Ua3 h [1,5,6] (Zt hk 0 8 ([97,32,124,32,124,32,98]:Str)) λz t u h=>?_
 refine seq (reg hS [(1,vC a),(59,ab (!decide (t=4)||!decide (u=47)))] [] ?_ ?_)
 ·clear h hk hS hX c
  exact dh
 refine ik h (λh=>?_) λh=>?_
 ·exact Rt h [0]
 refine seq (Ua2 h [3,7] (Zt hk 3 17 a) λx y h=>?_)
 refine seq (reg hS [(0,ab (decide (x=[105,102,40,10,126,32,36,120,32,97,10,41,32,123,10,101,99,104,111,32,39,98,32,99,39,10,125,10])&&decide (y=0)))] [] ?_ ?_)
 ·clear h hk hS hX c
  exact dh
 exact Rf h
end Go.Abs.U48
