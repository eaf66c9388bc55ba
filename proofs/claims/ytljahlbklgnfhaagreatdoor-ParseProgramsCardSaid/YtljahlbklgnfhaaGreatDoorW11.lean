import Derived.Test.YtljahlbklgnfhaaGreatDoorD1
set_option linter.unusedVariables false
set_option linter.unusedSimpArgs false
set_option maxRecDepth 8000
set_option maxHeartbeats 4000000
namespace Go.Abs.U48
open Go.RowKit Go.Proofs AW
theorem K9g(c:AllG env []):Q0c env S187:=by
 refine hd c V3s 29 ?_
 rintro O X hS hX hpf hk (a:Str) (r:Bool) (h:F187 a=some r)
 refine gs ?_
 rw[F187]at h
 refine R [0] ?_
 refine seq (reg hS [(2,ab ((((((decide (a=[105,102])||decide (a=[119,104,105,108,101]))||decide (a=[102,111,114]))||decide (a=[115,119,105,116,99,104]))||decide (a=[99,97,115,101]))||decide (a=[102,110]))||decide (a=[126])))] [] ?_ ?_)
 ·clear h hk hS hX c
  exact dh
 exact Rf h
theorem K9j{n:Y2}(c:AllG env [S178,S179 n,S59,S187,S171,S60,S203,S175 n]):Q0c env (S181 n):=by
 refine hd c V3u 81 λO X hS hX hpf hk ⟨H,i,j,e,f,g,I,J,K,M⟩=>λr (h:F181 n H i j e f g I J K M=some r)=>?_
 have N:O.pf 59=false:=pft hpf 59 rfl
 have P:O.pf 187=true:=pft hpf 187 rfl
 refine gs ?_
 rw[F181]at h
 refine seq (AW.after ?_)
 refine rg hS [0,3,4] di ?_
 refine oC Word.pv 2 3 49 5 ?_
 refine R [0,3,4] ?_
 refine seq (block ?_)
 refine Lp h (λ(k,l,m,a,d)=>⟨sl [(0,.ref 0 0),(3,.ref 2 0),(4,.ref 3 0)],81,[V27 e f g k l m,rRe a,V31 1 i j d.length a.length,V5 0 0 [],rWo d]⟩) ?_
 clear h
 rintro⟨k,l,m,a,d⟩ aq h
 rw[Q1n]at h
 try dsimp only at h
 refine AW.st (seq ?_)
 refine R [0,3,4,10] ?_
 refine iz h (λh=>?_) λh=>?_
 ·refine skip (block ?_)
  refine block (seq ?_)
  refine Ua1 h [0,3,4,12] (Z6 hk 0 rfl) λar h=>?_
  refine iz h (λh=>?_) λh=>?_
  ·obtain⟨⟨D,Q,S,T⟩,U,h⟩:=oc h (Z6 hk 1 rfl)
   replace h:=ap Redir.pv h;obtain⟨o,V,h⟩:=h
   refine dV 15 7 [3,5,7] [(0,0),(0,1),(1,0),(1,1),(2,0),(3,0),(4,1),(5,1),(6,2),(7,2)] [.ref 2 4,.vec 1 (List.length a),.ref 0 0,.pv (V15 D),.full [V15 D],.vec 1 (List.length o),.ref 2 4,.any] [[(0,V27 e f g Q S T)],[(1,rRe o)],[(2,V31 1 i j d.length o.length)]] [0,3,4] (an (cb U) V) ?_
   exact nx h
  refine seq ?_
  rcases bs h with⟨p,h⟩|⟨p,h⟩
  ·obtain⟨q,W,h⟩:=obs h
   have s:=(hk 2 59 rfl).ret (e,f,g,k,l,m) W rfl rfl
   have Y:=Q3j s rfl rfl rfl rfl
   have aa:=Q3j s rfl rfl rfl rfl
   obtain⟨ac,t,h⟩:=obs h
   replace t:=Q0d t
   have ad:=λu=>(hk 3 187 rfl).ret q.text_ (t u) rfl rfl
   have ae:=Q3j s rfl rfl rfl rfl
   obtain⟨w,x,h⟩:=obs h
   replace x:=Q0d x
   have y:=λu=>(hk 4 171 rfl).ret q.quoted_ (x u) rfl rfl
   refine reg hS [(0,.ref 0 0),(3,.ref 2 0),(4,.ref 3 0),(22,ab ((decide (q.kind_=1)&&ac)&&!w))] [V27 e f g k l m,rRe a,V31 1 i j d.length a.length,V5 0 0 [],rWo d] ?_ ?_
   ·clear h hk hS hX c
    exact dh1 (an p (an N (an Y (an aa (an P (an ad (an ae (ap1 171 hpf y))))))))
   refine iz h (λh=>?_) λh=>?_
   ·refine seqM ⟨sl [(0,.ref 0 0),(3,.ref 2 0),(4,.ref 3 0)],81,[V27 e f g (bif decide ((a.length:Int)=0)then IntKind.wrap .i64 (k+1)else k) l m,rRe a,V31 1 i j d.length a.length,V5 0 0 [],rWo d]⟩ ?_ ?_
    ·refine R [0,3,4,49] ?_
     refine cond (b:=decide ((a.length:Int)=0)) rfl (λz=>?_) (λz=>?_)
     ·refine G [0,3,4] ?_
      exact Weak.of_eq (Weak.slots (L:=[(0,.ref 0 0),(3,.ref 2 0),(4,.ref 3 0)]) kp) (wq z)
     exact skip (Weak.of_eq (Weak.slots (L:=[(0,.ref 0 0),(3,.ref 2 0),(4,.ref 3 0)]) kp) (wq z))
    refine Ua2 h [0,3,4] (Z6 hk 5 rfl) λau av h=>?_
    exact nx h
   refine seq (Ua1 h [0,3,4,59] (Z6 hk 6 rfl) λaw h=>?_)
   refine iz h (λh=>?_) λh=>?_
   ·obtain⟨⟨E,af,ag,ah⟩,aj,h⟩:=oc h (Z6 hk 7 rfl)
    replace h:=ap Word.pv h;obtain⟨A,ak,h⟩:=h
    refine dV 62 7 [3,5,7] [(0,0),(0,1),(1,0),(1,1),(2,0),(3,0),(4,1),(5,1),(6,2),(7,2)] [.ref 2 3,.vec 4 (List.length d),.ref 0 0,.pv (V14 E),.full [V14 E],.vec 4 (List.length A),.ref 2 3,.any] [[(0,V27 e f g af ag ah)],[(4,rWo A)],[(2,V31 1 i j A.length a.length)]] [0,3,4] (an (cb aj) ak) ?_
    exact nx h
   refine R [0,3,4,69] ?_
   refine iz h (λh=>?_) λh=>?_
   ·refine Ua2 h [0,3,4] (Z6 hk 5 rfl) λax ay h=>?_
    exact nx h
   exact Rt h [4]
  refine rg hS [0,3,4,22] (di1 p) ?_
  refine cF (seq (Ua1 h [0,3,4,59] (Z6 hk 6 rfl) λaz h=>?_))
  refine iz h (λh=>?_) λh=>?_
  ·obtain⟨⟨F,al,am,w⟩,y,h⟩:=oc h (Z6 hk 7 rfl)
   replace h:=ap Word.pv h;obtain⟨C,ao,h⟩:=h
   refine dV 62 7 [3,5,7] [(0,0),(0,1),(1,0),(1,1),(2,0),(3,0),(4,1),(5,1),(6,2),(7,2)] [.ref 2 3,.vec 4 (List.length d),.ref 0 0,.pv (V14 F),.full [V14 F],.vec 4 (List.length C),.ref 2 3,.any] [[(0,V27 e f g al am w)],[(4,rWo C)],[(2,V31 1 i j C.length a.length)]] [0,3,4] (an (cb y) ao) ?_
   exact nx h
  refine R [0,3,4,69] ?_
  refine iz h (λh=>?_) λh=>?_
  ·refine Ua2 h [0,3,4] (Z6 hk 5 rfl) λaA aB h=>?_
   exact nx h
  exact Rt h [4]
 exact exit (Rt h [4])
theorem V0d{s:Y3}{t:Y2}(c:AllG env [S59,S141,S173,S174,S175 t,S176,S142 s,S58,S177 s,S178,S179 t,S140,S180 s t,S181 t]):Q0c env (S142 (F142 s t)):=by
 refine hd c X9z 113 λO X hS hX hpf hk ⟨d,e,f,g,i,j⟩=>λr (h:F142 s t d e f g i j=some r)=>?_
 have Q:O.pf 58=false:=pft hpf 58 rfl
 refine gs ?_
 rw[F142]at h
 refine R [0,2] ?_
 obtain⟨a,aq,h⟩:=oc h (Z6 hk 0 rfl)
 refine seq (AW.after ?_)
 refine rg hS [0,2,3] (di1 (cb aq)) ?_
 refine oC Redir.pv 2 4 51 9 ?_
 refine seq (block ?_)
 refine R [0,2,3,11] ?_
 refine iz h (λh=>?_) λh=>?_
 ·exact skip (Rt h [2])
 refine seq (Ua1 h [0,2,3,17] (Z6 hk 1 rfl) λbn h=>?_)
 refine iz h (λh=>?_) λh=>?_
 ·refine R [0,2,3] ?_
  refine seq (Ua4 h [0,2,3] (Z6 hk 2 rfl) λbo bp bq br h=>?_)
  refine seq (Ua3 h [0,2,3] (Z7 hk 3 rfl) λbt bu bv h=>?_)
  obtain⟨⟨bw,bx,bz,bA⟩,ar,h⟩:=oc h (Z6 hk 4 rfl)
  refine seq (rg hS [0,2,3] (di1 (cb ar)) ?_)
  refine seq ?_
  rcases bs h with⟨C,h⟩|⟨C,h⟩
  ·obtain⟨bB,au,h⟩:=oc h (Z6 hk 5 rfl)
   refine rg hS [0,2,3,38] (di1 (an C (cb au))) ?_
   refine ik h (λh=>?_) λh=>?_
   ·obtain⟨⟨bD,bE,bF,bG⟩,av,h⟩:=oc h (Z6 hk 6 rfl)
    refine rg hS [2,3] (di1 (cb av)) ?_
    exact Rt h [2]
   exact Rt h [2]
  refine rg hS [0,2,3,38] (di1 C) ?_
  exact cF (skip (Rt h [2]))
 obtain⟨bH,w,h⟩:=oc h (Z7 hk 7 rfl)
 replace w:=cb w
 try simp only[PVE]at w
 refine seq ?_
 rcases bs h with⟨D,h⟩|⟨D,h⟩
 ·refine rg hS [0,2,3,43] (di1 (an Q (an w D))) ?_
  refine cond (b:=true) rfl (λ_=>?_) (λhb=>absurd hb (by decide))
  refine R [0,2,3] ?_
  refine seqJ (α:=Int) (λS=>⟨sl [(0,.ref 0 0),(2,.ref 1 0),(3,.ref 2 0)],113,[V27 d e f g i j,V5 0 0 [],V32 S a.at_ [] (List.length ([]:List Redir)),.row 51 9 (List.map Redir.pv ([]:List Redir)) true]⟩) (λx=>Z7n s d e f g i j a x=some r) ?_ ?_
  ·intro S h
   rw[Z7n]at h
   try dsimp only at h
   refine AW.st (R [0,2,3] ?_)
   obtain⟨⟨bI,bJ,bK,bL⟩,aw,h⟩:=oc h (Z6 hk 6 rfl)
   refine rg hS [2,3] (di1 (cb aw)) ?_
   exact Rt h [2]
  refine seq (Ua1 h [0,2,3,52] (Z7 hk 7 rfl) λax h=>?_)
  refine ik h (λh=>?_) λh=>?_
  ·refine G [0,2,3] ?_
   exact jn h
  exact jn h
 obtain⟨T,ay,h⟩:=obs h
 have E:=(hk 7 58 rfl).ret (([64]:Str),d,e,f,g,i,j) ay rfl rfl
 try simp only[PVE]at E
 have az:=Q3j E rfl rfl rfl rfl
 refine rg hS [0,2,3,43] (di1 (an Q (an w (an D az)))) ?_
 refine iz h (λh=>?_) λh=>?_
 ·refine R [0,2,3] ?_
  refine seqM ⟨sl [(0,.ref 0 0),(2,.ref 1 0),(3,.ref 2 0)],113,[V27 d e f g i j,V5 0 0 [],V32 (bif T then 13 else 7) a.at_ [] (List.length ([]:List Redir)),.row 51 9 (List.map Redir.pv ([]:List Redir)) true]⟩ ?_ ?_
  ·have aA:=Q3j E rfl rfl rfl rfl
   refine seq (rg hS [0,2,3,52] (di1 (ap0 58 hpf aA)) ?_)
   refine cond (b:=T) rfl (λF=>?_) (λF=>?_)
   ·refine G [0,2,3] ?_
    exact Weak.of_eq (Weak.slots (L:=[(0,.ref 0 0),(2,.ref 1 0),(3,.ref 2 0)]) kp) (wq F)
   exact skip (Weak.of_eq (Weak.slots (L:=[(0,.ref 0 0),(2,.ref 1 0),(3,.ref 2 0)]) kp) (wq F))
  refine R [0,2,3] ?_
  obtain⟨⟨bM,bN,ax,bO⟩,aB,h⟩:=oc h (Z6 hk 6 rfl)
  refine rg hS [2,3] (di1 (cb aB)) ?_
  exact Rt h [2]
 refine seq (Ua1 h [0,2,3,65] (Z7 hk 7 rfl) λbP h=>?_)
 refine iz h (λh=>?_) λh=>?_
 ·obtain⟨⟨H,I,J,K,aC,aD,aE⟩,aF,h⟩:=obs h
  dsimp only at h
  have U:=(hk 8 177 rfl).ret (([123]:Str),([125]:Str),d,e,f,g,i,j) aF rfl rfl
  try simp only[PVE]at U
  have V:Q0x O [V27 d e f g i j,V5 0 0 [],V32 0 a.at_ [] (List.length ([]:List Redir)),.row 51 9 (List.map Redir.pv ([]:List Redir)) true] 177 [.ref 0 0,as_ [123],as_ [125]]=some (Q1c [.agg [ai H,ai I,as_ J,.nils,.nils,vC K]],[V27 d e f aC aD aE,V5 0 0 [],V32 0 a.at_ [] (List.length ([]:List Redir)),.row 51 9 (List.map Redir.pv ([]:List Redir)) true]):=Q0k rfl rfl rfl U rfl rfl rfl
  try simp only[G0j,G2h]at V
  refine seq (AW.after ?_)
  refine rg hS [0,2,3] (di1 (ap0 177 hpf V)) ?_
  refine oC Redir.pv 2 4 51 9 ?_
  refine block (Lp h (λ(W,Y,aa,z)=>⟨sl [(0,.ref 0 0),(2,.ref 1 0),(3,.ref 2 0)],113,[V27 d e f W Y aa,V5 0 0 [],V33 H I J z.length K,.row 51 9 (List.map Redir.pv ([]:List Redir)) true,rRe z]⟩) ?_)
  clear h
  rintro⟨W,Y,aa,z⟩ bQ h
  rw[Q5m]at h
  try dsimp only at h
  refine AW.st (seq ?_)
  refine seq ?_
  rcases bs h with⟨M,h⟩|⟨M,h⟩
  ·obtain⟨bS,aG,h⟩:=oc h (Z6 hk 9 rfl)
   refine rg hS [0,2,3,78] (di1 (an M (cb aG))) ?_
   refine iz h (λh=>?_) λh=>?_
   ·obtain⟨⟨ac,aH,aI,aJ⟩,aK,h⟩:=oc h (Z6 hk 10 rfl)
    replace h:=ap Redir.pv h;obtain⟨N,aL,h⟩:=h
    refine skip (block ?_)
    refine dV 79 7 [3,5,7] [(0,0),(0,1),(1,0),(1,1),(2,0),(3,0),(4,1),(5,1),(6,2),(7,2)] [.ref 2 4,.vec 4 (List.length z),.ref 0 0,.pv (V15 ac),.full [V15 ac],.vec 4 (List.length N),.ref 2 4,.any] [[(0,V27 d e f aH aI aJ)],[(4,rRe N)],[(2,V33 H I J N.length K)]] [0,2,3] (an (cb aK) aL) ?_
    exact nx h
   exact exit (Rt h [2])
  refine rg hS [0,2,3,78] (di1 M) ?_
  exact cF (exit (Rt h [2]))
 obtain⟨bT,l,h⟩:=oc h (Z7 hk 11 rfl)
 replace l:=cb l
 try simp only[PVE]at l
 refine seq ?_
 rcases bs h with⟨p,h⟩|⟨p,h⟩
 ·refine rg hS [0,2,3,86] (di1 (an l p)) ?_
  refine cond (b:=true) rfl (λ_=>?_) (λhb=>absurd hb (by decide))
  obtain⟨⟨aM,aN,aO,aP⟩,aQ,h⟩:=obs h
  dsimp only at h
  have k:=(hk 12 180 rfl).ret (0,a.at_,([]:Str),d,e,f,g,i,j,(([]:List Redir):List Redir)) aQ rfl rfl
  try simp only[PVE]at k
  have ad:Q0x O [V27 d e f g i j,V5 0 0 [],V32 0 a.at_ [] (List.length ([]:List Redir)),.row 51 9 (List.map Redir.pv ([]:List Redir)) true] 180 [.ref 0 0,.agg [ai 0,ai a.at_,as_ [],.nils,.vec 3 (List.length ([]:List Redir)),.nils]]=some (Q1c [.pv (V7 aM)],[V27 d e f aN aO aP,V5 0 0 [],V32 0 a.at_ [] (List.length ([]:List Redir)),.row 51 9 (List.map Redir.pv ([]:List Redir)) true]):=Q0k rfl rfl rfl k rfl rfl rfl
  try simp only[G0j,G2h]at ad
  refine seq (rg hS [2] (di1 (ap0 180 hpf ad)) ?_)
  exact Rf h
 obtain⟨bU,n,h⟩:=oc h (Z7 hk 11 rfl)
 replace n:=cb n
 try simp only[PVE]at n
 rcases bs h with⟨u,h⟩|⟨u,h⟩
 ·refine rg hS [0,2,3,86] (di1 (an l (an p (an n u)))) ?_
  refine cond (b:=true) rfl (λ_=>?_) (λhb=>absurd hb (by decide))
  obtain⟨⟨aR,aS,aT,aU⟩,aV,h⟩:=obs h
  dsimp only at h
  have m:=(hk 12 180 rfl).ret (0,a.at_,([]:Str),d,e,f,g,i,j,(([]:List Redir):List Redir)) aV rfl rfl
  try simp only[PVE]at m
  have ae:Q0x O [V27 d e f g i j,V5 0 0 [],V32 0 a.at_ [] (List.length ([]:List Redir)),.row 51 9 (List.map Redir.pv ([]:List Redir)) true] 180 [.ref 0 0,.agg [ai 0,ai a.at_,as_ [],.nils,.vec 3 (List.length ([]:List Redir)),.nils]]=some (Q1c [.pv (V7 aR)],[V27 d e f aS aT aU,V5 0 0 [],V32 0 a.at_ [] (List.length ([]:List Redir)),.row 51 9 (List.map Redir.pv ([]:List Redir)) true]):=Q0k rfl rfl rfl m rfl rfl rfl
  try simp only[G0j,G2h]at ae
  refine seq (rg hS [2] (di1 (ap0 180 hpf ae)) ?_)
  exact Rf h
 obtain⟨bV,k,h⟩:=oc h (Z7 hk 11 rfl)
 replace k:=cb k
 try simp only[PVE]at k
 rcases bs h with⟨y,h⟩|⟨y,h⟩
 ·refine rg hS [0,2,3,86] (di1 (an l (an p (an n (an u (an k y)))))) ?_
  refine cond (b:=true) rfl (λ_=>?_) (λhb=>absurd hb (by decide))
  obtain⟨⟨aW,aX,aY,aZ⟩,a0,h⟩:=obs h
  dsimp only at h
  have o:=(hk 12 180 rfl).ret (0,a.at_,([]:Str),d,e,f,g,i,j,(([]:List Redir):List Redir)) a0 rfl rfl
  try simp only[PVE]at o
  have af:Q0x O [V27 d e f g i j,V5 0 0 [],V32 0 a.at_ [] (List.length ([]:List Redir)),.row 51 9 (List.map Redir.pv ([]:List Redir)) true] 180 [.ref 0 0,.agg [ai 0,ai a.at_,as_ [],.nils,.vec 3 (List.length ([]:List Redir)),.nils]]=some (Q1c [.pv (V7 aW)],[V27 d e f aX aY aZ,V5 0 0 [],V32 0 a.at_ [] (List.length ([]:List Redir)),.row 51 9 (List.map Redir.pv ([]:List Redir)) true]):=Q0k rfl rfl rfl o rfl rfl rfl
  try simp only[G0j,G2h]at af
  refine seq (rg hS [2] (di1 (ap0 180 hpf af)) ?_)
  exact Rf h
 obtain⟨bX,m,h⟩:=oc h (Z7 hk 11 rfl)
 replace m:=cb m
 try simp only[PVE]at m
 rcases bs h with⟨A,h⟩|⟨A,h⟩
 ·refine rg hS [0,2,3,86] (di1 (an l (an p (an n (an u (an k (an y (an m A)))))))) ?_
  refine cond (b:=true) rfl (λ_=>?_) (λhb=>absurd hb (by decide))
  obtain⟨⟨a1,a2,a3,a4⟩,a5,h⟩:=obs h
  dsimp only at h
  have q:=(hk 12 180 rfl).ret (0,a.at_,([]:Str),d,e,f,g,i,j,(([]:List Redir):List Redir)) a5 rfl rfl
  try simp only[PVE]at q
  have ag:Q0x O [V27 d e f g i j,V5 0 0 [],V32 0 a.at_ [] (List.length ([]:List Redir)),.row 51 9 (List.map Redir.pv ([]:List Redir)) true] 180 [.ref 0 0,.agg [ai 0,ai a.at_,as_ [],.nils,.vec 3 (List.length ([]:List Redir)),.nils]]=some (Q1c [.pv (V7 a1)],[V27 d e f a2 a3 a4,V5 0 0 [],V32 0 a.at_ [] (List.length ([]:List Redir)),.row 51 9 (List.map Redir.pv ([]:List Redir)) true]):=Q0k rfl rfl rfl q rfl rfl rfl
  try simp only[G0j,G2h]at ag
  refine seq (rg hS [2] (di1 (ap0 180 hpf ag)) ?_)
  exact Rf h
 obtain⟨bY,o,h⟩:=oc h (Z7 hk 11 rfl)
 replace o:=cb o
 try simp only[PVE]at o
 rcases bs h with⟨P,h⟩|⟨P,h⟩
 ·refine rg hS [0,2,3,86] (di1 (an l (an p (an n (an u (an k (an y (an m (an A (an o P)))))))))) ?_
  refine cond (b:=true) rfl (λ_=>?_) (λhb=>absurd hb (by decide))
  obtain⟨⟨a6,a7,a8,a9⟩,ba,h⟩:=obs h
  dsimp only at h
  have ah:=(hk 12 180 rfl).ret (0,a.at_,([]:Str),d,e,f,g,i,j,(([]:List Redir):List Redir)) ba rfl rfl
  try simp only[PVE]at ah
  have aj:Q0x O [V27 d e f g i j,V5 0 0 [],V32 0 a.at_ [] (List.length ([]:List Redir)),.row 51 9 (List.map Redir.pv ([]:List Redir)) true] 180 [.ref 0 0,.agg [ai 0,ai a.at_,as_ [],.nils,.vec 3 (List.length ([]:List Redir)),.nils]]=some (Q1c [.pv (V7 a6)],[V27 d e f a7 a8 a9,V5 0 0 [],V32 0 a.at_ [] (List.length ([]:List Redir)),.row 51 9 (List.map Redir.pv ([]:List Redir)) true]):=Q0k rfl rfl rfl ah rfl rfl rfl
  try simp only[G0j,G2h]at aj
  refine seq (rg hS [2] (di1 (ap0 180 hpf aj)) ?_)
  exact Rf h
 obtain⟨bZ,q,h⟩:=oc h (Z7 hk 11 rfl)
 replace q:=cb q
 try simp only[PVE]at q
 refine rg hS [0,2,3,86] (di1 (an l (an p (an n (an u (an k (an y (an m (an A (an o (an P q))))))))))) ?_
 refine iz h (λh=>?_) λh=>?_
 ·obtain⟨⟨bb,bc,be,bf⟩,bg,h⟩:=obs h
  dsimp only at h
  have ak:=(hk 12 180 rfl).ret (0,a.at_,([]:Str),d,e,f,g,i,j,(([]:List Redir):List Redir)) bg rfl rfl
  try simp only[PVE]at ak
  have al:Q0x O [V27 d e f g i j,V5 0 0 [],V32 0 a.at_ [] (List.length ([]:List Redir)),.row 51 9 (List.map Redir.pv ([]:List Redir)) true] 180 [.ref 0 0,.agg [ai 0,ai a.at_,as_ [],.nils,.vec 3 (List.length ([]:List Redir)),.nils]]=some (Q1c [.pv (V7 bb)],[V27 d e f bc be bf,V5 0 0 [],V32 0 a.at_ [] (List.length ([]:List Redir)),.row 51 9 (List.map Redir.pv ([]:List Redir)) true]):=Q0k rfl rfl rfl ak rfl rfl rfl
  try simp only[G0j,G2h]at al
  refine seq (rg hS [2] (di1 (ap0 180 hpf al)) ?_)
  exact Rf h
 obtain⟨⟨bh,bi,bj,bk,bl⟩,bm,h⟩:=obs h
 dsimp only at h
 have am:=(hk 13 181 rfl).ret (0,a.at_,([]:Str),d,e,f,g,i,j,(([]:List Redir):List Redir)) bm rfl rfl
 try simp only[PVE]at am
 have ao:Q0x O [V27 d e f g i j,V5 0 0 [],V32 0 a.at_ [] (List.length ([]:List Redir)),.row 51 9 (List.map Redir.pv ([]:List Redir)) true] 181 [.ref 0 0,.agg [ai 0,ai a.at_,as_ [],.nils,.vec 3 (List.length ([]:List Redir)),.nils]]=some (Q1c [.pv (V7 bh)],[V27 d e f bi bj bk,V5 0 0 [],V32 0 a.at_ [] (List.length ([]:List Redir)),rRe bl]):=Q0k rfl rfl rfl am rfl rfl rfl
 try simp only[G0j,G2h]at ao
 refine seq (rg hS [2] (di1 (ap0 181 hpf ao)) ?_)
 exact Rf h
end Go.Abs.U48
