import Derived.Test.YtljahlbklgnfhaaGreatDoorD1
set_option linter.unusedVariables false
set_option linter.unusedSimpArgs false
set_option maxRecDepth 8000
set_option maxHeartbeats 4000000
namespace Go.Abs.U48
open Go.RowKit Go.Proofs AW
theorem K9d{i:Y3}{f:Y2}(c:AllG env [S59,S58,S173,S97,S60,S205 f,S177 i]):Q0c env (S202 i f):=by
 refine hd c V3n 122 λO X hS hX hpf hk ⟨a,b,d,j,k,l⟩=>λr (h:F202 i f a b d j k l=some r)=>gs ?_
 rw[F202]at h
 refine R [0,2] ?_
 refine seq (Ua1 h [0,2,3] (Z6 hk 0 rfl) λm h=>?_)
 refine seq (block ?_)
 refine R [0,2,3,8] ?_
 refine iz h (λh=>?_) λh=>?_
 ·refine R [2,3] ?_
  exact Rt h [2]
 refine seq (Ua1 h [0,2,24] (Z7 hk 1 rfl) λJ h=>?_)
 refine iz h (λh=>?_) λh=>?_
 ·refine R [0,2] ?_
  refine seq (Ua4 h [2] (Z6 hk 2 rfl) λK L M N h=>?_)
  exact Rf h
 refine seq (Ua1 h [0,2,37] (Z7 hk 1 rfl) λP h=>?_)
 refine iz h (λh=>?_) λh=>?_
 ·refine R [0,2] ?_
  obtain⟨Q,o,h⟩:=oc h (Z6 hk 0 rfl)
  refine seq (rg hS [0,2,4] (di1 (an (cb o) (cb o))) ?_)
  refine seq (Ua4 h [0,2,4,5] (Z6 hk 2 rfl) λp S T U h=>?_)
  refine seq (seq ?_)
  rcases bs h with⟨g,h⟩|⟨g,h⟩
  ·obtain⟨V,e,h⟩:=oc h (Z7 hk 1 rfl)
   replace e:=cb e
   try simp only[PVE]at e
   rcases bs h with⟨n,h⟩|⟨n,h⟩
   ·obtain⟨W,w,h⟩:=oc h (Z6 hk 0 rfl)
    refine rg hS [0,2,5,73] (di1 (an g (an e (an n (cb w))))) ?_
    refine ik h (λh=>?_) λh=>?_
    ·refine R [0,2,5] ?_
     refine R [0,2,5] ?_
     refine seq (Ua1 h [0,2,5] (Z6 hk 3 rfl) λq h=>?_)
     refine seqJ (α:=Int×Int) (λ(s,t)=>⟨sl [(0,.ref 0 0),(2,.ref 1 0),(5,.ref 3 0)],122,[V27 a b d q s t,V18 0 [] [],V1 m,V19 7 p [] [] []]⟩) (λx=>Q5k f a b d q p x=some r) ?_ ?_
     ·intro⟨s,t⟩ h
      rw[Q5k]at h
      try dsimp only at h
      refine AW.st (Ua4 h [2,5] (Z6 hk 5 rfl) λY aa ac ad h=>?_)
      exact Rt h [2]
     refine seq (Ua1 h [0,2,5,85] (Z7 hk 1 rfl) λae h=>?_)
     refine ik h (λh=>?_) λh=>?_
     ·refine Ua2 h [0,2,5] (Z6 hk 4 rfl) λaf ag h=>?_
      exact jn h
     exact jn h
    exact Rt h [2]
   refine rg hS [0,2,5,73] (di1 (an g (an e n))) ?_
   exact cF (skip (Rt h [2]))
  refine rg hS [0,2,5,73] (di1 g) ?_
  exact cF (skip (Rt h [2]))
 refine seq (Ua1 h [0,2,92] (Z7 hk 1 rfl) λah h=>?_)
 refine iz h (λh=>?_) λh=>?_
 ·refine R [0,2] ?_
  refine seq (Ua4 h [2] (Z6 hk 5 rfl) λaj ak al am h=>?_)
  exact Rf h
 refine seq (Ua1 h [0,2,105] (Z7 hk 1 rfl) λao h=>?_)
 refine ik h (λh=>?_) λh=>?_
 ·refine R [0,2] ?_
  obtain⟨⟨y,z,A,C,D,E,F⟩,H,h⟩:=obs h
  dsimp only at h
  have u:=(hk 6 177 rfl).ret (([123]:Str),([125]:Str),a,b,d,IntKind.wrap .i64 (j+1),k,l) H rfl rfl
  try simp only[PVE]at u
  have I:Q0x O [V27 a b d (IntKind.wrap .i64 (j+1)) k l,V18 0 [] [],V1 m] 177 [.ref 0 0,as_ [123],as_ [125]]=some (Q1c [.agg [ai y,ai z,as_ A,.nils,.nils,vC C]],[V27 a b d D E F,V18 0 [] [],V1 m]):=Q0k rfl rfl rfl u rfl rfl rfl
  refine seq (rg hS [2] (di1 (ap0 177 hpf I)) ?_)
  exact Rf h
 refine seq (Ua2 h [2] (Z6 hk 4 rfl) λaq ar h=>?_)
 exact Rt h [2]
theorem K9p{a:Y3}{b:Y2}(c:AllG env [S202 a b,S58]):Q0c env (S175 (F175 a b)):=by
 refine hd c X9y 36 λO X hS hX hpf hk ⟨d,e,f,t,u,w⟩=>λr (h:F175 a b d e f t u w=some r)=>gs ?_
 rw[F175]at h
 refine R [0,2] ?_
 obtain⟨⟨H,I,J,K⟩,x,h⟩:=oc h (Z6 hk 0 rfl)
 refine seq (rg hS [0,2,3] (di1 (cb x)) ?_)
 refine seq (block ?_)
 refine Lq r (Q5l d e f a b) (λ(o,p,q,l)=>⟨sl [(0,.ref 0 0),(2,.ref 1 0),(3,.vec 2 (List.length l))],36,[V27 d e f o p q,V18 0 [] [],rWo l]⟩) ?_ ?_
 ·refine seq (seq ?_)
  rcases bs h with⟨m,h⟩|⟨m,h⟩
  ·obtain⟨L,g,h⟩:=oc h (Z7 hk 1 rfl)
   replace g:=cb g
   try simp only[PVE]at g
   refine rg hS [0,2,3,15] (di1 (an m g)) ?_
   refine iz h (λh=>?_) λh=>?_
   ·refine skip (block ?_)
    refine R [0,2,3] ?_
    obtain⟨⟨M,y,z,A⟩,C,h⟩:=oc h (Z6 hk 0 rfl)
    replace h:=ap Word.pv h;obtain⟨s,D,h⟩:=h
    refine reg hS [(0,.ref 0 0),(2,.ref 1 0),(3,.vec 2 (List.length s))] [V27 d e f y z A,V18 0 [] [],rWo s] (dk1 (an (cb C) D)) ?_
    exact ny h
   refine exit (seq ?_)
   refine R [2,3,30] ?_
   refine ik h (λh=>?_) λh=>?_
   ·exact Rt h [2]
   exact Rt h [2]
  refine rg hS [0,2,3,15] (di1 m) ?_
  refine cF (exit (seq ?_))
  refine R [2,3,30] ?_
  refine ik h (λh=>?_) λh=>?_
  ·exact Rt h [2]
  exact Rt h [2]
 clear h
 rintro⟨o,p,q,l⟩ N h
 unfold Q5l at h
 try dsimp only at h
 refine AW.st (seq ?_)
 refine seq ?_
 rcases bs h with⟨n,h⟩|⟨n,h⟩
 ·obtain⟨P,i,h⟩:=oc h (Z7 hk 1 rfl)
  replace i:=cb i
  try simp only[PVE]at i
  refine rg hS [0,2,3,15] (di1 (an n i)) ?_
  refine iz h (λh=>?_) λh=>?_
  ·refine skip (block ?_)
   refine R [0,2,3] ?_
   obtain⟨⟨Q,S,T,U⟩,E,h⟩:=oc h (Z6 hk 0 rfl)
   replace h:=ap Word.pv h;obtain⟨V,F,h⟩:=h
   refine rg hS [0,2,3] (di1 (an (cb E) F)) ?_
   exact nx h
  refine exit (seq ?_)
  refine R [2,3,30] ?_
  refine ik h (λh=>?_) λh=>?_
  ·obtain⟨W,j,h⟩:=oc h λ_=>Q0l
   try simp only[NRM,Int.reduceToNat]at j
   refine seq (rg hS [2] (di1 (an j.1 (an j.2.1 j.2.2))) ?_)
   exact Rf h
  exact Rt h [2]
 refine rg hS [0,2,3,15] (di1 n) ?_
 refine cF (exit (seq ?_))
 refine R [2,3,30] ?_
 refine ik h (λh=>?_) λh=>?_
 ·obtain⟨Y,k,h⟩:=oc h λ_=>Q0l
  try simp only[NRM,Int.reduceToNat]at k
  refine seq (rg hS [2] (di1 (an k.1 (an k.2.1 k.2.2))) ?_)
  exact Rf h
 exact Rt h [2]
theorem Y2c(c:AllG env []):Q0c env S34:=by
 refine hd c Y4v 14 ?_
 rintro O X hS hX hpf hk (a:Redir) (r:(List Word)) (h:F34 a=some r)
 refine gs ?_
 rw[F34]at h
 refine R [1] ?_
 refine seq (seq ?_)
 refine reg hS [(1,.ref 0 0),(10,ab (decide (a.kind_=5)||decide (a.kind_=6)))] [V20 a] ?_ ?_
 ·clear h hk hS hX c
  exact dh
 refine ik h (λh=>?_) λh=>?_
 ·exact Rt h [2]
 exact seq (rg hS [2] di (Rf h))
theorem Y2p{b:Y7}{d:Y9}(c:AllG env [S33 d,S16 b,S34]):Q0c env (S16 (F16 b d)):=by
 refine hd c V4l 59 ?_
 rintro O X hS hX hpf hk (e:(List Cmd)) (r:Int) (h:F16 b d e=some r)
 refine gs ?_
 rw[F16]at h
 refine R [0] ?_
 refine R [0,3] ?_
 refine seq (R [0,3,4] ?_)
 refine block (Lp h (λ(f,i4)=>⟨sl [(0,vC e),(3,ai f),(4,ai i4)],59,[]⟩) ?_)
 clear h
 rintro⟨f,i4⟩ s h
 rw[Z9i]at h
 try dsimp only at h
 refine AW.st (seq ?_)
 refine R [0,3,4,11] ?_
 refine iz h (λh=>?_) λh=>?_
 ·refine skip (seq ?_)
  refine block (seq ?_)
  obtain⟨g,a,h⟩:=oc h λ_=>Q0l
  obtain⟨t,l,h⟩:=oc h (Zt hk 0 33 g.words_)
  obtain⟨u,m,h⟩:=oc h (Zt hk 1 16 g.kids_)
  apply dgk mixed hS [0,3,4] (ordp hpf (by kernel_rfl))
  ·exact di1 (an a.1 (an a.2.1 (an (ca l) (ca m))))
  refine R [0,3,4,5] ?_
  refine block (Lp h (λ(i,j)=>⟨sl [(0,vC e),(3,ai i),(4,ai i4),(5,ai j)],59,[]⟩) ?_)
  clear h
  rintro⟨i,j⟩ w h
  rw[J8g]at h
  try dsimp only at h
  refine AW.st (seq ?_)
  refine srg hS [0,3,4,5,43] (di1 (an a.1 a.2.1)) ?_
  refine iz h (λh=>?_) λh=>?_
  ·obtain⟨n,k,h⟩:=oc h λ_=>Q0l
   obtain⟨o,p,h⟩:=oc h (Zt hk 2 34 n)
   obtain⟨x,q,h⟩:=oc h (Zt hk 0 33 o)
   refine skip (seq ?_)
   refine block (rg hS [0,3,4,5] (di1 (an a.1 (an a.2.1 (an k.1 (an k.2.1 (an (ca p) (ca q))))))) ?_)
   refine G [0,3,4,5] ?_
   exact nx h
  refine exit (G [0,3,4] ?_)
  exact nx h
 exact exit (Rt h [2])
theorem Y2d{a:Y7}{b:Y9}(c:AllG env [S33 b,S16 a]):Q0c env (S33 (F33 a b)):=by
 refine hd c V1u 29 ?_
 rintro O X hS hX hpf hk (d:(List Word)) (r:Int) (h:F33 a b d=some r)
 refine gs ?_
 rw[F33]at h
 refine R [0] ?_
 refine R [0,3] ?_
 refine seq (R [0,3,4] ?_)
 refine block (Lp h (λ(e,i4)=>⟨sl [(0,vWo d),(3,ai e),(4,ai i4)],29,[]⟩) ?_)
 clear h
 rintro⟨e,i4⟩ k h
 rw[X5q]at h
 try dsimp only at h
 refine AW.st (seq ?_)
 refine R [0,3,4,10] ?_
 refine iz h (λh=>?_) λh=>?_
 ·refine skip (seq ?_)
  refine block ?_
  obtain⟨f,g,h⟩:=oc h λ_=>Q0l
  obtain⟨l,i,h⟩:=oc h (Zt hk 0 33 f.words_)
  obtain⟨m,j,h⟩:=oc h (Zt hk 1 16 f.cmd_)
  apply dgk mixed hS [0,3,4] (ordp hpf (by kernel_rfl))
  ·exact di1 (an g.1 (an g.2.1 (an (ca i) (ca j))))
  refine G [0,3,4] ?_
  exact nx h
 exact exit (Rt h [2])
theorem Y2i{e:Y7}{f:Y9}(c:AllG env [S61 f,S25 e,S34]):Q0c env (S25 (F25 e f)):=by
 refine hd c V2q 53 ?_
 rintro O X hS hX hpf hk (b:(List Cmd)) (r:Int) (h:F25 e f b=some r)
 refine gs ?_
 rw[F25]at h
 refine R [0] ?_
 refine R [0,3] ?_
 refine seq (R [0,3,4] ?_)
 refine block (Lp h (λ(d,i4)=>⟨sl [(0,vC b),(3,ai d),(4,ai i4)],53,[]⟩) ?_)
 clear h
 rintro⟨d,i4⟩ u h
 rw[Z9d]at h
 try dsimp only at h
 refine AW.st (seq ?_)
 refine R [0,3,4,10] ?_
 refine iz h (λh=>?_) λh=>?_
 ·obtain⟨g,a,h⟩:=oc h λ_=>Q0l
  obtain⟨l,m,h⟩:=oc h (Zt hk 0 61 g.words_)
  obtain⟨n,o,h⟩:=oc h (Zt hk 1 25 g.kids_)
  refine skip (seq ?_)
  refine block (seq ?_)
  refine dreg mixed hS (ordp hpf (by kernel_rfl)) [(0,vC b),(3,ai d),(4,ai i4),(5,ai (imax l n))] [] ?_ ?_
  ·exact dk1 (an a.1 (an a.2.1 (an (ca m) (ca o))))
  refine seq (R [0,3,4,5,6] ?_)
  refine block (Lp h (λ(i,j)=>⟨sl [(0,vC b),(3,ai d),(4,ai i4),(5,ai i),(6,ai j)],53,[]⟩) ?_)
  clear h
  rintro⟨i,j⟩ w h
  rw[J8c]at h
  try dsimp only at h
  refine AW.st (seq ?_)
  refine srg hS [0,3,4,5,6,33] (di1 (an a.1 a.2.1)) ?_
  refine iz h (λh=>?_) λh=>?_
  ·obtain⟨p,k,h⟩:=oc h λ_=>Q0l
   obtain⟨q,s,h⟩:=oc h (Zt hk 2 34 p)
   obtain⟨x,t,h⟩:=oc h (Zt hk 0 61 q)
   refine skip (seq ?_)
   refine block (rg hS [0,3,4,5,6] (di1 (an a.1 (an a.2.1 (an k.1 (an k.2.1 (an (ca s) (ca t))))))) ?_)
   refine G [0,3,4,5,6] ?_
   exact nx h
  refine exit (rg hS [0,3,4] di ?_)
  refine G [0,3,4] ?_
  exact nx h
 exact exit (Rt h [2])
theorem Y1l{a:Y7}{b:Y9}(c:AllG env [S61 b,S25 a]):Q0c env (S61 (F61 a b)):=by
 refine hd c V1r 28 ?_
 rintro O X hS hX hpf hk (d:(List Word)) (r:Int) (h:F61 a b d=some r)
 refine gs ?_
 rw[F61]at h
 refine R [0] ?_
 refine R [0,3] ?_
 refine seq (R [0,3,4] ?_)
 refine block (Lp h (λ(e,i4)=>⟨sl [(0,vWo d),(3,ai e),(4,ai i4)],28,[]⟩) ?_)
 clear h
 rintro⟨e,i4⟩ m h
 rw[X5k]at h
 try dsimp only at h
 refine AW.st (seq ?_)
 refine R [0,3,4,8] ?_
 refine iz h (λh=>?_) λh=>?_
 ·obtain⟨f,g,h⟩:=oc h λ_=>Q0l
  obtain⟨i,j,h⟩:=oc h (Zt hk 0 61 f.words_)
  obtain⟨k,l,h⟩:=oc h (Zt hk 1 25 f.cmd_)
  refine skip (seq ?_)
  refine block (dreg mixed hS (ordp hpf (by kernel_rfl)) [(0,vWo d),(3,ai (imax e (IntKind.wrap .i64 (1+(imax i k))))),(4,ai i4)] [] ?_ ?_)
  ·exact dk1 (an g.1 (an g.2.1 (an (ca j) (ca l))))
  refine G [0,3,4] ?_
  exact nx h
 exact exit (Rt h [2])
theorem g_F9(c:AllG env [S22,S23,S24 (K142 BIG),S16 (K16 BIG),S25 (K25 BIG)]):Q0c env S9:=by
 refine hd c fn_9 51 ?_
 rintro O X hS hX hpf hk (a:Str) (r:(List Cmd)×Int×Int) (h:F9 a=some r)
 have k:O.pf 16=true:=pft hpf 16 rfl
 refine gs ?_
 rw[F9]at h
 refine R [0] ?_
 refine seq (Ua3 h [0,5,6,7] (Zt hk 0 22 a) λi w x h=>?_)
 refine seq (R [0,5,6,7,17] ?_)
 refine ik h (λh=>?_) λh=>?_
 ·exact Rt h [2,3,4]
 refine seq (Ua1 h [8] (Zt2 hk 1 rfl) λj h=>?_)
 obtain⟨⟨b,l,m,n⟩,o,h⟩:=obs h
 dsimp only at h
 have d:=hk 2 24 rfl
 replace d:=d.ret (([]:Str),a,i,j,0,0,0) o rfl rfl
 have p:=Q3j d rfl rfl rfl rfl
 refine seq (rg hS [8,9] (di1 (ap0 24 hpf p)) ?_)
 refine seq (R [8,9,33] ?_)
 refine ik h (λh=>?_) λh=>?_
 ·refine seq ?_
  apply dgk mixed hS [2,3,4] (ordp hpf (by kernel_rfl))
  ·exact di
  exact Rf h
 obtain⟨q,s,h⟩:=obs h
 have e:=hk 3 16 rfl
 replace e:=e.ret b s rfl rfl
 obtain⟨t,f,h⟩:=obs h
 have g:=hk 4 25 rfl
 replace f:=Q0d f
 replace g:=λu=>g.ret b (f u) rfl rfl
 refine seq (seq ?_)
 refine reg hS [(9,vC b),(49,ab (decide (1024<q)||decide (32<t)))] [V27 a i j l m n] ?_ ?_
 ·clear h hk hS hX c
  exact dh1 (an k (an e (ap1 25 hpf g)))
 refine ik h (λh=>?_) λh=>?_
 ·exact Rt h [2,3,4]
 exact Rt h [2,3,4]
end Go.Abs.U48
