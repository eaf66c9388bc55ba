import Derived.Test.YtljahlbklgnfhaaGreatDoorD1
set_option linter.unusedVariables false
set_option linter.unusedSimpArgs false
set_option maxRecDepth 8000
set_option maxHeartbeats 4000000
namespace Go.Abs.U48
open Go.RowKit Go.Proofs AW
open Go.Proofs.Tryz
theorem V6u{w66:Y5}(c:AllG env [S66 w66,S67]):Q0c env (S35 w66):=by
 refine hd c (fnq func35) 18 λO X hS hX hpf hk ⟨a,g,i⟩=>λr (h:F35 w66 a g i=some r)=>gs ?_
 rw[F35]at h
 refine R [0,6,7,8] ?_
 refine block (Lp h (λ(b,d,e)=>⟨sl [(0,.ref 0 0),(6,vC a),(7,ai (a.length:Int)),(8,ai b)],18,[.prn 5 d 51 9 (List.map Redir.pv e)]⟩) ?_)
 clear h
 rintro⟨b,d,e⟩ j h
 rw[X3g]at h
 try dsimp only at h
 refine AW.st (R [0,6,7,8,9] ?_)
 refine seq (iz h (λh=>?_) λh=>?_)
 ·obtain⟨l,f,h⟩:=oc h λ_=>Q0m
  refine skip (seq ?_)
  refine block (seq ?_)
  refine rg hS [0,5,6,7,8] (di1 (an f.1 f.2.1)) ?_
  refine seq (Ua2 h [0,6,7,8] (Z3 hk 0 rfl) λm n h=>?_)
  refine Ua2 h [0,6,7,8] (Z2 hk 1 rfl) λo p h=>?_
  refine G [0,6,7,8] ?_
  exact nx h
 exact ex h
theorem Y0l{w66:Y5}(c:AllG env [S103,S66 w66]):Q0c env (S102 w66):=by
 refine hd c (fnq func102) 25 λO X hS hX hpf hk ⟨a,b,i,j⟩=>λr (h:F102 w66 a b i j=some r)=>gs ?_
 rw[F102]at h
 refine R [0,2,8,9,10] ?_
 refine block (Lp h (λ(d,e,f)=>⟨sl [(0,.ref 0 0),(2,as_ b),(8,vC a),(9,ai (a.length:Int)),(10,ai d)],25,[.prn 5 e 51 9 (List.map Redir.pv f)]⟩) ?_)
 clear h
 rintro⟨d,e,f⟩ l h
 rw[Z9x]at h
 try dsimp only at h
 refine AW.st (R [0,2,8,9,10,11] ?_)
 refine seq (iz h (λh=>?_) λh=>?_)
 ·obtain⟨m,g,h⟩:=oc h λ_=>Q0m
  refine skip (seq ?_)
  refine block (seq ?_)
  refine rg hS [0,2,6,7,8,9,10] (di1 (an g.1 g.2.1)) ?_
  refine seq (R [0,2,7,8,9,10,16] ?_)
  refine ik h (λh=>?_) λh=>?_
  ·refine Ua1 h [0,2,7,8,9,10] (Z3 hk 0 rfl) λn h=>?_
   refine Ua2 h [0,2,8,9,10] (Z3 hk 1 rfl) λo p h=>?_
   refine G [0,2,8,9,10] ?_
   exact nx h
  refine Ua2 h [0,2,8,9,10] (Z3 hk 1 rfl) λq t h=>?_
  refine G [0,2,8,9,10] ?_
  exact nx h
 exact ex h
theorem Y0j{w66:Y5}(c:AllG env [S103,S67,S35 w66]):Q0c env (S104 w66):=by
 refine hd c (fnq func104) 21 λO X hS hX hpf hk ⟨a,b,d,e,f⟩=>λr (h:F104 w66 a b d e f=some r)=>gs ?_
 rw[F104]at h
 refine seq (Ua1 h [0,2,3] (Z3 hk 0 rfl) λg h=>?_)
 refine seq (Ua2 h [0,2,3] (Z2 hk 1 rfl) λi j h=>?_)
 refine seq (Ua2 h [0,3] (Z3 hk 2 rfl) λl m h=>?_)
 refine Ua1 h [] (Z3 hk 0 rfl) λn h=>?_
 cases h
 exact fin
theorem V8t(c:AllG env [J4c]):Q0c env S188:=by
 refine hd c (fnq func188) 12 λO X hS hX hpf hk ⟨d,e⟩=>λr (h:F188 d e=some r)=>gs ?_
 rw[F188]at h
 refine R [0,1] ?_
 refine seq (R [0,7] ?_)
 refine ik h (λh=>?_) λh=>?_
 ·exact Rt h [4]
 obtain⟨g,f,h⟩:=oc h (Zt hk 0 189 d)
 obtain⟨i,a,h⟩:=oc h λ_=>Z3a
 try simp only[LNS,G1z,Nat.reduceAdd,Nat.reduceLeDiff,G3m,Nat.reduceMul]at a
 obtain⟨j,b,h⟩:=oc h λ_=>Z3a
 try simp only[LNS,G1z,Nat.reduceAdd,Nat.reduceLeDiff,G3m,Nat.reduceMul]at b
 refine seq (rg hS [4] (di1 (an (ca f) (an a.1 (an a.2 (an b.1 b.2))))) ?_)
 exact Rf h
theorem V9j{w152:Y2}(c:AllG env [S188,S103,J4c,S152 w152,S109]):Q0c env (S151 w152):=by
 refine hd c (fnq func151) 77 λO X hS hX hpf hk ⟨a,d,n⟩=>λr (h:F151 w152 a d n=some r)=>gs ?_
 rw[F151]at h
 refine R [0,3] ?_
 refine seq (R [0,3,6] ?_)
 refine block (R [0,3,6,7] ?_)
 refine iz h (λh=>?_) λh=>?_
 ·obtain⟨C,p,h⟩:=oc h (Zt2 hk 0 rfl)
  obtain⟨D,f,h⟩:=oc h (Z3 hk 1 rfl)
  replace f:=cb f
  try simp only[PVE]at f
  refine rg hS [0,3] (di1 (an (ca p) f)) ?_
  refine Ua2 h [] (Z3 hk 3 rfl) λE F h=>?_
  cases h
  exact fin
 refine R [0,3,6,15] ?_
 refine iz h (λh=>?_) λh=>?_
 ·obtain⟨H,q,h⟩:=oc h (Zt2 hk 0 rfl)
  obtain⟨I,g,h⟩:=oc h (Z3 hk 1 rfl)
  replace g:=cb g
  try simp only[PVE]at g
  refine rg hS [0,3] (di1 (an (ca q) g)) ?_
  refine Ua2 h [] (Z3 hk 3 rfl) λJ K h=>?_
  cases h
  exact fin
 refine R [0,3,6,23] ?_
 refine iz h (λh=>?_) λh=>?_
 ·obtain⟨M,t,h⟩:=oc h (Zt2 hk 0 rfl)
  obtain⟨N,i,h⟩:=oc h (Z3 hk 1 rfl)
  replace i:=cb i
  try simp only[PVE]at i
  refine rg hS [0,3] (di1 (an (ca t) i)) ?_
  refine Ua2 h [] (Z3 hk 3 rfl) λP Q h=>?_
  cases h
  exact fin
 refine R [0,3,6,31] ?_
 refine iz h (λh=>?_) λh=>?_
 ·refine seq ?_
  obtain⟨S,u,h⟩:=oc h (Zt hk 2 189 a.fd_)
  obtain⟨T,x,h⟩:=oc h (Zt hk 2 189 a.from_)
  obtain⟨U,j,h⟩:=oc h (Z3 hk 1 rfl)
  replace j:=cb j
  try simp only[PVE]at j
  apply dgk mixed hS [] (ordp hpf (by kernel_rfl))
  ·exact di1 (an (ca u) (an (ca x) j))
  exact Rf h
 refine R [0,3,6,42] ?_
 refine iz h (λh=>?_) λh=>?_
 ·obtain⟨V,y,h⟩:=oc h (Zt hk 2 189 a.fd_)
  obtain⟨W,l,h⟩:=oc h (Z3 hk 1 rfl)
  replace l:=cb l
  try simp only[PVE]at l
  refine seq (rg hS [] (di1 (an (ca y) l)) ?_)
  exact Rf h
 refine R [0,3,50] ?_
 refine ik h (λh=>?_) λh=>?_
 ·refine seq (AW.after ?_)
  refine weak (Weak.explode 0 rfl) ?_
  refine weak (σ':=⟨sl [(0,.ref 0 0),(3,.ref 1 0),(50,ab (decide (a.kind_=4)))],77,[.var [.selfp 0,.vec 2 (List.length d),.vec 3 (List.length n)],V0 a,.brow 5 d,rRe n]⟩) (Weak.of_eq (Wq0 (L:=[(0,.ref 0 0),(3,.ref 1 0),(50,ab (decide (a.kind_=4)))]) ⟨rfl,rfl,rfl,trivial⟩) (by first|rfl|(simp only[G1h];rfl))) ?_
  replace h:=ap Redir.pv h;obtain⟨e,z,h⟩:=h
  refine AW.dregB mixed hS [(3,some 1)] rfl (ordB hpf (B:=[(3,some 1)]) (by kernel_rfl)) [(0,.ref 0 0),(3,.ref 1 0)] [.var [.selfp 0,.vec 2 (List.length d),.vec 3 (List.length e)],V0 a,.brow 5 d,rRe e] ?_ ?_
  ·exact dk1 z
  refine⟨⟨sl [(0,.ref 0 0),(3,.ref 1 0)],77,[.prn 5 d 51 9 (List.map Redir.pv e),V0 a,.moved 5 1 (List.length d),.moved 51 9 (List.length e)]⟩,(Weak.trans (Weak.implode (σ:=⟨sl [(0,.ref 0 0),(3,.ref 1 0)],77,[.var [.selfp 0,.vec 2 (List.length d),.vec 3 (List.length e)],V0 a,.brow 5 d,rRe e]⟩) 0 2 3 rfl rfl rfl rfl (by first|rfl|simp only[G1h])) (Weak.of_eq (σ'':=⟨sl [(0,.ref 0 0),(3,.ref 1 0)],77,[.prn 5 d 51 9 (List.map Redir.pv e),V0 a,.moved 5 1 (List.length d),.moved 51 9 (List.length e)]⟩) (Wq0 (L:=[(0,.ref 0 0),(3,.ref 1 0)]) ⟨rfl,rfl,trivial⟩) (by first|rfl|(simp only[G1h];rfl)))),?_⟩
  refine R [0,3,4] ?_
  refine seqM ⟨sl [(0,.ref 0 0),(3,.ref 1 0),(4,as_ (bif a.raw_ then[39]else[]))],77,[.prn 5 d 51 9 (List.map Redir.pv e),V0 a,.moved 5 1 (List.length d),.moved 51 9 (List.length e)]⟩ ?_ ?_
  ·refine R [0,3,4,63] ?_
   refine cond (b:=a.raw_) rfl (λo=>?_) (λo=>?_)
   ·refine G [0,3,4] ?_
    exact Weak.of_eq (Wq0 (L:=[(0,.ref 0 0),(3,.ref 1 0),(4,as_ [39])]) kp) (wq o)
   exact skip (Weak.of_eq (Wq0 (L:=[(0,.ref 0 0),(3,.ref 1 0),(4,as_ [])]) kp) (wq o))
  obtain⟨Y,A,h⟩:=oc h (Zt hk 4 109 a.word_.text_)
  obtain⟨aa,m,h⟩:=oc h (Z3 hk 1 rfl)
  replace m:=cb m
  try simp only[PVE]at m
  refine seq (rg hS [] (di1 (an (ca A) m)) ?_)
  exact Rf h
 refine Ua2 h [] (Z3 hk 3 rfl) λac ad h=>?_
 cases h
 exact fin
theorem Y0i{w152:Y2}(c:AllG env [S103,S151 w152]):Q0c env (S105 w152):=by
 refine hd c (fnq func105) 19 λO X hS hX hpf hk ⟨a,g,i⟩=>λr (h:F105 w152 a g i=some r)=>gs ?_
 rw[F105]at h
 refine R [0,6,7,8] ?_
 refine block (Lp h (λ(b,d,e)=>⟨sl [(0,.ref 0 0),(6,vRe a),(7,ai (a.length:Int)),(8,ai b)],19,[.prn 5 d 51 9 (List.map Redir.pv e)]⟩) ?_)
 clear h
 rintro⟨b,d,e⟩ j h
 rw[J4t]at h
 try dsimp only at h
 refine AW.st (R [0,6,7,8,9] ?_)
 refine seq (iz h (λh=>?_) λh=>?_)
 ·obtain⟨l,f,h⟩:=oc h λ_=>Q0m
  refine skip (seq ?_)
  refine block (seq ?_)
  refine rg hS [0,5,6,7,8] (di1 (an f.1 f.2.1)) ?_
  refine seq (Ua1 h [0,5,6,7,8] (Z3 hk 0 rfl) λm h=>?_)
  refine Ua2 h [0,6,7,8] (Z3 hk 1 rfl) λn o h=>?_
  refine G [0,6,7,8] ?_
  exact nx h
 exact ex h
theorem Y0h{w152:Y2}(c:AllG env [S103,S152 w152,S151 w152,S105 w152]):Q0c env (S106 w152):=by
 refine hd c (fnq func106) 45 λO X hS hX hpf hk ⟨a,n,o⟩=>λr (h:F106 w152 a n o=some r)=>gs ?_
 rw[F106]at h
 refine R [0,3] ?_
 refine seq (R [0,3,8,9,10] ?_)
 refine block (Lp h (λ(j,d,e)=>⟨sl [(0,.ref 0 0),(3,.ref 1 0),(8,vWo a.words_),(9,ai (a.words_.length:Int)),(10,ai j)],45,[.prn 5 d 51 9 (List.map Redir.pv e),V1 a]⟩) ?_)
 clear h
 rintro⟨j,d,e⟩ q h
 rw[Q9v]at h
 try dsimp only at h
 refine AW.st (R [0,3,8,9,10,11] ?_)
 refine seq (iz h (λh=>?_) λh=>?_)
 ·obtain⟨t,l,h⟩:=oc h λ_=>Q0m
  refine skip (seq ?_)
  refine block (seq ?_)
  refine rg hS [0,3,4,5,8,9,10] (di1 (an l.1 l.2.1)) ?_
  refine seq (R [0,3,5,8,9,10,16] ?_)
  refine ik h (λh=>?_) λh=>?_
  ·refine Ua1 h [0,3,5,8,9,10] (Z3 hk 0 rfl) λu h=>?_
   refine Ua2 h [0,3,8,9,10] (Z3 hk 1 rfl) λx y h=>?_
   refine G [0,3,8,9,10] ?_
   exact nx h
  refine Ua2 h [0,3,8,9,10] (Z3 hk 1 rfl) λz A h=>?_
  refine G [0,3,8,9,10] ?_
  exact nx h
 refine exit (R [0,3,6] ?_)
 refine seq (seq ?_)
 refine reg hS [(0,.ref 0 0),(6,vRe a.redirs_),(34,ab (decide ((a.words_.length:Int)=0)&&decide (0<(a.redirs_.length:Int))))] [.prn 5 d 51 9 (List.map Redir.pv e),V1 a] ?_ ?_
 ·clear h hk hS hX c
  exact dh
 refine ik h (λh=>?_) λh=>?_
 ·obtain⟨C,f,h⟩:=oc h λ_=>Q0m
  try simp only[NRM,Int.reduceToNat]at f
  obtain⟨⟨D,E⟩,p,h⟩:=oc h (Z3 hk 2 rfl)
  refine seq (rg hS [0,6] (di1 (an f.1 (an f.2.1 (cb p)))) ?_)
  obtain⟨F,m,h⟩:=obs h
  have b:=Z8f m
  try simp only[NRM,Int.reduceToNat]at b
  have g:=b.2.2.1
  have i:=Z6s Redir.pv m
  try simp only[NRM,Int.reduceToNat]at g i
  refine rg hS [0,6] (di1 (an b.1 (an b.2.1 (an g (an b.2.2.2 i))))) ?_
  clear b g i
  refine Ua2 h [] (Z3 hk 3 rfl) λH I h=>?_
  cases h
  exact fin
 refine Ua2 h [] (Z3 hk 3 rfl) λJ K h=>?_
 cases h
 exact fin
theorem V9h{w152:Y2}(c:AllG env [S103,S152 w152]):Q0c env (S153 w152):=by
 refine hd c (fnq func153) 19 λO X hS hX hpf hk ⟨a,g,i⟩=>λr (h:F153 w152 a g i=some r)=>gs ?_
 rw[F153]at h
 refine R [0,6,7,8] ?_
 refine block (Lp h (λ(b,d,e)=>⟨sl [(0,.ref 0 0),(6,vWo a),(7,ai (a.length:Int)),(8,ai b)],19,[.prn 5 d 51 9 (List.map Redir.pv e)]⟩) ?_)
 clear h
 rintro⟨b,d,e⟩ j h
 rw[J4q]at h
 try dsimp only at h
 refine AW.st (R [0,6,7,8,9] ?_)
 refine seq (iz h (λh=>?_) λh=>?_)
 ·obtain⟨l,f,h⟩:=oc h λ_=>Q0m
  refine skip (seq ?_)
  refine block (seq ?_)
  refine rg hS [0,5,6,7,8] (di1 (an f.1 f.2.1)) ?_
  refine seq (Ua1 h [0,5,6,7,8] (Z3 hk 0 rfl) λm h=>?_)
  refine Ua2 h [0,6,7,8] (Z3 hk 1 rfl) λn o h=>?_
  refine G [0,6,7,8] ?_
  exact nx h
 exact ex h
theorem V9g{w66:Y5}{w152:Y2}(c:AllG env [S103,S153 w152,S67,S35 w66]):Q0c env (S154 w66 w152):=by
 refine hd c (fnq func154) 42 λO X hS hX hpf hk ⟨a,g,i⟩=>λr (h:F154 w66 w152 a g i=some r)=>gs ?_
 rw[F154]at h
 refine R [0,3] ?_
 refine seq (Ua1 h [0,3] (Z3 hk 0 rfl) λj h=>?_)
 refine seq (Ua2 h [0,3] (Z3 hk 1 rfl) λl m h=>?_)
 refine seq (Ua1 h [0,3] (Z3 hk 0 rfl) λn h=>?_)
 refine seq (Ua2 h [0,3] (Z2 hk 2 rfl) λo p h=>?_)
 refine seq (R [0,19,20,21] ?_)
 refine block (Lp h (λ(b,d,e)=>⟨sl [(0,.ref 0 0),(19,vC a.kids_),(20,ai (a.kids_.length:Int)),(21,ai b)],42,[.prn 5 d 51 9 (List.map Redir.pv e),V1 a]⟩) ?_)
 clear h
 rintro⟨b,d,e⟩ q h
 rw[Z9u]at h
 try dsimp only at h
 refine AW.st (R [0,19,20,21,22] ?_)
 refine seq (iz h (λh=>?_) λh=>?_)
 ·obtain⟨t,f,h⟩:=oc h λ_=>Q0m
  refine skip (seq ?_)
  refine block (seq ?_)
  refine rg hS [0,5,19,20,21] (di1 (an f.1 f.2.1)) ?_
  refine seq (Ua1 h [0,5,19,20,21] (Z3 hk 0 rfl) λu h=>?_)
  refine seq (Ua2 h [0,5,19,20,21] (Z3 hk 1 rfl) λx y h=>?_)
  refine seq (Ua2 h [0,5,19,20,21] (Z2 hk 2 rfl) λz A h=>?_)
  refine Ua2 h [0,19,20,21] (Z3 hk 3 rfl) λC D h=>?_
  refine G [0,19,20,21] ?_
  exact nx h
 refine exit (Ua1 h [] (Z3 hk 0 rfl) λE h=>?_)
 cases h
 exact fin
theorem Y0g{w66:Y5}{w152:Y2}(c:AllG env [S103,S152 w152,S102 w66,S104 w66,S66 w66,S153 w152,S154 w66 w152]):Q0c env (S107 w66 w152):=by
 refine hd c (fnq func107) 107 λO X hS hX hpf hk ⟨i,j,l⟩=>λr (h:F107 w66 w152 i j l=some r)=>gs ?_
 rw[F107]at h
 refine R [0,3] ?_
 refine R [0,3,5] ?_
 refine block (R [0,3,5,6] ?_)
 refine iz h (λh=>?_) λh=>?_
 ·refine seq (Ua1 h [0,3] (Z3 hk 0 rfl) λp h=>?_)
  obtain⟨q,d,h⟩:=oc h λ_=>Q0m
  try simp only[NRM,Int.reduceToNat]at d
  obtain⟨⟨t,u⟩,m,h⟩:=oc h (Z3 hk 1 rfl)
  refine seq (rg hS [0,3] (di1 (an d.1 (an d.2.1 (cb m)))) ?_)
  refine seq (R [0,3,22] ?_)
  refine ik h (λh=>?_) λh=>?_
  ·refine Ua1 h [0,3] (Z3 hk 0 rfl) λx h=>?_
   refine Ua2 h [] (Z4 hk 2 rfl) λy z h=>?_
   cases h
   exact fin
  refine Ua2 h [] (Z4 hk 2 rfl) λA C h=>?_
  cases h
  exact fin
 refine R [0,3,5,30] ?_
 refine iz h (λh=>?_) λh=>?_
 ·obtain⟨D,e,h⟩:=oc h λ_=>Q0m
  try simp only[NRM,Int.reduceToNat]at e
  obtain⟨⟨E,F⟩,a,h⟩:=oc h (Z5 hk 3 rfl)
  replace a:=cb a
  try simp only[PVE]at a
  refine seq (rg hS [0,3] (di1 (an e.1 (an e.2.1 a))) ?_)
  obtain⟨H,f45,h⟩:=oc h λ_=>Q0m
  try simp only[NRM,Int.reduceToNat]at f45
  obtain⟨⟨I,J⟩,n,h⟩:=oc h (Z3 hk 4 rfl)
  refine rg hS [] (di1 (an f45.1 (an f45.2.1 (cb n)))) ?_
  cases h
  exact fin
 refine R [0,3,5,45] ?_
 refine iz h (λh=>?_) λh=>?_
 ·obtain⟨K,f,h⟩:=oc h λ_=>Q0m
  try simp only[NRM,Int.reduceToNat]at f
  obtain⟨⟨L,M⟩,b,h⟩:=oc h (Z5 hk 3 rfl)
  replace b:=cb b
  try simp only[PVE]at b
  refine seq (rg hS [0,3] (di1 (an f.1 (an f.2.1 b))) ?_)
  obtain⟨N,g,h⟩:=oc h λ_=>Q0m
  try simp only[NRM,Int.reduceToNat]at g
  obtain⟨⟨P,Q⟩,o,h⟩:=oc h (Z3 hk 4 rfl)
  refine rg hS [] (di1 (an g.1 (an g.2.1 (cb o)))) ?_
  cases h
  exact fin
 refine R [0,3,5,60] ?_
 refine iz h (λh=>?_) λh=>?_
 ·refine seq (Ua1 h [0,3] (Z3 hk 0 rfl) λS h=>?_)
  refine seq (Ua2 h [0,3] (Z3 hk 5 rfl) λT U h=>?_)
  refine seq (Ua1 h [0,3] (Z3 hk 0 rfl) λV h=>?_)
  refine Ua2 h [] (Z4 hk 2 rfl) λW Y h=>?_
  cases h
  exact fin
 refine R [0,3,5,78] ?_
 refine iz h (λh=>?_) λh=>?_
 ·refine Ua2 h [] (Z3 hk 6 rfl) λaa ac h=>?_
  cases h
  exact fin
 refine R [0,3,5,83] ?_
 refine iz h (λh=>?_) λh=>?_
 ·refine seq (Ua1 h [0,3] (Z3 hk 0 rfl) λad h=>?_)
  refine R [0,3,93] ?_
  refine ik h (λh=>?_) λh=>?_
  ·refine Ua2 h [] (Z5 hk 3 rfl) λae af h=>?_
   cases h
   exact fin
  cases h
  exact fin
 refine R [0,3,98] ?_
 refine ik h (λh=>?_) λh=>?_
 ·refine seq (Ua1 h [0,3] (Z3 hk 0 rfl) λag h=>?_)
  refine Ua2 h [] (Z3 hk 5 rfl) λah ak h=>?_
  cases h
  exact fin
 cases h
 exact fin
end Go.Abs.U48
