import Derived.Test.YtljahlbklgnfhaaGreatDoorD1
set_option linter.unusedVariables false
set_option linter.unusedSimpArgs false
set_option maxRecDepth 8000
set_option maxHeartbeats 4000000
namespace Go.Abs.U48
open Go.RowKit Go.Proofs AW
theorem Y1n(c:AllG env []):Q0c env S59:=by
 refine hd c Y4b 29 λO X hS hX hpf hk ⟨b,d,e,f,g,i⟩=>λr (h:F59 b d e f g i=some r)=>gs ?_
 rw[F59]at h
 refine R [0,2] ?_
 refine seq (seq ?_)
 apply dgk mixed hS [0,2,12] (ordp hpf (by kernel_rfl))
 ·exact di
 refine ik h (λh=>?_) λh=>?_
 ·refine seq ?_
  obtain⟨j,a,h⟩:=oc h λ_=>Q0l
  apply dgB mixed hS [(2,some 1),(21,none)] [2] rfl (ordB hpf (B:=[(2,some 1),(21,none)]) (by kernel_rfl))
  ·exact di1 (an a.1 a.2.1)
  exact Rf h
 exact Rt h [2]
theorem Y1o(c:AllG env [S59]):Q0c env S58:=by
 refine hd c Y4c 16 λO X hS hX hpf hk ⟨a,b,d,e,f,g,i⟩=>λr (h:F58 a b d e f g i=some r)=>gs ?_
 rw[F58]at h
 refine R [0,1] ?_
 obtain⟨j,k,h⟩:=oc h (Z6 hk 0 rfl)
 refine seq (reg hS [(4,ab (decide (j.kind_=2)&&decide (j.text_=a)))] [V27 b d e f g i] ?_ ?_)
 ·clear h hk hS hX c
  exact dh1 (an (cb k) (cb k))
 exact Rf h
theorem Y1q(c:AllG env [S59,S58]):Q0c env S55:=by
 refine hd c Y4f 17 λO X hS hX hpf hk ⟨e,f,g,m,i,j⟩=>λr (h:F55 e f g m i j=some r)=>gs ?_
 rw[F55]at h
 refine block (Lp h (λk=>⟨sl [(0,.ref 0 0)],17,[V27 e f g k i j]⟩) ?_)
 clear h
 rintro k n h
 rw[Z7b]at h
 try dsimp only at h
 obtain⟨o,l,h⟩:=oc h (Z6 hk 0 rfl)
 refine AW.st (seq ?_)
 refine seq ?_
 rcases bs h with⟨d,h⟩|⟨d,h⟩
 ·refine rg hS [0,9] (di1 (an (cb l) d)) ?_
  refine cond (b:=true) rfl (λ_=>?_) (λhb=>absurd hb (by decide))
  refine skip (block ?_)
  refine G [0] ?_
  exact nx h
 obtain⟨p,a,h⟩:=oc h (Z7 hk 1 rfl)
 replace a:=cb a
 try simp only[PVE]at a
 refine rg hS [0,9] (di1 (an (cb l) (an d a))) ?_
 refine iz h (λh=>?_) λh=>?_
 ·refine skip (block ?_)
  refine G [0] ?_
  exact nx h
 exact ex h
theorem K9t(c:AllG env []):Q0c env S171:=by
 refine hd c V4d 14 ?_
 rintro O X hS hX hpf hk (b:Str) (r:Bool) (h:F171 b=some r)
 refine gs ?_
 rw[F171]at h
 refine R [0] ?_
 refine seq (R [0,3] ?_)
 refine block (Lp h (λi3=>⟨sl [(0,as_ b),(3,ai i3)],14,[]⟩) ?_)
 clear h
 rintro i3 d h
 rw[J5z]at h
 try dsimp only at h
 refine AW.st (seq ?_)
 refine R [0,3,7] ?_
 refine iz h (λh=>?_) λh=>?_
 ·obtain⟨e,a,h⟩:=oc h λ_=>Q1y
  refine skip (seq ?_)
  refine block (seq ?_)
  refine rg hS [0,3,13] (di1 (an a.1 (an a.2.1 a.2.2))) ?_
  refine ik h (λh=>?_) λh=>?_
  ·exact Rt h [2]
  refine G [0,3] ?_
  exact nx h
 exact exit (Rt h [2])
theorem V0f(c:AllG env [S59,S171]):Q0c env S140:=by
 refine hd c V4t 23 λO X hS hX hpf hk ⟨d,e,f,g,i,j,k⟩=>λr (h:F140 d e f g i j k=some r)=>gs ?_
 rw[F140]at h
 refine R [0,1] ?_
 refine seq (Ua1 h [1,5] (Z6 hk 0 rfl) λa h=>?_)
 obtain⟨l,b,h⟩:=obs h
 replace b:=Q0d b
 have m:=λn=>(hk 1 171 rfl).ret a.quoted_ (b n) rfl rfl
 refine seq (reg hS [(4,ab ((decide (a.kind_=1)&&decide (a.text_=d))&&!l))] [V27 e f g i j k,V1 a] ?_ ?_)
 ·clear h hk hS hX c
  exact dh1 (ap1 171 hpf m)
 exact Rf h
theorem K9s(c:AllG env []):Q0c env S172:=by
 refine hd c V4c 59 ?_
 rintro O X hS hX hpf hk (b:Str) (r:Bool) (h:F172 b=some r)
 refine gs ?_
 rw[F172]at h
 refine R [0] ?_
 refine seq (R [0,3] ?_)
 refine block (Lp h (λi3=>⟨sl [(0,as_ b),(3,ai i3)],59,[]⟩) ?_)
 clear h
 rintro i3 e h
 rw[J5y]at h
 try dsimp only at h
 refine AW.st (seq ?_)
 refine R [0,3,7] ?_
 refine iz h (λh=>?_) λh=>?_
 ·obtain⟨a,d,h⟩:=oc h λ_=>Q1y
  refine skip (seq ?_)
  refine block (seq ?_)
  refine reg hS [(0,as_ b),(3,ai i3),(56,ab (!(((((decide (97<=a)&&decide (a<=122))||(decide (65<=a)&&decide (a<=90)))||(decide (48<=a)&&decide (a<=57)))||decide (a=95))||decide (a=42))))] [] ?_ ?_
  ·clear h hk hS hX c
   exact dh1 (an d.1 (an d.2.1 d.2.2))
  refine ik h (λh=>?_) λh=>?_
  ·exact Rt h [2]
  refine G [0,3] ?_
  exact nx h
 exact exit (Rt h [2])
theorem V0e(c:AllG env [S59,S171,S172]):Q0c env S141:=by
 refine hd c V4s 61 λO X hS hX hpf hk ⟨e,b,f,d,g,i⟩=>λr (h:F141 e b f d g i=some r)=>?_
 have o:O.pf 171=true:=pft hpf 171 rfl
 refine gs ?_
 rw[F141]at h
 refine R [0] ?_
 refine seq (Ua1 h [0,3] (Z6 hk 0 rfl) λa h=>?_)
 obtain⟨p,j,h⟩:=obs h
 replace j:=Q0d j
 have q:=λk=>(hk 1 171 rfl).ret a.quoted_ (j k) rfl rfl
 obtain⟨s,l,h⟩:=obs h
 replace l:=Q0d l
 have t:=λk=>(hk 2 172 rfl).ret a.text_ (l k) rfl rfl
 refine seq (seq ?_)
 refine dreg mixed hS (ordp hpf (by kernel_rfl)) [(0,.ref 0 0),(32,ab (((!decide (a.kind_=1)||p)||!s)||decide ((b.length:Int)<=IntKind.wrap .i64 (d+1))))] [V27 e b f d g i,V1 a] ?_ ?_
 ·clear h hk hS hX c
  exact dh1 (an o (an q (ap1 172 hpf t)))
 refine ik h (λh=>?_) λh=>?_
 ·exact Rt h [2]
 obtain⟨m,n,h⟩:=oc h λ_=>Q0l
 refine seq (dreg mixed hS (ordp hpf (by kernel_rfl)) [(2,ab (decide (m.kind_=2)&&decide (m.text_=[61])))] [V27 e b f d g i,V1 a] ?_ ?_)
 ·clear h hk hS hX c
  exact dh1 (an n.1 n.2.1)
 exact Rf h
theorem Y0o(c:AllG env [S140,S141]):Q0c env S95:=by
 refine hd c Y3a 10 λO X hS hX hpf hk ⟨d,e,f,g,i,j⟩=>λr (h:F95 d e f g i j=some r)=>gs ?_
 rw[F95]at h
 refine R [0] ?_
 obtain⟨l,a,h⟩:=oc h (Z7 hk 0 rfl)
 replace a:=cb a
 try simp only[PVE]at a
 refine seq ?_
 rcases bs h with⟨b,h⟩|⟨b,h⟩
 ·obtain⟨m,k,h⟩:=oc h (Z6 hk 1 rfl)
  exact rg hS [2] (di1 (an a (an b (cb k)))) (Rf h)
 exact rg hS [2] (di1 (an a b)) (Rf h)
theorem Y1p(c:AllG env [S95,S58]):Q0c env S56:=by
 refine hd c Y4e 29 λO X hS hX hpf hk ⟨e,f,g,i,j,k,l⟩=>λr (h:F56 e f g i j k l=some r)=>gs ?_
 rw[F56]at h
 refine R [0,1] ?_
 refine seq (R [0,1,5] ?_)
 refine block (R [0,1,5,6] ?_)
 refine iz h (λh=>?_) λh=>?_
 ·refine seq ?_
  apply dgk mixed hS [4] (ordp hpf (by kernel_rfl))
  ·exact di
  exact Rf h
 refine R [0,1,18] ?_
 refine ik h (λh=>?_) λh=>?_
 ·obtain⟨m,d,h⟩:=oc h (Z6 hk 0 rfl)
  refine seq ?_
  rcases bs h with⟨b,h⟩|⟨b,h⟩
  ·exact rg hS [4] (di1 (an (cb d) b)) (Rf h)
  obtain⟨n,a,h⟩:=oc h (Z7 hk 1 rfl)
  replace a:=cb a
  try simp only[PVE]at a
  exact rg hS [4] (di1 (an (cb d) (an b a))) (Rf h)
 refine seq (Ua1 h [4] (Z7 hk 1 rfl) λo h=>?_)
 exact Rf h
theorem Y0n(c:AllG env [S59]):Q0c env S97:=by
 refine hd c Y2y 13 λO X hS hX hpf hk ⟨a,b,d,i,e,f⟩=>λr (h:F97 a b d i e f=some r)=>gs ?_
 rw[F97]at h
 refine block (Lp h (λg=>⟨sl [(0,.ref 0 0)],13,[V27 a b d g e f]⟩) ?_)
 clear h
 rintro g j h
 rw[Z1w]at h
 try dsimp only at h
 refine AW.st (seq ?_)
 refine seq (Ua1 h [0,5] (Z6 hk 0 rfl) λk h=>?_)
 refine iz h (λh=>?_) λh=>?_
 ·refine skip (block ?_)
  refine G [0] ?_
  exact nx h
 exact ex h
theorem K7g{a:Y3}(c:AllG env [S142 a,S58,S97]):Q0c env (S96 a):=by
 refine hd c Y2z 40 λO X hS hX hpf hk ⟨b,d,e,q,s,t⟩=>λr (h:F96 a b d e q s t=some r)=>gs ?_
 rw[F96]at h
 refine R [0,2] ?_
 refine seq (Ua4 h [0,2,3] (Z6 hk 0 rfl) λi D E F h=>?_)
 refine seq (rg hS [0,2,3,4] di ?_)
 refine seq (block ?_)
 refine Lq r (Q6y b d e a i) (λ(m,n,o,j)=>⟨sl [(0,.ref 0 0),(2,.ref 1 0),(3,.ref 2 0),(4,.vec 3 (List.length j))],40,[V27 b d e m n o,V5 0 0 [],V9 i,rCm j]⟩) ?_ ?_
 ·refine seq (seq ?_)
  rcases bs h with⟨k,h⟩|⟨k,h⟩
  ·obtain⟨H,f,h⟩:=oc h (Z7 hk 1 rfl)
   replace f:=cb f
   try simp only[PVE]at f
   refine rg hS [0,2,3,4,17] (di1 (an k f)) ?_
   refine iz h (λh=>?_) λh=>?_
   ·refine skip (block ?_)
    refine R [0,2,3,4] ?_
    refine seq (Ua1 h [0,2,3,4] (Z6 hk 2 rfl) λI h=>?_)
    obtain⟨⟨J,u,w,x⟩,y,h⟩:=oc h (Z6 hk 0 rfl)
    replace h:=ap Cmd.pv h;obtain⟨p,z,h⟩:=h
    refine reg hS [(0,.ref 0 0),(2,.ref 1 0),(3,.ref 2 0),(4,.vec 3 (List.length p))] [V27 b d e u w x,V5 0 0 [],V9 i,rCm p] (dk1 (an (cb y) z)) ?_
    exact ny h
   refine exit (seq ?_)
   refine R [2,3,4,34] ?_
   refine ik h (λh=>?_) λh=>?_
   ·exact Rt h [2]
   exact Rt h [2]
  refine rg hS [0,2,3,4,17] (di1 k) ?_
  refine cF (exit (seq ?_))
  refine R [2,3,4,34] ?_
  refine ik h (λh=>?_) λh=>?_
  ·exact Rt h [2]
  exact Rt h [2]
 clear h
 rintro⟨m,n,o,j⟩ K h
 unfold Q6y at h
 try dsimp only at h
 refine AW.st (seq ?_)
 refine seq ?_
 rcases bs h with⟨l,h⟩|⟨l,h⟩
 ·obtain⟨L,g,h⟩:=oc h (Z7 hk 1 rfl)
  replace g:=cb g
  try simp only[PVE]at g
  refine rg hS [0,2,3,4,17] (di1 (an l g)) ?_
  refine iz h (λh=>?_) λh=>?_
  ·refine skip (block ?_)
   refine R [0,2,3,4] ?_
   refine seq (Ua1 h [0,2,3,4] (Z6 hk 2 rfl) λM h=>?_)
   obtain⟨⟨N,P,Q,S⟩,A,h⟩:=oc h (Z6 hk 0 rfl)
   replace h:=ap Cmd.pv h;obtain⟨T,C,h⟩:=h
   refine rg hS [0,2,3,4] (di1 (an (cb A) C)) ?_
   exact nx h
  refine exit (seq ?_)
  refine R [2,3,4,34] ?_
  refine ik h (λh=>?_) λh=>?_
  ·exact Rt h [2]
  exact Rt h [2]
 refine rg hS [0,2,3,4,17] (di1 l) ?_
 refine cF (exit (seq ?_))
 refine R [2,3,4,34] ?_
 refine ik h (λh=>?_) λh=>?_
 ·exact Rt h [2]
 exact Rt h [2]
theorem K7k{j:Y3}(c:AllG env [S96 j,S58,S97]):Q0c env (S57 j):=by
 refine hd c Y4d 42 λO X hS hX hpf hk ⟨a,d,e,C,D,E⟩=>λr (h:F57 j a d e C D E=some r)=>?_
 have y:O.pf 58=false:=pft hpf 58 rfl
 refine gs ?_
 rw[F57]at h
 refine R [0,2] ?_
 refine seq (Ua4 h [0,2,3] (Z6 hk 0 rfl) λk N P Q h=>?_)
 refine seq (block ?_)
 refine Lp h (λ(f,g,i,l,m,n,o,p)=>⟨sl [(0,.ref 0 0),(2,.ref 1 0),(3,.ref 2 0)],42,[V27 a d e f g i,V5 0 0 [],V8 l k.at_ m n o p]⟩) ?_
 clear h
 rintro⟨f,g,i,l,m,n,o,p⟩ F h
 rw[Q7y]at h
 try dsimp only at h
 refine AW.st (seq ?_)
 refine seq ?_
 rcases bs h with⟨s,h⟩|⟨s,h⟩
 ·obtain⟨S,q,h⟩:=oc h (Z7 hk 1 rfl)
  replace q:=cb q
  try simp only[PVE]at q
  rcases bs h with⟨t,h⟩|⟨t,h⟩
  ·refine rg hS [0,2,3,20] (di1 (an s (an y (an q t)))) ?_
   refine cond (b:=true) rfl (λ_=>?_) (λhb=>absurd hb (by decide))
   refine skip (block ?_)
   refine R [0,2,3,4] ?_
   refine seqJ (α:=Int) (λz=>⟨sl [(0,.ref 0 0),(2,.ref 1 0),(3,.ref 2 0),(4,ai z)],42,[V27 a d e f g i,V5 0 0 [],V8 l k.at_ m n o p]⟩) (λx=>Z7a a d e f g i j (iter (Q7y a d e j k) F) l k m n o p x=some r) ?_ ?_
   ·intro z h
    rw[Z7a]at h
    try dsimp only at h
    refine AW.st (R [0,2,3,4] ?_)
    obtain⟨T,H,h⟩:=oc h (Z6 hk 2 rfl)
    refine seq (rg hS [0,2,3,4] (di1 (cb H)) ?_)
    refine seq (Ua4 h [0,2,3,4,5] (Z6 hk 0 rfl) λU I V W h=>?_)
    refine rg hS [0,2,3] di ?_
    exact nx h (Wc 2)
   refine seq (Ua1 h [0,2,3,4,22] (Z7 hk 1 rfl) λY h=>?_)
   refine ik h (λh=>?_) λh=>?_
   ·refine G [0,2,3,4] ?_
    exact jn h
   exact jn h
  obtain⟨A,J,h⟩:=obs h
  have u:=(hk 1 58 rfl).ret (([124,124]:Str),a,d,e,f,g,i) J rfl rfl
  try simp only[PVE]at u
  have K:=Q3j u rfl rfl rfl rfl
  refine rg hS [0,2,3,20] (di1 (an s (an y (an q (an t K))))) ?_
  refine iz h (λh=>?_) λh=>?_
  ·refine skip (block ?_)
   refine R [0,2,3,4] ?_
   refine seqM ⟨sl [(0,.ref 0 0),(2,.ref 1 0),(3,.ref 2 0),(4,ai (bif A then 6 else 5))],42,[V27 a d e f g i,V5 0 0 [],V8 l k.at_ m n o p]⟩ ?_ ?_
   ·have M:=Q3j u rfl rfl rfl rfl
    refine seq (rg hS [0,2,3,4,22] (di1 (ap0 58 hpf M)) ?_)
    refine cond (b:=A) rfl (λw=>?_) (λw=>?_)
    ·refine G [0,2,3,4] ?_
     exact Weak.of_eq (Weak.slots (L:=[(0,.ref 0 0),(2,.ref 1 0),(3,.ref 2 0),(4,ai 6)]) kp) (wq w)
    exact skip (Weak.of_eq (Weak.slots (L:=[(0,.ref 0 0),(2,.ref 1 0),(3,.ref 2 0),(4,ai 5)]) kp) (wq w))
   refine R [0,2,3,4] ?_
   refine seq (Ua1 h [0,2,3,4] (Z6 hk 2 rfl) λI h=>?_)
   refine seq (Ua4 h [0,2,3,4,5] (Z6 hk 0 rfl) λaa ac ad ae h=>?_)
   refine rg hS [0,2,3] di ?_
   exact nx h (Wc 2)
  exact exit (Rt h [2])
 refine rg hS [0,2,3,20] (di1 s) ?_
 exact cF (exit (Rt h [2]))
theorem Y1m(c:AllG env [S59]):Q0c env S60:=by
 refine hd c Y4a 16 λO X hS hX hpf hk ⟨a,b,d,e,f,g⟩=>λr (h:F60 a b d e f g=some r)=>gs ?_
 rw[F60]at h
 refine R [0,6] ?_
 refine ik h (λh=>?_) λh=>?_
 ·refine R [0] ?_
  refine Ua1 h [] (Z6 hk 0 rfl) λi h=>?_
  cases h
  exact fin
 cases h
 exact fin
theorem K8h{g:Y3}(c:AllG env [S55,S56,S57 g,S58,S59,S60]):Q0c env (S24 g):=by
 refine hd c Y4y 64 λO X hS hX hpf hk ⟨a,b,d,e,w,y,z⟩=>λr (h:F24 g a b d e w y z=some r)=>gs ?_
 rw[F24]at h
 refine R [0,1] ?_
 refine seq (rg hS [0,1,5] di ?_)
 refine weak (Weak.own 5 36 6 (by decide) rfl) ?_
 refine weak (Weak.slots (L:=[(0,.ref 0 0),(1,as_ a),(5,.vec 1 (List.length ([]:List Cmd)))]) ⟨rfl,rfl,rfl,trivial⟩) ?_
 refine seq (block ?_)
 refine Lp h (λ(p,q,s,j)=>⟨sl [(0,.ref 0 0),(1,as_ a),(5,.vec 1 (List.length j))],64,[V27 b d e p q s,rCm j]⟩) ?_
 clear h
 rintro⟨p,q,s,j⟩ m18 h
 rw[Q2g]at h
 try dsimp only at h
 refine AW.st (seq ?_)
 refine R [0,1,5,12] ?_
 refine iz h (λh=>?_) λh=>?_
 ·refine skip (block ?_)
  refine seq (Ua1 h [0,1,5] (Z6 hk 0 rfl) λE h=>?_)
  refine seq (seq ?_)
  refine Ua1 h [0,1,5,17] (Z7 hk 1 rfl) λF h=>?_
  refine ik h (λh=>?_) λh=>?_
  ·exact Rt h [4]
  refine seq (Ua4 h [0,1,5,6] (Z6 hk 2 rfl) λt k l m h=>?_)
  refine seq (seq ?_)
  refine Ua1 h [0,1,5,6,22] (Z7 hk 3 rfl) λH h=>?_
  refine ik h (λh=>?_) λh=>?_
  ·refine R [0,1,5,6] ?_
   replace h:=ap Cmd.pv h;obtain⟨I,A,h⟩:=h
   refine seq (rg hS [0,1,5] (di1 A) ?_)
   exact exit (nx h)
  replace h:=ap Cmd.pv h;obtain⟨f,C,h⟩:=h
  refine seq (rg hS [0,1,5] (di1 C) ?_)
  refine seq (Ua1 h [0,1,5,7] (Z7 hk 1 rfl) λJ h=>?_)
  refine seqJ (α:=Bool) (λn=>⟨sl [(0,.ref 0 0),(1,as_ a),(5,.vec 1 (List.length f)),(7,ab n)],64,[V27 b d e k l m,rCm f,V9 t]⟩) (λx=>Z0d b d e k l m (iter (Q2g b d e a g) m18) f x=some r) ?_ ?_
  ·intro n h
   rw[Z0d]at h
   try dsimp only at h
   obtain⟨K,u,h⟩:=oc h (Z6 hk 4 rfl)
   refine AW.st (seq ?_)
   rcases bs h with⟨o,h⟩|⟨o,h⟩
   ·obtain⟨D,i,h⟩:=oc h (Z7 hk 3 rfl)
    replace i:=cb i
    try simp only[PVE]at i
    refine reg hS [(0,.ref 0 0),(1,as_ a),(5,.vec 1 (List.length f)),(61,ab (!D&&!n))] [V27 b d e k l m,rCm f,V9 t] ?_ ?_
    ·clear h hk hS hX c
     exact dh1 (an (cb u) (an o i))
    refine ik h (λh=>?_) λh=>?_
    ·refine Ua2 h [0,1,5] (Z6 hk 5 rfl) λM N h=>?_
     exact nx h
    exact nx h
   refine rg hS [0,1,5,61] (di1 (an (cb u) o)) ?_
   exact cF (skip (nx h))
  refine R [0,1,5,7,46] ?_
  refine ik h (λh=>?_) λh=>?_
  ·refine Ua1 h [0,1,5,7] (Z7 hk 3 rfl) λP h=>?_
   exact jn h
  exact jn h
 exact exit (Rt h [4])
theorem K9r(c:AllG env [S59,S171,S172,S60]):Q0c env S173:=by
 refine hd c V4b 31 λO X hS hX hpf hk ⟨f,g,i,j,k,l⟩=>λr (h:F173 f g i j k l=some r)=>?_
 have m:O.pf 171=true:=pft hpf 171 rfl
 refine gs ?_
 rw[F173]at h
 refine R [0] ?_
 refine seq (Ua1 h [0,3] (Z6 hk 0 rfl) λa h=>?_)
 obtain⟨n,b,h⟩:=obs h
 replace b:=Q0d b
 have o:=λd=>(hk 1 171 rfl).ret a.quoted_ (b d) rfl rfl
 obtain⟨p,e,h⟩:=obs h
 replace e:=Q0d e
 have q:=λd=>(hk 2 172 rfl).ret a.text_ (e d) rfl rfl
 refine seq (seq ?_)
 refine reg hS [(0,.ref 0 0),(3,.ref 1 0),(19,ab ((!decide (a.kind_=1)||n)||!p))] [V27 f g i j k l,V1 a] ?_ ?_
 ·clear h hk hS hX c
  exact dh1 (an m (an o (ap1 172 hpf q)))
 refine ik h (λh=>?_) λh=>?_
 ·refine Ua2 h [0,3] (Z6 hk 3 rfl) λs t h=>?_
  refine R [3] ?_
  exact Rt h [2]
 refine R [3] ?_
 exact Rt h [2]
end Go.Abs.U48
