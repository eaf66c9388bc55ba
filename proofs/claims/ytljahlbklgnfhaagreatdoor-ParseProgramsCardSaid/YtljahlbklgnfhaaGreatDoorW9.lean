import Derived.Test.YtljahlbklgnfhaaGreatDoorD1
set_option linter.unusedVariables false
set_option linter.unusedSimpArgs false
set_option linter.defProp false
set_option maxRecDepth 8000
set_option maxHeartbeats 4000000
namespace Go.Abs.U48
open Go.RowKit Go.Proofs AW
theorem V5w(c:AllG env []):Q0a env S59:=by
 refine hd c V8k 29 fun O X hS hX hpf hk ⟨x1,x2,x3,x4,x5,x6⟩=>fun r (h:F59 x1 x2 x3 x4 x5 x6=some r)=>gs ?_
 rw[F59]at h
 refine R [0,2] ?_
 refine seq (seq ?_)
 apply dgk mixed hS [0,2,12] (ordp hpf (by kernel_rfl))
 ·exact di
 refine ik h (fun h=>?_) fun h=>?_
 ·refine seq ?_
  obtain⟨u9,f11,h⟩:=oc h fun _=>Q0j
  apply dgB mixed hS [(2,some 1),(21,none)] [2] rfl (ordB hpf (B:=[(2,some 1),(21,none)]) (by kernel_rfl))
  ·exact di1 (an f11.1 f11.2.1)
  exact Rf h
 exact Rt h [2]
theorem V5x(c:AllG env [S59]):Q0a env S58:=by
 refine hd c V8l 16 fun O X hS hX hpf hk ⟨s1,x2,x3,x4,x5,x6,x7⟩=>fun r (h:F58 s1 x2 x3 x4 x5 x6 x7=some r)=>gs ?_
 rw[F58]at h
 refine R [0,1] ?_
 obtain⟨r9,f11,h⟩:=oc h (Z6 hk 0 rfl)
 refine seq (reg hS [(4,ab (decide (r9.kind_=2)&&decide (r9.text_=s1)))] [V27 x2 x3 x4 x5 x6 x7] ?_ ?_)
 ·clear h hk hS hX c
  exact dh1 (an (cb f11) (cb f11))
 exact Rf h
theorem V5z(c:AllG env [S59,S58]):Q0a env S55:=by
 refine hd c V8o 17 fun O X hS hX hpf hk ⟨x1,x2,x3,x4,x5,x6⟩=>fun r (h:F55 x1 x2 x3 x4 x5 x6=some r)=>gs ?_
 rw[F55]at h
 refine block (Lp h (fun x8=>⟨sl [(0,.ref 0 0)],17,[V27 x1 x2 x3 x8 x5 x6]⟩) ?_)
 clear h
 rintro x8 m11 h
 rw[Z5d]at h
 try dsimp only at h
 obtain⟨r12,f14,h⟩:=oc h (Z6 hk 0 rfl)
 refine AW.st (seq ?_)
 refine seq ?_
 rcases bs h with⟨hsp31,h⟩|⟨hsp31,h⟩
 ·refine rg hS [0,9] (di1 (an (cb f14) hsp31)) ?_
  refine cond (b:=true) rfl (fun _=>?_) (fun hb=>absurd hb (by decide))
  refine skip (block ?_)
  refine G [0] ?_
  exact nx h
 obtain⟨r16,f18,h⟩:=oc h (Z7 hk 1 rfl)
 replace f18:=cb f18
 try simp only[PVE]at f18
 refine rg hS [0,9] (di1 (an (cb f14) (an hsp31 f18))) ?_
 refine iz h (fun h=>?_) fun h=>?_
 ·refine skip (block ?_)
  refine G [0] ?_
  exact nx h
 exact ex h
theorem K5c(c:AllG env []):Q0a env S171:=by
 refine hd c K9m 14 ?_
 rintro O X hS hX hpf hk (quoted1:Str) (r:Bool) (h:F171 quoted1=some r)
 refine gs ?_
 rw[F171]at h
 refine R [0] ?_
 refine seq (R [0,3] ?_)
 refine block (Lp h (fun i3=>⟨sl [(0,as_ quoted1),(3,ai i3)],14,[]⟩) ?_)
 clear h
 rintro i3 m6 h
 rw[J3h]at h
 try dsimp only at h
 refine AW.st (seq ?_)
 refine R [0,3,7] ?_
 refine iz h (fun h=>?_) fun h=>?_
 ·obtain⟨c8,f10,h⟩:=oc h fun _=>Q1t
  refine skip (seq ?_)
  refine block (seq ?_)
  refine rg hS [0,3,13] (di1 (an f10.1 (an f10.2.1 f10.2.2))) ?_
  refine ik h (fun h=>?_) fun h=>?_
  ·exact Rt h [2]
  refine G [0,3] ?_
  exact nx h
 exact exit (Rt h [2])
theorem K5o(c:AllG env [S59,S171]):Q0a env S140:=by
 refine hd c V0c 23 fun O X hS hX hpf hk ⟨s1,x2,x3,x4,x5,x6,x7⟩=>fun r (h:F140 s1 x2 x3 x4 x5 x6 x7=some r)=>gs ?_
 rw[F140]at h
 refine R [0,1] ?_
 refine seq (Ua1 h [1,5] (Z6 hk 0 rfl) fun r9 h=>?_)
 obtain⟨r13,q14,h⟩:=obs h
 replace q14:=Q0d q14
 have f15:=fun hg=>(hk 1 171 rfl).ret r9.quoted_ (q14 hg) rfl rfl
 refine seq (reg hS [(4,ab ((decide (r9.kind_=1)&&decide (r9.text_=s1))&&!r13))] [V27 x2 x3 x4 x5 x6 x7,V1 r9] ?_ ?_)
 ·clear h hk hS hX c
  exact dh1 (ap1 171 hpf f15)
 exact Rf h
theorem K5b(c:AllG env []):Q0a env S172:=by
 refine hd c K9l 59 ?_
 rintro O X hS hX hpf hk (s1:Str) (r:Bool) (h:F172 s1=some r)
 refine gs ?_
 rw[F172]at h
 refine R [0] ?_
 refine seq (R [0,3] ?_)
 refine block (Lp h (fun i3=>⟨sl [(0,as_ s1),(3,ai i3)],59,[]⟩) ?_)
 clear h
 rintro i3 m6 h
 rw[J3g]at h
 try dsimp only at h
 refine AW.st (seq ?_)
 refine R [0,3,7] ?_
 refine iz h (fun h=>?_) fun h=>?_
 ·obtain⟨c8,f10,h⟩:=oc h fun _=>Q1t
  refine skip (seq ?_)
  refine block (seq ?_)
  refine reg hS [(0,as_ s1),(3,ai i3),(56,ab (!(((((decide (97≤c8)&&decide (c8≤122))||(decide (65≤c8)&&decide (c8≤90)))||(decide (48≤c8)&&decide (c8≤57)))||decide (c8=95))||decide (c8=42))))] [] ?_ ?_
  ·clear h hk hS hX c
   exact dh1 (an f10.1 (an f10.2.1 f10.2.2))
  refine ik h (fun h=>?_) fun h=>?_
  ·exact Rt h [2]
  refine G [0,3] ?_
  exact nx h
 exact exit (Rt h [2])
theorem K5n(c:AllG env [S59,S171,S172]):Q0a env S141:=by
 refine hd c V0b 61 fun O X hS hX hpf hk ⟨x1,x2,x3,x4,x5,x6⟩=>fun r (h:F141 x1 x2 x3 x4 x5 x6=some r)=>?_
 have pf_171:O.pf 171=true:=pft hpf 171 rfl
 refine gs ?_
 rw[F141]at h
 refine R [0] ?_
 refine seq (Ua1 h [0,3] (Z6 hk 0 rfl) fun r8 h=>?_)
 obtain⟨r12,q13,h⟩:=obs h
 replace q13:=Q0d q13
 have f14:=fun hg=>(hk 1 171 rfl).ret r8.quoted_ (q13 hg) rfl rfl
 obtain⟨r15,q16,h⟩:=obs h
 replace q16:=Q0d q16
 have f17:=fun hg=>(hk 2 172 rfl).ret r8.text_ (q16 hg) rfl rfl
 refine seq (seq ?_)
 refine dreg mixed hS (ordp hpf (by kernel_rfl)) [(0,.ref 0 0),(32,ab (((!decide (r8.kind_=1)||r12)||!r15)||decide ((x2.length:Int)≤IntKind.wrap .i64 (x4+1))))] [V27 x1 x2 x3 x4 x5 x6,V1 r8] ?_ ?_
 ·clear h hk hS hX c
  exact dh1 (an pf_171 (an f14 (ap1 172 hpf f17)))
 refine ik h (fun h=>?_) fun h=>?_
 ·exact Rt h [2]
 obtain⟨u19,f21,h⟩:=oc h fun _=>Q0j
 refine seq (dreg mixed hS (ordp hpf (by kernel_rfl)) [(2,ab (decide (u19.kind_=2)&&decide (u19.text_=[61])))] [V27 x1 x2 x3 x4 x5 x6,V1 r8] ?_ ?_)
 ·clear h hk hS hX c
  exact dh1 (an f21.1 f21.2.1)
 exact Rf h
theorem V4x(c:AllG env [S140,S141]):Q0a env S95:=by
 refine hd c V7j 10 fun O X hS hX hpf hk ⟨x1,x2,x3,x4,x5,x6⟩=>fun r (h:F95 x1 x2 x3 x4 x5 x6=some r)=>gs ?_
 rw[F95]at h
 refine R [0] ?_
 obtain⟨r8,f10,h⟩:=oc h (Z7 hk 0 rfl)
 replace f10:=cb f10
 try simp only[PVE]at f10
 refine seq ?_
 rcases bs h with⟨hsp33,h⟩|⟨hsp33,h⟩
 ·obtain⟨r12,f14,h⟩:=oc h (Z6 hk 1 rfl)
  exact rg hS [2] (di1 (an f10 (an hsp33 (cb f14)))) (Rf h)
 exact rg hS [2] (di1 (an f10 hsp33)) (Rf h)
theorem V5y(c:AllG env [S95,S58]):Q0a env S56:=by
 refine hd c V8n 29 fun O X hS hX hpf hk ⟨end1,x2,x3,x4,x5,x6,x7⟩=>fun r (h:F56 end1 x2 x3 x4 x5 x6 x7=some r)=>gs ?_
 rw[F56]at h
 refine R [0,1] ?_
 refine seq (R [0,1,5] ?_)
 refine block (R [0,1,5,6] ?_)
 refine iz h (fun h=>?_) fun h=>?_
 ·refine seq ?_
  apply dgk mixed hS [4] (ordp hpf (by kernel_rfl))
  ·exact di
  exact Rf h
 refine R [0,1,18] ?_
 refine ik h (fun h=>?_) fun h=>?_
 ·obtain⟨r11,f13,h⟩:=oc h (Z6 hk 0 rfl)
  refine seq ?_
  rcases bs h with⟨hsp35,h⟩|⟨hsp35,h⟩
  ·exact rg hS [4] (di1 (an (cb f13) hsp35)) (Rf h)
  obtain⟨r15,f17,h⟩:=oc h (Z7 hk 1 rfl)
  replace f17:=cb f17
  try simp only[PVE]at f17
  exact rg hS [4] (di1 (an (cb f13) (an hsp35 f17))) (Rf h)
 refine seq (Ua1 h [4] (Z7 hk 1 rfl) fun r19 h=>?_)
 exact Rf h
theorem V4w(c:AllG env [S59]):Q0a env S97:=by
 refine hd c V7h 13 fun O X hS hX hpf hk ⟨x1,x2,x3,x4,x5,x6⟩=>fun r (h:F97 x1 x2 x3 x4 x5 x6=some r)=>gs ?_
 rw[F97]at h
 refine block (Lp h (fun x8=>⟨sl [(0,.ref 0 0)],13,[V27 x1 x2 x3 x8 x5 x6]⟩) ?_)
 clear h
 rintro x8 m11 h
 rw[Z0r]at h
 try dsimp only at h
 refine AW.st (seq ?_)
 refine seq (Ua1 h [0,5] (Z6 hk 0 rfl) fun r12 h=>?_)
 refine iz h (fun h=>?_) fun h=>?_
 ·refine skip (block ?_)
  refine G [0] ?_
  exact nx h
 exact ex h
theorem K2p{w142:Y3}(c:AllG env [S142 w142,S58,S97]):Q0a env (S96 w142):=by
 refine hd c V7i 40 fun O X hS hX hpf hk ⟨x1,x2,x3,x4,x5,x6⟩=>fun r (h:F96 w142 x1 x2 x3 x4 x5 x6=some r)=>gs ?_
 rw[F96]at h
 refine R [0,2] ?_
 refine seq (Ua4 h [0,2,3] (Z6 hk 0 rfl) fun r11 r12 r13 r14 h=>?_)
 refine seq (rg hS [0,2,3,4] di ?_)
 refine seq (block ?_)
 refine Lq r (Q6d x1 x2 x3 w142 r11) (fun(x18,x19,x20,l21)=>⟨sl [(0,.ref 0 0),(2,.ref 1 0),(3,.ref 2 0),(4,.vec 3 (List.length l21))],40,[V27 x1 x2 x3 x18 x19 x20,V5 0 0 [],V9 r11,rCm l21]⟩) ?_ ?_
 ·refine seq (seq ?_)
  rcases bs h with⟨hsp45,h⟩|⟨hsp45,h⟩
  ·obtain⟨r46,f48,h⟩:=oc h (Z7 hk 1 rfl)
   replace f48:=cb f48
   try simp only[PVE]at f48
   refine rg hS [0,2,3,4,17] (di1 (an hsp45 f48)) ?_
   refine iz h (fun h=>?_) fun h=>?_
   ·refine skip (block ?_)
    refine R [0,2,3,4] ?_
    refine seq (Ua1 h [0,2,3,4] (Z6 hk 2 rfl) fun x51 h=>?_)
    obtain⟨⟨r55,r56,r57,r58⟩,f60,h⟩:=oc h (Z6 hk 0 rfl)
    replace h:=ap Cmd.pv h;obtain⟨out62,f64,h⟩:=h
    refine reg hS [(0,.ref 0 0),(2,.ref 1 0),(3,.ref 2 0),(4,.vec 3 (List.length out62))] [V27 x1 x2 x3 r56 r57 r58,V5 0 0 [],V9 r11,rCm out62] (dk1 (an (cb f60) f64)) ?_
    exact ny h
   refine exit (seq ?_)
   refine R [2,3,4,34] ?_
   refine ik h (fun h=>?_) fun h=>?_
   ·exact Rt h [2]
   exact Rt h [2]
  refine rg hS [0,2,3,4,17] (di1 hsp45) ?_
  refine cF (exit (seq ?_))
  refine R [2,3,4,34] ?_
  refine ik h (fun h=>?_) fun h=>?_
  ·exact Rt h [2]
  exact Rt h [2]
 clear h
 rintro⟨x18,x19,x20,l21⟩ m24 h
 unfold Q6d at h
 try dsimp only at h
 refine AW.st (seq ?_)
 refine seq ?_
 rcases bs h with⟨hsp44,h⟩|⟨hsp44,h⟩
 ·obtain⟨r25,f27,h⟩:=oc h (Z7 hk 1 rfl)
  replace f27:=cb f27
  try simp only[PVE]at f27
  refine rg hS [0,2,3,4,17] (di1 (an hsp44 f27)) ?_
  refine iz h (fun h=>?_) fun h=>?_
  ·refine skip (block ?_)
   refine R [0,2,3,4] ?_
   refine seq (Ua1 h [0,2,3,4] (Z6 hk 2 rfl) fun x30 h=>?_)
   obtain⟨⟨r34,r35,r36,r37⟩,f39,h⟩:=oc h (Z6 hk 0 rfl)
   replace h:=ap Cmd.pv h;obtain⟨out41,f43,h⟩:=h
   refine rg hS [0,2,3,4] (di1 (an (cb f39) f43)) ?_
   exact nx h
  refine exit (seq ?_)
  refine R [2,3,4,34] ?_
  refine ik h (fun h=>?_) fun h=>?_
  ·exact Rt h [2]
  exact Rt h [2]
 refine rg hS [0,2,3,4,17] (di1 hsp44) ?_
 refine cF (exit (seq ?_))
 refine R [2,3,4,34] ?_
 refine ik h (fun h=>?_) fun h=>?_
 ·exact Rt h [2]
 exact Rt h [2]
theorem K2t{w142:Y3}(c:AllG env [S96 w142,S58,S97]):Q0a env (S57 w142):=by
 refine hd c V8m 42 fun O X hS hX hpf hk ⟨x1,x2,x3,x4,x5,x6⟩=>fun r (h:F57 w142 x1 x2 x3 x4 x5 x6=some r)=>?_
 have pf_58:O.pf 58=false:=pft hpf 58 rfl
 refine gs ?_
 rw[F57]at h
 refine R [0,2] ?_
 refine seq (Ua4 h [0,2,3] (Z6 hk 0 rfl) fun r11 x12 x13 x14 h=>?_)
 refine seq (block ?_)
 refine Lp h (fun(x18,x19,x20,x21,x22,x23,x24,x25)=>⟨sl [(0,.ref 0 0),(2,.ref 1 0),(3,.ref 2 0)],42,[V27 x1 x2 x3 x18 x19 x20,V5 0 0 [],V8 x21 r11.at_ x22 x23 x24 x25]⟩) ?_
 clear h
 rintro⟨x18,x19,x20,x21,x22,x23,x24,x25⟩ m28 h
 rw[Q6x]at h
 try dsimp only at h
 refine AW.st (seq ?_)
 refine seq ?_
 rcases bs h with⟨hsp53,h⟩|⟨hsp53,h⟩
 ·obtain⟨r29,f31,h⟩:=oc h (Z7 hk 1 rfl)
  replace f31:=cb f31
  try simp only[PVE]at f31
  rcases bs h with⟨hsp54,h⟩|⟨hsp54,h⟩
  ·refine rg hS [0,2,3,20] (di1 (an hsp53 (an pf_58 (an f31 hsp54)))) ?_
   refine cond (b:=true) rfl (fun _=>?_) (fun hb=>absurd hb (by decide))
   refine skip (block ?_)
   refine R [0,2,3,4] ?_
   refine seqJ (α:=Int) (fun kind34=>⟨sl [(0,.ref 0 0),(2,.ref 1 0),(3,.ref 2 0),(4,ai kind34)],42,[V27 x1 x2 x3 x18 x19 x20,V5 0 0 [],V8 x21 r11.at_ x22 x23 x24 x25]⟩) (fun x=>Z5c x1 x2 x3 x18 x19 x20 w142 (iter (Q6x x1 x2 x3 w142 r11) m28) x21 r11 x22 x23 x24 x25 x=some r) ?_ ?_
   ·intro kind34 h
    rw[Z5c]at h
    try dsimp only at h
    refine AW.st (R [0,2,3,4] ?_)
    obtain⟨x35,f37,h⟩:=oc h (Z6 hk 2 rfl)
    refine seq (rg hS [0,2,3,4] (di1 (cb f37)) ?_)
    refine seq (Ua4 h [0,2,3,4,5] (Z6 hk 0 rfl) fun r39 x40 x41 x42 h=>?_)
    refine rg hS [0,2,3] di ?_
    exact nx h (Wc 2)
   refine seq (Ua1 h [0,2,3,4,22] (Z7 hk 1 rfl) fun r46 h=>?_)
   refine ik h (fun h=>?_) fun h=>?_
   ·refine G [0,2,3,4] ?_
    exact jn h
   exact jn h
  obtain⟨r33,q34,h⟩:=obs h
  have f35:=(hk 1 58 rfl).ret (([124,124]:Str),x1,x2,x3,x18,x19,x20) q34 rfl rfl
  try simp only[PVE]at f35
  have e36:=Q2y f35 rfl rfl rfl rfl
  refine rg hS [0,2,3,20] (di1 (an hsp53 (an pf_58 (an f31 (an hsp54 e36))))) ?_
  refine iz h (fun h=>?_) fun h=>?_
  ·refine skip (block ?_)
   refine R [0,2,3,4] ?_
   refine seqM ⟨sl [(0,.ref 0 0),(2,.ref 1 0),(3,.ref 2 0),(4,ai (bif r33 then 6 else 5))],42,[V27 x1 x2 x3 x18 x19 x20,V5 0 0 [],V8 x21 r11.at_ x22 x23 x24 x25]⟩ ?_ ?_
   ·have e38:=Q2y f35 rfl rfl rfl rfl
    refine seq (rg hS [0,2,3,4,22] (di1 (ap0 58 hpf e38)) ?_)
    refine cond (b:=r33) rfl (fun hb39=>?_) (fun hb39=>?_)
    ·refine G [0,2,3,4] ?_
     exact Weak.of_eq (Weak.slots (L:=[(0,.ref 0 0),(2,.ref 1 0),(3,.ref 2 0),(4,ai 6)]) kp) (wq hb39)
    exact skip (Weak.of_eq (Weak.slots (L:=[(0,.ref 0 0),(2,.ref 1 0),(3,.ref 2 0),(4,ai 5)]) kp) (wq hb39))
   refine R [0,2,3,4] ?_
   refine seq (Ua1 h [0,2,3,4] (Z6 hk 2 rfl) fun x40 h=>?_)
   refine seq (Ua4 h [0,2,3,4,5] (Z6 hk 0 rfl) fun r44 x45 x46 x47 h=>?_)
   refine rg hS [0,2,3] di ?_
   exact nx h (Wc 2)
  exact exit (Rt h [2])
 refine rg hS [0,2,3,20] (di1 hsp53) ?_
 exact cF (exit (Rt h [2]))
theorem V5v(c:AllG env [S59]):Q0a env S60:=by
 refine hd c V8j 16 fun O X hS hX hpf hk ⟨x1,x2,x3,x4,x5,x6⟩=>fun r (h:F60 x1 x2 x3 x4 x5 x6=some r)=>gs ?_
 rw[F60]at h
 refine R [0,6] ?_
 refine ik h (fun h=>?_) fun h=>?_
 ·refine R [0] ?_
  refine Ua1 h [] (Z6 hk 0 rfl) fun r10 h=>?_
  cases h
  exact fin
 cases h
 exact fin
theorem K3q{w142:Y3}(c:AllG env [S55,S56,S57 w142,S58,S59,S60]):Q0a env (S24 w142):=by
 refine hd c V9h 64 fun O X hS hX hpf hk ⟨end1,x2,x3,x4,x5,x6,x7⟩=>fun r (h:F24 w142 end1 x2 x3 x4 x5 x6 x7=some r)=>gs ?_
 rw[F24]at h
 refine R [0,1] ?_
 refine seq (rg hS [0,1,5] di ?_)
 refine weak (Weak.own 5 36 6 (by decide) rfl) ?_
 refine weak (Weak.slots (L:=[(0,.ref 0 0),(1,as_ end1),(5,.vec 1 (List.length ([]:List Cmd)))]) ⟨rfl,rfl,rfl,trivial⟩) ?_
 refine seq (block ?_)
 refine Lp h (fun(x12,x13,x14,l15)=>⟨sl [(0,.ref 0 0),(1,as_ end1),(5,.vec 1 (List.length l15))],64,[V27 x2 x3 x4 x12 x13 x14,rCm l15]⟩) ?_
 clear h
 rintro⟨x12,x13,x14,l15⟩ m18 h
 rw[Q1z]at h
 try dsimp only at h
 refine AW.st (seq ?_)
 refine R [0,1,5,12] ?_
 refine iz h (fun h=>?_) fun h=>?_
 ·refine skip (block ?_)
  refine seq (Ua1 h [0,1,5] (Z6 hk 0 rfl) fun x20 h=>?_)
  refine seq (seq ?_)
  refine Ua1 h [0,1,5,17] (Z7 hk 1 rfl) fun r24 h=>?_
  refine ik h (fun h=>?_) fun h=>?_
  ·exact Rt h [4]
  refine seq (Ua4 h [0,1,5,6] (Z6 hk 2 rfl) fun r29 x30 x31 x32 h=>?_)
  refine seq (seq ?_)
  refine Ua1 h [0,1,5,6,22] (Z7 hk 3 rfl) fun r36 h=>?_
  refine ik h (fun h=>?_) fun h=>?_
  ·refine R [0,1,5,6] ?_
   replace h:=ap Cmd.pv h;obtain⟨out41,f43,h⟩:=h
   refine seq (rg hS [0,1,5] (di1 f43) ?_)
   exact exit (nx h)
  replace h:=ap Cmd.pv h;obtain⟨out44,f46,h⟩:=h
  refine seq (rg hS [0,1,5] (di1 f46) ?_)
  refine seq (Ua1 h [0,1,5,7] (Z7 hk 1 rfl) fun r47 h=>?_)
  refine seqJ (α:=Bool) (fun ends51=>⟨sl [(0,.ref 0 0),(1,as_ end1),(5,.vec 1 (List.length out44)),(7,ab ends51)],64,[V27 x2 x3 x4 x30 x31 x32,rCm out44,V9 r29]⟩) (fun x=>Q8z x2 x3 x4 x30 x31 x32 (iter (Q1z x2 x3 x4 end1 w142) m18) out44 x=some r) ?_ ?_
  ·intro ends51 h
   rw[Q8z]at h
   try dsimp only at h
   obtain⟨r52,f54,h⟩:=oc h (Z6 hk 4 rfl)
   refine AW.st (seq ?_)
   rcases bs h with⟨hsp59,h⟩|⟨hsp59,h⟩
   ·obtain⟨r56,f58,h⟩:=oc h (Z7 hk 3 rfl)
    replace f58:=cb f58
    try simp only[PVE]at f58
    refine reg hS [(0,.ref 0 0),(1,as_ end1),(5,.vec 1 (List.length out44)),(61,ab (!r56&&!ends51))] [V27 x2 x3 x4 x30 x31 x32,rCm out44,V9 r29] ?_ ?_
    ·clear h hk hS hX c
     exact dh1 (an (cb f54) (an hsp59 f58))
    refine ik h (fun h=>?_) fun h=>?_
    ·refine Ua2 h [0,1,5] (Z6 hk 5 rfl) fun x61 x62 h=>?_
     exact nx h
    exact nx h
   refine rg hS [0,1,5,61] (di1 (an (cb f54) hsp59)) ?_
   exact cF (skip (nx h))
  refine R [0,1,5,7,46] ?_
  refine ik h (fun h=>?_) fun h=>?_
  ·refine Ua1 h [0,1,5,7] (Z7 hk 3 rfl) fun r67 h=>?_
   exact jn h
  exact jn h
 exact exit (Rt h [4])
theorem K5a(c:AllG env [S59,S171,S172,S60]):Q0a env S173:=by
 refine hd c K9k 31 fun O X hS hX hpf hk ⟨x1,x2,x3,x4,x5,x6⟩=>fun r (h:F173 x1 x2 x3 x4 x5 x6=some r)=>?_
 have pf_171:O.pf 171=true:=pft hpf 171 rfl
 refine gs ?_
 rw[F173]at h
 refine R [0] ?_
 refine seq (Ua1 h [0,3] (Z6 hk 0 rfl) fun r11 h=>?_)
 obtain⟨r15,q16,h⟩:=obs h
 replace q16:=Q0d q16
 have f17:=fun hg=>(hk 1 171 rfl).ret r11.quoted_ (q16 hg) rfl rfl
 obtain⟨r18,q19,h⟩:=obs h
 replace q19:=Q0d q19
 have f20:=fun hg=>(hk 2 172 rfl).ret r11.text_ (q19 hg) rfl rfl
 refine seq (seq ?_)
 refine reg hS [(0,.ref 0 0),(3,.ref 1 0),(19,ab ((!decide (r11.kind_=1)||r15)||!r18))] [V27 x1 x2 x3 x4 x5 x6,V1 r11] ?_ ?_
 ·clear h hk hS hX c
  exact dh1 (an pf_171 (an f17 (ap1 172 hpf f20)))
 refine ik h (fun h=>?_) fun h=>?_
 ·refine Ua2 h [0,3] (Z6 hk 3 rfl) fun x22 x23 h=>?_
  refine R [3] ?_
  exact Rt h [2]
 refine R [3] ?_
 exact Rt h [2]
end Go.Abs.U48
