import Derived.Test.YtljahlbklgnfhaaGreatDoorD1
set_option linter.unusedVariables false
set_option linter.unusedSimpArgs false
set_option linter.defProp false
set_option maxRecDepth 8000
set_option maxHeartbeats 4000000
namespace Go.Abs.U48
open Go.RowKit Go.Proofs AW
theorem X6b{w200:Y0}(c:AllG env [S167 w200,S132,S168]):Q0a env (S131 w200):=by
 refine hd c V0l 28 fun O X hS hX hpf hk ⟨inCase1,x2,x3,x4,x5⟩=>fun r (h:F131 w200 inCase1 x2 x3 x4 x5=some r)=>gs ?_
 rw[F131]at h
 refine R [0,1,4] ?_
 refine seq (Xa2 h [0,1,4,5] (Z5 hk 0 rfl) 2 fun r8 x9 h=>?_)
 refine block (Lp h (fun(x16,x17,x18,x19,x20,x21)=>⟨sl [(0,.ref 0 0),(1,ab inCase1),(4,.ref 1 0),(5,.ref 2 0)],28,[V4 x2 x3 x4 x16,V5 0 0 [],V8 x17 r8.at_ x18 x19 x20 x21]⟩) ?_)
 clear h
 rintro⟨x16,x17,x18,x19,x20,x21⟩ m24 h
 rw[Q8a]at h
 try dsimp only at h
 refine AW.st (block ?_)
 refine R [0,1,4,5] ?_
 refine seqJ (α:=Int×Int) (fun(kind25,x26)=>⟨sl [(0,.ref 0 0),(1,ab inCase1),(4,.ref 1 0),(5,.ref 2 0),(6,ai kind25)],28,[V4 x2 x3 x4 x26,V5 0 0 [],V8 x17 r8.at_ x18 x19 x20 x21]⟩) (fun x=>Z1s x2 x3 x4 w200 inCase1 (iter (Q8a x2 x3 x4 w200 inCase1 r8) m24) x17 r8 x18 x19 x20 x21 x=some r) ?_ ?_
 ·intro⟨kind25,x26⟩ h
  rw[Z1s]at h
  try dsimp only at h
  refine AW.st (seq ?_)
  refine Ua1 h [0,1,4,5,6] (Z4 hk 2 rfl) fun x27 h=>?_
  rcases Q0w h with⟨n35,q33,rfl⟩|⟨⟨r31,x32⟩,q33,h⟩
  ·have f36:=(hk 0 167 rfl).boom (inCase1,x2,x3,x4,x27) q33 rfl rfl
   have e37:=Q4x f36 rfl rfl
   exact dS 19 9 6 [0,1,2,3,4,5] [ai kind25,.ref 2 1,ai r8.at_,.pv (PV.agg [.int .i64 x17,.int .i64 r8.at_,.str x18,.slice (List.map Word.pv x19),.slice (List.map Redir.pv x20),.slice (List.map Cmd.pv x21)]),.ref 0 0,ab inCase1,.any,.any,.any,.any] [.gone,V5 0 0 [],V8 x17 r8.at_ x18 x19 x20 x21] trivial e37
  dsimp only at h
  have f34:=(hk 0 167 rfl).ret (inCase1,x2,x3,x4,x27) q33 rfl rfl
  have e38:=Q2y f34 rfl rfl rfl rfl
  refine dV 19 9 [6,9] [(0,0),(0,1),(1,0),(1,1),(2,0),(2,1),(3,0),(3,1),(4,0),(5,0),(6,0),(7,1),(8,1),(9,1)] [ai kind25,.ref 2 1,ai r8.at_,.pv (PV.agg [.int .i64 x17,.int .i64 r8.at_,.str x18,.slice (List.map Word.pv x19),.slice (List.map Redir.pv x20),.slice (List.map Cmd.pv x21)]),.ref 0 0,ab inCase1,.pv (V7 r31),.full (List.map Cmd.pv [Cmd.mk x17 r8.at_ x18 x19 x20 x21,r31]),.agg [ai kind25,ai r8.at_,as_ [],.nils,.nils,.full (List.map Cmd.pv [Cmd.mk x17 r8.at_ x18 x19 x20 x21,r31])],.any] [[(0,V4 x2 x3 x4 x32)],[(2,.var [ai kind25,ai r8.at_,as_ [],.nils,.nils,.full (List.map Cmd.pv [Cmd.mk x17 r8.at_ x18 x19 x20 x21,r31])])]] [0,1,4,5] (ap0 167 hpf e38) ?_
  exact nx h (Wc 2)
 refine block (seq ?_)
 refine Ua2 h [0,1,4,5,11] (Z5 hk 1 rfl) fun r39 x40 h=>?_
 refine iz h (fun h=>?_) fun h=>?_
 ·refine G [0,1,4,5,6] ?_
  exact jn h
 refine seq (Ua2 h [0,1,4,5,14] (Z5 hk 1 rfl) fun r45 x46 h=>?_)
 refine iz h (fun h=>?_) fun h=>?_
 ·refine G [0,1,4,5,6] ?_
  exact jn h
 exact Rt h [4]
theorem K2q{w200:Y0}(c:AllG env [S131 w200,S132]):Q0a env (S82 w200):=by
 refine hd c V7u 17 fun O X hS hX hpf hk ⟨inCase1,x2,x3,x4,x5⟩=>fun r (h:F82 w200 inCase1 x2 x3 x4 x5=some r)=>gs ?_
 rw[F82]at h
 refine R [0,1,4] ?_
 refine seq (Xa2 h [0,4,5] (Z5 hk 0 rfl) 2 fun r8 x9 h=>?_)
 refine seq (seq ?_)
 refine Ua2 h [4,5,10] (Z5 hk 1 rfl) fun r16 x17 h=>?_
 refine ik h (fun h=>?_) fun h=>?_
 ·exact seq (rg hS [4] di (Rf h))
 exact Rt h [4]
theorem V6g(c:AllG env []):Q0a env S48:=by
 refine hd c V8t 30 fun O X hS hX hpf hk ⟨x1,x2,x3,x4⟩=>fun r (h:F48 x1 x2 x3 x4=some r)=>gs ?_
 rw[F48]at h
 refine seq (seq ?_)
 apply dgk mixed hS [0,11] (ordp hpf (by kernel_rfl))
 ·exact di
 refine ik h (fun h=>?_) fun h=>?_
 ·obtain⟨u6,f8,h⟩:=oc h fun _=>Q0j
  cases h
  refine dregS mixed hS hX 12 [0,1,2,3,4,5,6,7,8,9,10,11] [.ref 0 0,.ref 0 0,.ref 0 1,vTo x2,.ref 0 0,.ref 0 0,.ref 0 3,ai x4,.pptr [.int .i64 u6.kind_,.int .i64 u6.at_,.str u6.text_,.str u6.quoted_],.pptr [.int .i64 u6.at_,.str u6.text_,.str u6.quoted_],ai u6.at_,.ifc 73 (.int .i64 u6.at_),.any] [(12,.ref 0 0),(13,.ref 0 0),(14,.ref 0 1),(15,vTo x2),(16,.ref 0 0),(17,.ref 0 0),(18,.ref 0 3),(19,ai x4),(20,.pptr [.int .i64 u6.kind_,.int .i64 u6.at_,.str u6.text_,.str u6.quoted_]),(21,.pptr [.int .i64 u6.at_,.str u6.text_,.str u6.quoted_]),(22,ai u6.at_),(23,.ifc 73 (.int .i64 u6.at_)),(0,.ref 0 0),(11,ab (decide (x4<(x2.length:Int))))] rfl (by kernel_rfl) rfl (H':=[V4 x1 x2 x3 x4]) ?_ ?_ (J2u rfl rfl rfl)
  ·repeat'(first|exact Q3z.nil|refine Q3z.cons rfl rfl rfl ?_ ?_)
   all_goals exact dv1 (an f8.1 f8.2.1)
  exact Q6b.panic rfl rfl rfl
 cases h
 apply regS hS hX 6 rfl
 ·exact dp
 exact J2u rfl rfl rfl
theorem K2u{w200:Y0}(c:AllG env [S80,S81,S82 w200,S84,S83,S48]):Q0a env (S47 w200):=by
 refine hd c V8u 36 fun O X hS hX hpf hk ⟨inCase1,x2,x3,x4,x5⟩=>fun r (h:F47 w200 inCase1 x2 x3 x4 x5=some r)=>gs ?_
 rw[F47]at h
 refine R [0,1] ?_
 refine seq (rg hS [0,1,5] di ?_)
 refine weak (Weak.own 5 36 6 (by decide) rfl) ?_
 refine weak (Weak.slots (L:=[(0,.ref 0 0),(1,ab inCase1),(5,.vec 1 (List.length ([]:List Cmd)))]) ⟨rfl,rfl,rfl,trivial⟩) ?_
 refine seq (Ua2 h [0,1,5] (Z4 hk 0 rfl) fun r8 x9 h=>?_)
 refine seq (block ?_)
 refine Lp h (fun(x13,l14)=>⟨sl [(0,.ref 0 0),(1,ab inCase1),(5,.vec 1 (List.length l14))],36,[V4 x2 x3 x4 x13,rCm l14]⟩) ?_
 clear h
 rintro⟨x13,l14⟩ m17 h
 rw[Z7a]at h
 try dsimp only at h
 refine AW.st (seq ?_)
 refine seq (Ua1 h [0,1,5,11] (Z5 hk 1 rfl) fun r18 h=>?_)
 refine iz h (fun h=>?_) fun h=>?_
 ·refine skip (block ?_)
  refine seq (Xa2 h [0,1,5,6] (Z5 hk 2 rfl) 2 fun r23 x24 h=>?_)
  replace h:=ap Cmd.pv h;obtain⟨out31,f33,h⟩:=h
  refine seq (rg hS [0,1,5,6] (di1 f33) ?_)
  obtain⟨⟨r34,x35⟩,f37,h⟩:=oc h (Z4 hk 0 rfl)
  refine seq (seq ?_)
  refine reg hS [(0,.ref 0 0),(1,ab inCase1),(5,.vec 1 (List.length out31)),(25,ab (r34||decide (r23.kind_=14)))] [V4 x2 x3 x4 x35,rCm out31,V9 r23] ?_ ?_
  ·clear h hk hS hX c
   exact dh1 (cb f37)
  refine ik h (fun h=>?_) fun h=>?_
  ·exact exit (nx h)
  refine seq (seq ?_)
  rcases bs h with⟨hsp19,h⟩|⟨hsp19,h⟩
  ·obtain⟨r40,f42,h⟩:=oc h (Z5 hk 3 rfl)
   obtain⟨r44,f46,h⟩:=oc h (Zt hk 4 83 r40)
   refine rg hS [0,5,32] (di1 (an hsp19 (an (cb f42) (ca f46)))) ?_
   refine ik h (fun h=>?_) fun h=>?_
   ·refine Xa1 h [5] (Z4 hk 5 rfl) 1 fun _ h=>?_
    exact exit (Rt h [4])
   exact exit (Rt h [4])
  refine rg hS [0,5,32] (di1 hsp19) ?_
  refine cF (skip (exit ?_))
  exact Rt h [4]
 exact exit (Rt h [4])
theorem K5k(c:AllG env []):Q0a env S144:=by
 refine hd c K9z 46 ?_
 rintro O X hS hX hpf hk (s1:Str) (r:Bool) (h:F144 s1=some r)
 refine gs ?_
 rw[F144]at h
 refine R [0] ?_
 refine seq (R [0,6,7] ?_)
 refine block (Lp h (fun i3=>⟨sl [(0,as_ s1),(6,ai (s1.length:Int)),(7,ai i3)],46,[]⟩) ?_)
 clear h
 rintro i3 m6 h
 rw[Z9c]at h
 try dsimp only at h
 refine AW.st (R [0,6,7,8] ?_)
 refine seq (iz h (fun h=>?_) fun h=>?_)
 ·refine skip (seq ?_)
  refine block (R [0,3,6,7] ?_)
  obtain⟨c8,f10,h⟩:=oc h fun _=>Q1t
  refine seq (rg hS [0,4,6,7] (di1 (an f10.1 (an f10.2.1 f10.2.2))) ?_)
  refine seq (reg hS [(0,as_ s1),(6,ai (s1.length:Int)),(7,ai i3),(42,ab (((((decide (c8<97)||decide (122<c8))&&(decide (c8<65)||decide (90<c8)))&&(decide (c8<48)||decide (57<c8)))&&!decide (c8=95))&&!decide (c8=42)))] [] ?_ ?_)
  ·clear h hk hS hX c
   exact dh
  refine ik h (fun h=>?_) fun h=>?_
  ·exact Rt h [2]
  refine G [0,6,7] ?_
  exact nx h
 exact exit (Rt h [2])
theorem K4d{w200:Y0}{w252:Y1}(c:AllG env [S84,S252 w252,S81,S200 w200]):Q0a env (S223 w200 w252):=by
 refine hd c K8m 32 fun O X hS hX hpf hk ⟨inCase1,x2,x3,x4,x5⟩=>fun r (h:F223 w200 w252 inCase1 x2 x3 x4 x5=some r)=>gs ?_
 rw[F223]at h
 refine R [0,1,4] ?_
 obtain⟨r8,f10,h⟩:=oc h (Z5 hk 0 rfl)
 refine seq (rg hS [0,1,4,5] (di1 (an (cb f10) (cb f10))) ?_)
 refine R [0,1,4,5] ?_
 refine seq (xb h (Z4 hk 1 rfl) 1 ?_)
 rintro⟨r13,r14⟩ f16 h
 refine rg hS [0,1,4,5] (di1 (cb f16)) ?_
 refine seq (seq ?_)
 refine Ua1 h [0,1,4,5,25] (Z5 hk 2 rfl) fun r21 h=>?_
 refine ik h (fun h=>?_) fun h=>?_
 ·refine xb h (Z5 hk 3 rfl) 2 ?_
  rintro⟨r26,r27⟩ f29 h
  refine rg hS [4,5] (di1 (cb f29)) ?_
  exact Rt h [4]
 exact Rt h [4]
theorem K4c{w200:Y0}(c:AllG env [S84,S168,S200 w200]):Q0a env (S224 w200):=by
 refine hd c K8l 33 fun O X hS hX hpf hk ⟨Q7j,tokens2,inCase3,x4,x5,x6,x7⟩=>fun r (h:F224 w200 Q7j tokens2 inCase3 x4 x5 x6 x7=some r)=>gs ?_
 rw[F224]at h
 refine R [0,1,2,3,8] ?_
 refine seq (Ua1 h [0,1,2,3,8,9] (Z5 hk 0 rfl) fun r10 h=>?_)
 refine R [0,1,3,8,9] ?_
 refine seqJ (α:=Int) (fun x14=>⟨sl [(0,.ref 0 0),(3,ab inCase3),(8,.ref 1 0),(9,.ref 2 0)],33,[V4 x4 x5 x6 x14,V5 0 0 [],V5 Q7j r10.at_ []]⟩) (fun x=>Z5h w200 inCase3 x4 x5 x6 Q7j r10 x=some r) ?_ ?_
 ·intro x14 h
  rw[Z5h]at h
  try dsimp only at h
  refine AW.st (seq ?_)
  refine xb h (Z5 hk 2 rfl) 2 ?_
  rintro⟨r15,r16⟩ f18 h
  refine rg hS [8,9] (di1 (cb f18)) ?_
  exact Rt h [8]
 refine R [0,3,8,9,24] ?_
 refine ik h (fun h=>?_) fun h=>?_
 ·refine Ua1 h [0,3,8,9] (Z4 hk 1 rfl) fun x24 h=>?_
  exact jn h
 exact jn h
theorem K3m(c:AllG env [S84,S132,S48]):Q0a env S255:=by
 refine hd c K7w 16 fun O X hS hX hpf hk ⟨symbol1,x2,x3,x4,x5⟩=>fun r (h:F255 symbol1 x2 x3 x4 x5=some r)=>gs ?_
 rw[F255]at h
 refine R [0,1] ?_
 refine seq (Ua1 h [0,1,5] (Z5 hk 0 rfl) fun r8 h=>?_)
 refine seq (seq ?_)
 refine Ua2 h [0,5,12] (Z5 hk 1 rfl) fun r12 x13 h=>?_
 refine ik h (fun h=>?_) fun h=>?_
 ·refine Xa1 h [5] (Z4 hk 2 rfl) 1 fun _ h=>?_
  exact Rt h [4]
 exact Rt h [4]
theorem K3o{w200:Y0}(c:AllG env [S255,S47 w200]):Q0a env (S253 w200):=by
 refine hd c K7y 11 fun O X hS hX hpf hk ⟨x1,x2,x3,x4⟩=>fun r (h:F253 w200 x1 x2 x3 x4=some r)=>gs ?_
 rw[F253]at h
 refine R [0] ?_
 refine seq (Xa2 h [0] (Z5 hk 0 rfl) 1 fun r7 x8 h=>?_)
 refine seq (Xa2 h [0,3] (Z5 hk 1 rfl) 1 fun r15 x16 h=>?_)
 refine seq (Xa2 h [3] (Z5 hk 0 rfl) 1 fun r23 x24 h=>?_)
 exact Rt h [2]
theorem K2x(c:AllG env [S74]):Q0a env S288:=by
 refine hd c K7f 13 fun O X hS hX hpf hk ⟨s1,prefix2⟩=>fun r (h:F288 s1 prefix2=some r)=>gs ?_
 rw[F288]at h
 refine R [0,1] ?_
 refine seq (seq ?_)
 refine Ua1 h [0,1,7] (Zt2 hk 0 rfl) fun r4 h=>?_
 refine ik h (fun h=>?_) fun h=>?_
 ·obtain⟨t8,f10,h⟩:=oc h fun _=>Q0p
  try simp only[NRM,Int.reduceToNat]at f10
  have f10e:=f10.2.2.2.2
  try simp only[NRM,Int.reduceToNat]at f10e
  have f10l:=f10.2.2.1
  try simp only[NRM,Int.reduceToNat]at f10l
  refine seq (rg hS [4] (di1 (an f10.1 (an f10.2.1 (an f10l (an f10.2.2.2.1 f10e))))) ?_)
  exact Rf h
 exact Rt h [4]
theorem K3c(c:AllG env [S288]):Q0a env S276:=by
 refine hd c K7k 8 fun O X hS hX hpf hk ⟨s1,prefix2⟩=>fun r (h:F276 s1 prefix2=some r)=>gs ?_
 rw[F276]at h
 refine R [0,1] ?_
 refine seq (Ua1 h [4] (Zt2 hk 0 rfl) fun r4 h=>?_)
 exact Rf h
theorem K5h(c:AllG env []):Q0a env S155:=by
 refine hd c K9v 21 fun O X hS hX hpf hk ⟨s1,suffix2⟩=>fun r (h:F155 s1 suffix2=some r)=>gs ?_
 rw[F155]at h
 refine R [0,1] ?_
 obtain⟨t4,f6,h⟩:=oc h fun _ q=>Z7r (Q0d q)
 try simp only[NRM,Int.reduceToNat]at f6
 have f6e:=f6.2.2.2.2
 try simp only[NRM,Int.reduceToNat]at f6e
 have f6l:=f6.2.2.1
 try simp only[NRM,Int.reduceToNat]at f6l
 refine seq (reg hS [(4,ab (decide ((suffix2.length:Int)≤(s1.length:Int))&&decide (t4=suffix2)))] [] ?_ ?_)
 ·clear h hk hS hX c
  exact dh1 (an f6.1 (an f6.2.1 (an f6l (an f6.2.2.2.1 f6e))))
 exact Rf h
theorem K2y(c:AllG env [S155]):Q0a env S287:=by
 refine hd c K7g 16 fun O X hS hX hpf hk ⟨s1,suffix2⟩=>fun r (h:F287 s1 suffix2=some r)=>gs ?_
 rw[F287]at h
 refine R [0,1] ?_
 refine seq (seq ?_)
 refine Ua1 h [0,1,7] (Zt2 hk 0 rfl) fun r4 h=>?_
 refine ik h (fun h=>?_) fun h=>?_
 ·obtain⟨t8,f10,h⟩:=oc h fun _=>Q0p
  try simp only[NRM,Int.reduceToNat]at f10
  have f10e:=f10.2.2.2.2
  try simp only[NRM,Int.reduceToNat]at f10e
  have f10l:=f10.2.2.1
  try simp only[NRM,Int.reduceToNat]at f10l
  refine seq (rg hS [4] (di1 (an f10.1 (an f10.2.1 (an f10l (an f10.2.2.2.1 f10e))))) ?_)
  exact Rf h
 exact Rt h [4]
theorem K3d(c:AllG env [S287]):Q0a env S275:=by
 refine hd c K7l 8 fun O X hS hX hpf hk ⟨s1,suffix2⟩=>fun r (h:F275 s1 suffix2=some r)=>gs ?_
 rw[F275]at h
 refine R [0,1] ?_
 refine seq (Ua1 h [4] (Zt2 hk 0 rfl) fun r4 h=>?_)
 exact Rf h
theorem K3b(c:AllG env [J2y]):Q0a env S277:=by
 refine hd c K7j 11 ?_
 rintro O X hS hX hpf hk (s1:Str) (r:Int) (h:F277 s1=some r)
 refine gs ?_
 rw[F277]at h
 refine R [0] ?_
 refine seq (Ua2 h [3] (Zt hk 0 199 s1) fun n3 bad4 h=>?_)
 exact Rt h [2]
theorem K3n{w252:Y1}(c:AllG env [S84,Z0q,Q0x,S42,S276,S275,J4r,S277,S252 w252]):Q0a env (S254 w252):=by
 refine hd c K7x 102 fun O X hS hX hpf hk ⟨x1,x2,x3,x4⟩=>fun r (h:F254 w252 x1 x2 x3 x4=some r)=>gs ?_
 rw[F254]at h
 refine R [0,2] ?_
 refine seq (Ua1 h [0,2,3] (Z5 hk 0 rfl) fun r7 h=>?_)
 refine seq (R [0,2,3,16] ?_)
 refine ik h (fun h=>?_) fun h=>?_
 ·refine seq ?_
  obtain⟨w12,f14,h⟩:=oc h fun _=>Q0j
  apply dgk mixed hS [0,2,3,4] (ordp hpf (by kernel_rfl))
  ·exact di1 (an f14.1 f14.2.1)
  refine R [2,3,4] ?_
  refine seq (Ua1 h [2,3,5] (Zt2 hk 1 rfl) fun t15 h=>?_)
  refine seq ?_
  obtain⟨n18,f20,h⟩:=oc h (Zt2 hk 2 rfl)
  apply dgB mixed hS [(2,some 1),(3,some 2),(5,some 3),(40,some 2)] [2] rfl (ordB hpf (B:=[(2,some 1),(3,some 2),(5,some 3),(40,some 2)]) (by kernel_rfl))
  ·exact di1 (ca f20)
  exact Rf h
 refine R [0,2,3] ?_
 refine R [0,2,3,6] ?_
 obtain⟨t21,f23,h⟩:=oc h fun _=>Q0p
 try simp only[NRM,Int.reduceToNat]at f23
 have f23e:=f23.2.2.2.2
 try simp only[NRM,Int.reduceToNat]at f23e
 have f23l:=f23.2.2.1
 try simp only[NRM,Int.reduceToNat]at f23l
 refine seq (rg hS [0,2,3,6,7] (di1 (an f23.1 (an f23.2.1 (an f23l (an f23.2.2.2.1 f23e))))) ?_)
 refine seqJ (α:=Str×Int×Int) (fun(rest24,x25,x26)=>⟨sl [(0,.ref 0 0),(2,.ref 1 0),(6,.ref 3 0),(7,as_ rest24)],102,[V4 x1 x2 x3 (IntKind.wrap .i64 (x4+1)),V10 0 0 0 0 [] [] false,V1 r7,V11 x25 x26 0 0 [] [] [] [] false]⟩) (fun x=>Q6t x4 w252 x1 x2 x3 x=some r) ?_ ?_
 ·intro⟨rest24,x25,x26⟩ h
  rw[Q6t]at h
  try dsimp only at h
  refine AW.st (seqJ (α:=Int) (fun x27=>⟨sl [(0,.ref 0 0),(2,.ref 1 0),(6,.ref 3 0)],102,[V4 x1 x2 x3 (IntKind.wrap .i64 (x4+1)),V10 0 0 0 0 [] [] false,V1 r7,V11 x25 x27 0 0 [] [] [] [] false]⟩) (fun x=>Q9k w252 x1 x2 x3 x4 x25 x=some r) ?_ ?_)
  ·intro x27 h
   rw[Q9k]at h
   try dsimp only at h
   refine AW.st (seq ?_)
   refine Xa2 h [2,6] (Z4 hk 8 rfl) 1 fun r28 r29 h=>?_
   exact Rt h [2]
  refine R [0,2,6,7,69] ?_
  refine ik h (fun h=>?_) fun h=>?_
  ·obtain⟨r37,f39,h⟩:=oc h (Zt2 hk 4 rfl)
   replace f39:=ca f39
   try simp only[PVE]at f39
   obtain⟨r40,f42,h⟩:=oc h (Zt2 hk 5 rfl)
   replace f42:=ca f42
   try simp only[PVE]at f42
   refine seq (rg hS [0,2,6,8] (di1 (an f39 f42)) ?_)
   refine seq (Ua3 h [0,2,6,9,10,11] (Zt2 hk 6 rfl) fun a43 b44 ok45 h=>?_)
   refine seq (Ua1 h [0,2,6,10,11] (Zt hk 7 277 a43) fun r48 h=>?_)
   refine block (seq ?_)
   refine reg hS [(0,.ref 0 0),(2,.ref 1 0),(6,.ref 3 0),(10,as_ b44),(11,ab ok45),(82,ab (ok45&&decide (b44=[])))] [V4 x1 x2 x3 (IntKind.wrap .i64 (x4+1)),V10 0 0 0 0 [] [] false,V1 r7,V11 x25 r48 0 0 [] [] [] [] false] ?_ ?_
   ·clear h hk hS hX c
    exact dh
   refine iz h (fun h=>?_) fun h=>?_
   ·exact Rt h [2]
   refine R [0,2,6,10,91] ?_
   refine ik h (fun h=>?_) fun h=>?_
   ·refine seq ?_
    obtain⟨r53,f55,h⟩:=oc h (Zt hk 7 277 b44)
    apply dgB mixed hS [(2,some 1),(6,some 3),(93,some 3)] [2] rfl (ordB hpf (B:=[(2,some 1),(6,some 3),(93,some 3)]) (by kernel_rfl))
    ·exact di1 (ca f55)
    exact Rf h
   exact jn h
  exact jn h
 obtain⟨c56,f58,h⟩:=oc h fun _=>Q1t
 try simp only[NRM,Int.reduceToNat]at f58
 refine block (seq ?_)
 refine rg hS [0,2,6,7,56] (di1 (an f58.1 (an f58.2.1 f58.2.2))) ?_
 refine iz h (fun h=>?_) fun h=>?_
 ·refine G [0,2,6,7] ?_
  exact jn h
 refine seq (Ua1 h [0,2,6,7,62] (Zt2 hk 3 rfl) fun r60 h=>?_)
 refine ik h (fun h=>?_) fun h=>?_
 ·refine R [0,2,6,7] ?_
  obtain⟨t64,f66,h⟩:=oc h fun _=>Q0p
  try simp only[NRM,Int.reduceToNat]at f66
  have f66e:=f66.2.2.2.2
  try simp only[NRM,Int.reduceToNat]at f66e
  have f66l:=f66.2.2.1
  try simp only[NRM,Int.reduceToNat]at f66l
  refine rg hS [0,2,6,7] (di1 (an f66.1 (an f66.2.1 (an f66l (an f66.2.2.2.1 f66e))))) ?_
  exact jn h
 exact jn h
theorem K4b{w200:Y0}{w252:Y1}(c:AllG env [S84,S253 w200,S130,S254 w252]):Q0a env (S225 w200 w252):=by
 refine hd c K8k 21 fun O X hS hX hpf hk ⟨x1,x2,x3,x4⟩=>fun r (h:F225 w200 w252 x1 x2 x3 x4=some r)=>?_
 have pf_254:O.pf 254=false:=pft hpf 254 rfl
 refine gs ?_
 rw[F225]at h
 refine R [0,2] ?_
 refine seq ?_
 obtain⟨r7,f9,h⟩:=oc h (Z5 hk 0 rfl)
 rcases Q0w h with⟨n15,q13,rfl⟩|⟨⟨r11,x12⟩,q13,h⟩
 ·have f16:=(hk 1 253 rfl).boom (x1,x2,x3,x4) q13 rfl rfl
  have e17:=Q4x f16 rfl rfl
  apply regS hS hX 4 rfl
  ·exact dp1 (an (cb f9) e17)
  exact J2u rfl rfl rfl
 dsimp only at h
 have f14:=(hk 1 253 rfl).ret (x1,x2,x3,x4) q13 rfl rfl
 have e18:=Q2y f14 rfl rfl rfl rfl
 refine AW.after ?_
 refine rg hS [0,2,3] (di1 (an (cb f9) (ap0 253 hpf e18))) ?_
 refine oC Redir.pv 2 4 51 9 ?_
 refine seq (block ?_)
 refine Lp h (fun(x19,l20)=>⟨sl [(0,.ref 0 0),(2,.ref 1 0),(3,.ref 2 0)],21,[V4 x1 x2 x3 x19,V5 0 0 [],V13 12 r7.at_ [] l20.length r11,rRe l20]⟩) ?_
 clear h
 rintro⟨x19,l20⟩ m23 h
 rw[Z1n]at h
 try dsimp only at h
 obtain⟨r24,f26,h⟩:=oc h (Z5 hk 0 rfl)
 obtain⟨r28,f30,h⟩:=oc h (Zt hk 2 130 r24)
 refine AW.st (seq ?_)
 refine seq (rg hS [0,2,3,12] (di1 (an (cb f26) (ca f30))) ?_)
 refine iz h (fun h=>?_) fun h=>?_
 ·refine skip (block ?_)
  rcases Q0w h with⟨n36,q34,rfl⟩|⟨⟨r32,x33⟩,q34,h⟩
  ·have f37:=(hk 3 254 rfl).boom (x1,x2,x3,x19) q34 rfl rfl
   have e38:=Q4x f37 rfl rfl
   exact dS 13 7 3 [0,1,2] [.ref 2 4,.vec 3 (List.length l20),.ref 0 0,.any,.any,.any,.any,.any] [.gone,V5 0 0 [],V13 12 r7.at_ [] l20.length r11,rRe l20] trivial e38
  dsimp only at h
  have f35:=(hk 3 254 rfl).ret (x1,x2,x3,x19) q34 rfl rfl
  have e39:=Q2y f35 rfl rfl rfl rfl
  replace h:=ap Redir.pv h;obtain⟨out40,f42,h⟩:=h
  refine dV 13 7 [3,5,7] [(0,0),(0,1),(1,0),(1,1),(2,0),(3,0),(4,1),(5,1),(6,2),(7,2)] [.ref 2 4,.vec 3 (List.length l20),.ref 0 0,.pv (V15 r32),.full [V15 r32],.vec 3 (List.length out40),.ref 2 4,.any] [[(0,V4 x1 x2 x3 x33)],[(3,rRe out40)],[(2,V13 12 r7.at_ [] out40.length r11)]] [0,2,3] (an pf_254 (an e39 f42)) ?_
  exact nx h
 exact exit (Rt h [2])
theorem K4a{w200:Y0}(c:AllG env [S84,S255,S47 w200,S168,S200 w200]):Q0a env (S226 w200):=by
 refine hd c K8j 38 fun O X hS hX hpf hk ⟨Q7j,inCase2,x3,x4,x5,x6⟩=>fun r (h:F226 w200 Q7j inCase2 x3 x4 x5 x6=some r)=>gs ?_
 rw[F226]at h
 refine R [0,1,2,6] ?_
 refine seq (Ua1 h [0,2,6,7] (Z5 hk 0 rfl) fun r9 h=>?_)
 refine R [0,2,6,7] ?_
 refine seq (Xa2 h [0,2,6,7,8] (Z5 hk 1 rfl) 1 fun r13 x14 h=>?_)
 refine seq (Xa2 h [0,2,6,7,8] (Z5 hk 2 rfl) 1 fun r21 x22 h=>?_)
 refine seq (Xa2 h [0,2,6,7,8] (Z5 hk 1 rfl) 1 fun r29 x30 h=>?_)
 refine seq (Ua1 h [0,2,6,7,8] (Z4 hk 3 rfl) fun x37 h=>?_)
 refine seq ?_
 rcases Q0w h with⟨n45,q43,rfl⟩|⟨⟨r41,r42⟩,q43,h⟩
 ·have f46:=(hk 4 200 rfl).boom (inCase2,x3,x4,x5,x37) q43 rfl rfl
  have e47:=Q4x f46 rfl rfl
  exact dS 31 6 3 [0,1,2] [.agg [ai 12,ai r13,as_ [],.nils,.nils,vC r21],.ref 0 0,ab inCase2,.any,.any,.any,.any] [.gone,V5 0 0 [],V5 Q7j r9.at_ [],V12 12 r13 [] r21] trivial e47
 dsimp only at h
 have f44:=(hk 4 200 rfl).ret (inCase2,x3,x4,x5,x37) q43 rfl rfl
 have e48:=Q2y f44 rfl rfl rfl rfl
 refine dV 31 6 [3,6] [(0,0),(0,1),(1,0),(2,0),(3,0),(4,1),(5,1),(6,1)] [.agg [ai 12,ai r13,as_ [],.nils,.nils,vC r21],.ref 0 0,ab inCase2,.pv (V7 r41),.full (List.map Cmd.pv [Cmd.mk 12 r13 [] [] [] r21,r41]),.ref 2 5,.any] [[(0,V4 x3 x4 x5 r42)],[(2,.var [ai Q7j,ai r9.at_,as_ [],.nils,.nils,.full (List.map Cmd.pv [Cmd.mk 12 r13 [] [] [] r21,r41])])]] [6,7] (ap0 200 hpf e48) ?_
 exact Rt h [6]
end Go.Abs.U48
