import Derived.Test.YtljahlbklgnfhaaGreatDoorD1
set_option linter.unusedVariables false
set_option linter.unusedSimpArgs false
set_option linter.defProp false
set_option maxRecDepth 8000
set_option maxHeartbeats 4000000
namespace Go.Abs.U48
open Go.RowKit Go.Proofs AW
theorem V6f(c:AllG env [S85]):Q0a env S49:=by
 refine hd c K7c 9 ?_
 rintro O X hS hX hpf hk (s1:(List Cmd)) (r:Bool) (h:F49 s1=some r)
 refine gs ?_
 rw[F49]at h
 refine R [0,1] ?_
 refine seq (Ua1 h [4] (Z hk 0 85 s1) fun r3 h=>?_)
 exact Rf h
theorem V6u(c:AllG env [S15 (K15 BIG),S49]):Q0a env S21:=by
 refine hd c V9k 11 ?_
 rintro O X hS hX hpf hk (l1:(List Cmd)) (r:Bool) (h:F21 l1=some r)
 have pf_15:O.pf 15=true:=pft hpf 15 rfl
 refine gs ?_
 rw[F21]at h
 refine R [0] ?_
 obtain⟨r3,q4,h⟩:=obs h
 have f5:=hk 0 15 rfl
 replace f5:=f5.ret l1 q4 rfl rfl
 refine seq ?_
 rcases bs h with⟨hsp23,h⟩|⟨hsp23,h⟩
 ·obtain⟨r6,f8,h⟩:=oc h (Z hk 1 49 l1)
  exact rg hS [2] (di1 (an pf_15 (an f5 (an hsp23 (cc f8))))) (Rf h)
 exact rg hS [2] (di1 (an pf_15 (an f5 hsp23))) (Rf h)
theorem g_F8(c:AllG env [S19,S20,S21]):Q0a env S8:=by
 refine hd c fn_8 34 ?_
 rintro O X hS hX hpf hk (s1:Str) (r:(List Cmd)×Int×Int) (h:F8 s1=some r)
 refine gs ?_
 rw[F8]at h
 refine R [0] ?_
 refine seq (Ua3 h [0,5,6,7] (Zt hk 0 19 s1) fun r5 r6 r7 h=>?_)
 refine seq (R [0,5,6,7,16] ?_)
 refine ik h (fun h=>?_) fun h=>?_
 ·exact Rt h [2,3,4]
 refine seq (Ua3 h [6,7,8] (Zt2 hk 1 rfl) fun r11 r12 r13 h=>?_)
 refine seq (R [6,7,8,27] ?_)
 refine ik h (fun h=>?_) fun h=>?_
 ·exact Rt h [2,3,4]
 refine seq (seq ?_)
 refine Ua1 h [8,32] (Zt hk 2 21 r11) fun r17 h=>?_
 refine ik h (fun h=>?_) fun h=>?_
 ·exact Rt h [2,3,4]
 exact Rt h [2,3,4]
theorem K2r{w98:Y8}(c:AllG env [S98 w98]):Q0a env (S64 w98):=by
 refine hd c V8h 24 ?_
 rintro O X hS hX hpf hk (c1:Cmd) (r:Bool) (h:F64 w98 c1=some r)
 refine gs ?_
 rw[F64]at h
 refine R [1] ?_
 refine seq (R [1,5] ?_)
 refine iz h (fun h=>?_) fun h=>?_
 ·refine seq (Ua1 h [2] (Zt hk 0 98 c1) fun r4 h=>?_)
  exact Rf h
 cases h
theorem K2s{w98:Y8}(c:AllG env [S64 w98]):Q0a env (S63 w98):=by
 refine hd c V8i 6 ?_
 rintro O X hS hX hpf hk (c1:Cmd) (r:Bool) (h:F63 w98 c1=some r)
 refine gs ?_
 rw[F63]at h
 refine R [1] ?_
 refine seq (Ua1 h [2] (Zt hk 0 64 c1) fun r3 h=>?_)
 exact Rf h
theorem X0l{w98:Y8}(c:AllG env [S63 w98]):Q0a env (X5a w98):=by
 refine hd c K6y 19 ?_
 rintro O X hS hX hpf hk (s1:(List Cmd)) (r:Int) (h:X5j w98 s1=some r)
 refine gs ?_
 rw[X5j]at h
 refine R [0,1] ?_
 refine seq (R [0,1,7,8] ?_)
 refine block (Lp h (fun i3=>⟨sl [(0,vC s1),(1,.fn 63 []),(7,ai (s1.length:Int)),(8,ai i3)],19,[]⟩) ?_)
 clear h
 rintro i3 m6 h
 rw[J5b]at h
 try dsimp only at h
 refine AW.st (R [0,1,7,8,9] ?_)
 refine seq (iz h (fun h=>?_) fun h=>?_)
 ·refine skip (seq ?_)
  refine block (R [0,1,5,7,8] ?_)
  obtain⟨u8,f10,h⟩:=oc h fun _=>Q0j
  obtain⟨r11,f13,h⟩:=oc h (Zt hk 0 63 u8)
  refine seq (rg hS [0,1,5,7,8,16] (di1 (an f10.1 (an f10.2.1 (ca f13)))) ?_)
  refine ik h (fun h=>?_) fun h=>?_
  ·exact Rt h [4]
  refine G [0,1,7,8] ?_
  exact nx h
 exact exit (Rt h [4])
theorem X0m{w98:Y8}(c:AllG env [X5a w98]):Q0a env (X5c w98):=by
 refine hd c K7c 9 ?_
 rintro O X hS hX hpf hk (s1:(List Cmd)) (r:Bool) (h:X5k w98 s1=some r)
 refine gs ?_
 rw[X5k]at h
 refine R [0,1] ?_
 refine seq (Ua1 h [4] (Z hk 0 85 s1) fun r3 h=>?_)
 exact Rf h
theorem K2w{w98:Y8}(c:AllG env [X5c w98]):Q0a env (S29 w98):=by
 refine hd c V9g 6 ?_
 rintro O X hS hX hpf hk (l1:(List Cmd)) (r:Bool) (h:F29 w98 l1=some r)
 refine gs ?_
 rw[F29]at h
 refine R [0] ?_
 refine seq (Ua1 h [2] (Z hk 0 49 l1) fun r3 h=>?_)
 exact Rf h
theorem K5l{w182:Y8}(c:AllG env [S182 w182]):Q0a env (S143 w182):=by
 refine hd c V0a 23 ?_
 rintro O X hS hX hpf hk (c1:Cmd) (r:Bool) (h:F143 w182 c1=some r)
 refine gs ?_
 rw[F143]at h
 refine R [1] ?_
 refine seq (R [1,5] ?_)
 refine iz h (fun h=>?_) fun h=>?_
 ·refine seq (Ua1 h [2] (Zt hk 0 182 c1) fun r4 h=>?_)
  exact Rf h
 cases h
theorem V4v{w182:Y8}(c:AllG env [S143 w182]):Q0a env (S98 (F98 w182)):=by
 refine hd c K6w 36 ?_
 rintro O X hS hX hpf hk (c1:Cmd) (r:Bool) (h:F98 w182 c1=some r)
 refine gs ?_
 rw[F98]at h
 refine R [1] ?_
 refine seq (seq ?_)
 refine reg hS [(1,.ref 0 0),(10,ab (!decide (c1.kind_=5)&&!decide (c1.kind_=6)))] [V9 c1] ?_ ?_
 ·clear h hk hS hX c
  exact dh
 refine iz h (fun h=>?_) fun h=>?_
 ·refine seq (Ua1 h [2] (Zt hk 0 143 c1) fun r4 h=>?_)
  exact Rf h
 cases h
theorem V4u(c:AllG env [S144]):Q0a env S99:=by
 refine hd c V7g 39 fun O X hS hX hpf hk ⟨c1,s2⟩=>fun r (h:F99 c1 s2=some r)=>gs ?_
 rw[F99]at h
 refine R [2,3] ?_
 obtain⟨r4,f6,h⟩:=oc h (Zt hk 0 144 c1.name_)
 refine seq (seq ?_)
 refine dreg mixed hS (ordp hpf (by kernel_rfl)) [(2,.ref 0 0),(3,.ref 1 0),(20,ab (!(s2.name_==r4)||(!s2.name_&&!decide (c1.name_=[]))))] [V9 c1,.var [ab s2.name_,ab s2.words_,ab s2.redirs_]] ?_ ?_
 ·clear h hk hS hX c
  exact dh1 (ca f6)
 refine ik h (fun h=>?_) fun h=>?_
 ·cases h
 refine seq (reg hS [(4,ab ((s2.words_||decide ((c1.words_.length:Int)=0))&&(s2.redirs_||decide ((c1.redirs_.length:Int)=0))))] [V9 c1,.var [ab s2.name_,ab s2.words_,ab s2.redirs_]] ?_ ?_)
 ·clear h hk hS hX c
  exact dh
 exact Rf h
theorem K3g(c:AllG env []):Q0a env S262:=by
 refine hd c K7p 19 ?_
 rintro O X hS hX hpf hk (s1:(List Redir)) (r:Int) (h:F262 s1=some r)
 refine gs ?_
 rw[F262]at h
 refine R [0] ?_
 refine seq (R [7,8] ?_)
 refine block (Lp h (fun _=>⟨sl [(7,ai (s1.length:Int)),(8,ai 0)],19,[]⟩) ?_)
 clear h
 rintro _ m5 h
 rw[X2j]at h
 try dsimp only at h
 refine AW.st (R [9] ?_)
 refine seq (iz h (fun h=>?_) fun h=>?_)
 ·cases h
 exact exit (Rt h [4])
theorem K3r(c:AllG env [S262]):Q0a env S235:=by
 refine hd c K8a 9 ?_
 rintro O X hS hX hpf hk (s1:(List Redir)) (r:Bool) (h:F235 s1=some r)
 refine gs ?_
 rw[F235]at h
 refine R [0,1] ?_
 refine seq (Ua1 h [4] (Z hk 0 262 s1) fun r3 h=>?_)
 exact Rf h
theorem K4g(c:AllG env [S235]):Q0a env S209:=by
 refine hd c K8q 6 ?_
 rintro O X hS hX hpf hk (l1:(List Redir)) (r:Bool) (h:F209 l1=some r)
 refine gs ?_
 rw[F209]at h
 refine R [0] ?_
 refine seq (Ua1 h [2] (Z hk 0 235 l1) fun r3 h=>?_)
 exact Rf h
theorem K4f{w98:Y8}(c:AllG env [S99,S29 w98]):Q0a env (S210 w98):=by
 refine hd c K8p 16 ?_
 rintro O X hS hX hpf hk (c1:Cmd) (r:Bool) (h:F210 w98 c1=some r)
 have pf_99:O.pf 99=true:=pft hpf 99 rfl
 refine gs ?_
 rw[F210]at h
 refine R [1] ?_
 obtain⟨r3,q4,h⟩:=obs h
 replace q4:=Q0d q4
 have f5:=fun hg=>(hk 0 99 rfl).ret (c1,Shape.mk false false false) (q4 hg) rfl rfl
 obtain⟨r6,q7,h⟩:=obs h
 replace q7:=Q0d q7
 have f8:=fun hg=>(hk 1 29 rfl).ret c1.kids_ (q7 hg) rfl rfl
 refine seq (reg hS [(2,ab ((decide (c1.kind_=12)&&r3)&&r6))] [V9 c1] ?_ ?_)
 ·clear h hk hS hX c
  exact dh1 (an pf_99 (an f5 (ap1 29 hpf f8)))
 exact Rf h
theorem K3f(c:AllG env []):Q0a env S263:=by
 refine hd c K7o 30 ?_
 rintro O X hS hX hpf hk (w1:Word) (r:Bool) (h:F263 w1=some r)
 refine gs ?_
 rw[F263]at h
 refine R [1] ?_
 refine seq (R [1,10] ?_)
 refine ik h (fun h=>?_) fun h=>?_
 ·cases h
 refine seq (R [1,13,14] ?_)
 refine block (Lp h (fun i4=>⟨sl [(1,.ref 0 0),(13,ai (w1.quoted_.length:Int)),(14,ai i4)],30,[V21 w1]⟩) ?_)
 clear h
 rintro i4 m7 h
 rw[X2i]at h
 try dsimp only at h
 refine AW.st (R [1,13,14,15] ?_)
 refine seq (iz h (fun h=>?_) fun h=>?_)
 ·refine skip (seq ?_)
  refine block (R [1,3,13,14] ?_)
  obtain⟨c9,f11,h⟩:=oc h fun _=>Q1t
  refine seq (reg hS [(1,.ref 0 0),(13,ai (w1.quoted_.length:Int)),(14,ai i4),(28,ab (!decide (c9=48)&&!decide (c9=49)))] [V21 w1] ?_ ?_)
  ·clear h hk hS hX c
   exact dh1 (an f11.1 (an f11.2.1 f11.2.2))
  refine ik h (fun h=>?_) fun h=>?_
  ·cases h
  refine G [1,13,14] ?_
  exact nx h
 exact exit (Rt h [2])
theorem K3a(c:AllG env [S263,Q0x]):Q0a env S278:=by
 refine hd c K7i 44 ?_
 rintro O X hS hX hpf hk (w1:Word) (r:Bool) (h:F278 w1=some r)
 have pf_40:O.pf 40=true:=pft hpf 40 rfl
 refine gs ?_
 rw[F278]at h
 refine R [1] ?_
 refine seq (seq ?_)
 refine Ua1 h [1,7] (Zt hk 0 263 w1) fun r3 h=>?_
 refine ik h (fun h=>?_) fun h=>?_
 ·cases h
 refine seq (R [1,10,11] ?_)
 refine block (Lp h (fun i7=>⟨sl [(1,.ref 0 0),(10,ai (w1.text_.length:Int)),(11,ai i7)],44,[V21 w1]⟩) ?_)
 clear h
 rintro i7 m10 h
 rw[X2h]at h
 try dsimp only at h
 refine AW.st (R [1,10,11,12] ?_)
 refine seq (iz h (fun h=>?_) fun h=>?_)
 ·refine skip (seq ?_)
  refine block (R [1,3,10,11] ?_)
  obtain⟨c12,f14,h⟩:=oc h fun _=>Q1t
  refine seq (rg hS [1,3,4,10,11] (di1 (an f14.1 (an f14.2.1 f14.2.2))) ?_)
  obtain⟨c15,f17,h⟩:=oc h fun _ q=>Q1s (Q0d q)
  obtain⟨n18,q19,h⟩:=obs h
  replace q19:=Q0d q19
  have f20:=fun hg=>(hk 1 40 rfl).ret (([32,9,10,59,38,124,40,41,123,125,60,62,61,94,96,36,39]:Str),c15) (q19 hg) rfl rfl
  try simp only[PVE]at f20
  obtain⟨n21,q22,h⟩:=obs h
  replace q22:=Q0d q22
  have f23:=fun hg=>(hk 1 40 rfl).ret (([35,33,64]:Str),c15) (q22 hg) rfl rfl
  try simp only[PVE]at f23
  refine seq (reg hS [(1,.ref 0 0),(10,ai (w1.text_.length:Int)),(11,ai i7),(42,ab ((decide (c12=48)&&decide (0≤n18))||((decide (c12=48)&&decide (i7=0))&&decide (0≤n21))))] [V21 w1] ?_ ?_)
  ·clear h hk hS hX c
   exact dh1 (an f17.1 (an f17.2.1 (an f17.2.2 (an pf_40 (an f20 f23)))))
  refine ik h (fun h=>?_) fun h=>?_
  ·cases h
  refine G [1,10,11] ?_
  exact nx h
 exact exit (Rt h [2])
theorem K3h(c:AllG env [S144,S278]):Q0a env S260:=by
 refine hd c K7q 97 ?_
 rintro O X hS hX hpf hk (w1:Word) (r:Bool) (h:F260 w1=some r)
 refine gs ?_
 rw[F260]at h
 refine R [1] ?_
 obtain⟨r3,f5,h⟩:=oc h (Zt hk 0 144 w1.text_)
 refine seq (reg hS [(1,.ref 0 0),(3,ab ((r3&&decide (w1.quoted_=[]))&&decide ((w1.cmd_.length:Int)=0)))] [V21 w1] ?_ ?_)
 ·clear h hk hS hX c
  exact dh1 (ca f5)
 refine seq (reg hS [(1,.ref 0 0),(3,ab ((r3&&decide (w1.quoted_=[]))&&decide ((w1.cmd_.length:Int)=0)))] [V21 w1] ?_ ?_)
 ·clear h hk hS hX c
  exact dh
 refine seq (R [1,3,28] ?_)
 refine block (R [1,3,28,29] ?_)
 refine iz h (fun h=>?_) fun h=>?_
 ·obtain⟨r7,q8,h⟩:=obs h
  replace q8:=Q0d q8
  have f9:=fun hg=>(hk 1 278 rfl).ret w1 (q8 hg) rfl rfl
  refine seq (reg hS [(2,ab ((decide ((w1.words_.length:Int)=0)&&decide ((w1.cmd_.length:Int)=0))&&r7))] [V21 w1] ?_ ?_)
  ·clear h hk hS hX c
   exact dh1 (ap1 278 hpf f9)
  exact Rf h
 refine seqM ⟨sl [(1,.ref 0 0),(3,ab ((r3&&decide (w1.quoted_=[]))&&decide ((w1.cmd_.length:Int)=0))),(45,ab (bif decide (w1.kind_=2)then decide (w1.kind_=2)else decide (w1.kind_=3)))],97,[V21 w1]⟩ ?_ ?_
 ·refine R [1,3,28,45] ?_
  refine cond (b:=decide (w1.kind_=2)) rfl (fun hb10=>?_) (fun hb10=>?_)
  ·exact skip (Weak.of_eq (Weak.slots (L:=[(1,.ref 0 0),(3,ab ((r3&&decide (w1.quoted_=[]))&&decide ((w1.cmd_.length:Int)=0))),(45,ab (decide (w1.kind_=2)))]) kp) (wq hb10))
  refine G [1,3,45] ?_
  exact Weak.of_eq (Weak.slots (L:=[(1,.ref 0 0),(3,ab ((r3&&decide (w1.quoted_=[]))&&decide ((w1.cmd_.length:Int)=0))),(45,ab (decide (w1.kind_=3)))]) kp) (wq hb10)
 refine iz h (fun h=>?_) fun h=>?_
 ·refine seq (reg hS [(2,ab (((r3&&decide (w1.quoted_=[]))&&decide ((w1.cmd_.length:Int)=0))&&decide ((w1.words_.length:Int)=0)))] [V21 w1] ?_ ?_)
  ·clear h hk hS hX c
   exact dh
  exact Rf h
 cases h
theorem K3s(c:AllG env [S260]):Q0a env S234:=by
 refine hd c K8b 34 ?_
 rintro O X hS hX hpf hk (w1:Word) (r:Bool) (h:F234 w1=some r)
 refine gs ?_
 rw[F234]at h
 refine R [1] ?_
 refine seq (R [1,5] ?_)
 refine iz h (fun h=>?_) fun h=>?_
 ·refine seq (Ua1 h [2] (Zt hk 0 260 w1) fun r4 h=>?_)
  exact Rf h
 cases h
theorem K3t(c:AllG env [S234]):Q0a env S233:=by
 refine hd c K8c 6 ?_
 rintro O X hS hX hpf hk (w1:Word) (r:Bool) (h:F233 w1=some r)
 refine gs ?_
 rw[F233]at h
 refine R [1] ?_
 refine seq (Ua1 h [2] (Zt hk 0 234 w1) fun r3 h=>?_)
 exact Rf h
theorem K3i(c:AllG env [S233]):Q0a env S259:=by
 refine hd c K7s 19 ?_
 rintro O X hS hX hpf hk (s1:(List Word)) (r:Int) (h:F259 s1=some r)
 refine gs ?_
 rw[F259]at h
 refine R [0,1] ?_
 refine seq (R [0,1,7,8] ?_)
 refine block (Lp h (fun i3=>⟨sl [(0,vWo s1),(1,.fn 233 []),(7,ai (s1.length:Int)),(8,ai i3)],19,[]⟩) ?_)
 clear h
 rintro i3 m6 h
 rw[X2k]at h
 try dsimp only at h
 refine AW.st (R [0,1,7,8,9] ?_)
 refine seq (iz h (fun h=>?_) fun h=>?_)
 ·refine skip (seq ?_)
  refine block (R [0,1,5,7,8] ?_)
  obtain⟨u8,f10,h⟩:=oc h fun _=>Q0j
  obtain⟨r11,f13,h⟩:=oc h (Zt hk 0 233 u8)
  refine seq (rg hS [0,1,7,8,16] (di1 (an f10.1 (an f10.2.1 (ca f13)))) ?_)
  refine ik h (fun h=>?_) fun h=>?_
  ·cases h
  refine G [0,1,7,8] ?_
  exact nx h
 exact exit (Rt h [4])
theorem K3u(c:AllG env [S259]):Q0a env S232:=by
 refine hd c K8d 9 ?_
 rintro O X hS hX hpf hk (s1:(List Word)) (r:Bool) (h:F232 s1=some r)
 refine gs ?_
 rw[F232]at h
 refine R [0,1] ?_
 refine seq (Ua1 h [4] (Z hk 0 259 s1) fun r3 h=>?_)
 exact Rf h
theorem K4h(c:AllG env [S232]):Q0a env S207:=by
 refine hd c K8r 6 ?_
 rintro O X hS hX hpf hk (l1:(List Word)) (r:Bool) (h:F207 l1=some r)
 refine gs ?_
 rw[F207]at h
 refine R [0] ?_
 refine seq (Ua1 h [2] (Z hk 0 232 l1) fun r3 h=>?_)
 exact Rf h
theorem K4e(c:AllG env [S207,S209,Q0x,S134]):Q0a env S213:=by
 refine hd c K8o 66 ?_
 rintro O X hS hX hpf hk (c1:Cmd) (r:Bool) (h:F213 c1=some r)
 have pf_40:O.pf 40=true:=pft hpf 40 rfl
 have pf_207:O.pf 207=true:=pft hpf 207 rfl
 refine gs ?_
 rw[F213]at h
 refine R [1] ?_
 obtain⟨r3,q4,h⟩:=obs h
 replace q4:=Q0d q4
 have f5:=fun hg=>(hk 0 207 rfl).ret c1.words_ (q4 hg) rfl rfl
 obtain⟨r6,q7,h⟩:=obs h
 replace q7:=Q0d q7
 have f8:=fun hg=>(hk 1 209 rfl).ret c1.redirs_ (q7 hg) rfl rfl
 refine seq (seq ?_)
 refine reg hS [(1,.ref 0 0),(24,ab ((decide (IntKind.wrap .i64 ((c1.words_.length:Int)+(c1.redirs_.length:Int))=0)||!r3)||!r6))] [V9 c1] ?_ ?_
 ·clear h hk hS hX c
  exact dh1 (an pf_207 (an f5 (ap1 209 hpf f8)))
 refine ik h (fun h=>?_) fun h=>?_
 ·cases h
 refine seq (R [1,28] ?_)
 refine ik h (fun h=>?_) fun h=>?_
 ·cases h
 obtain⟨u11,f13,h⟩:=oc h fun _=>Q0j
 try simp only[NRM,Int.reduceToNat]at f13
 refine seq (rg hS [3] (di1 (an f13.1 f13.2.1)) ?_)
 refine seq (R [3,35] ?_)
 refine ik h (fun h=>?_) fun h=>?_
 ·cases h
 obtain⟨n15,q16,h⟩:=obs h
 replace q16:=Q0d q16
 have f17:=fun hg=>(hk 2 40 rfl).ret (u11.quoted_,49) (q16 hg) rfl rfl
 obtain⟨r18,q19,h⟩:=obs h
 replace q19:=Q0d q19
 have f20:=fun hg=>(hk 3 134 rfl).ret u11.text_ (q19 hg) rfl rfl
 refine seq (reg hS [(3,.ref 1 0),(4,ab ((decide (u11.kind_=1)&&decide (n15<0))&&r18))] [V9 c1,V21 u11] ?_ ?_)
 ·clear h hk hS hX c
  exact dh1 (an pf_40 (an f17 (ap1 134 hpf f20)))
 refine seq (reg hS [(2,ab ((!((decide (u11.kind_=1)&&decide (n15<0))&&r18)||decide (u11.text_=[110,111,116]))||decide (u11.text_=[105,110])))] [V9 c1,V21 u11] ?_ ?_)
 ·clear h hk hS hX c
  exact dh
 exact Rf h
theorem K4r{w98 w182:Y8}(c:AllG env [S99,S29 w98,S209,S210 w98,S182 w182,S207,S213]):Q0a env (S182 (F182 w98 w182)):=by
 refine hd c X6e 169 ?_
 rintro O X hS hX hpf hk (c1:Cmd) (r:Bool) (h:F182 w98 w182 c1=some r)
 have pf_29:O.pf 29=true:=pft hpf 29 rfl
 have pf_210:O.pf 210=true:=pft hpf 210 rfl
 refine gs ?_
 rw[F182]at h
 refine R [1] ?_
 refine seq (R [1,4] ?_)
 refine block (R [1,4,5] ?_)
 refine iz h (fun h=>?_) fun h=>?_
 ·cases h
 refine seqM ⟨sl [(1,.ref 0 0),(4,ai c1.kind_),(32,ab (bif decide (c1.kind_=7)then decide (c1.kind_=7)else(bif decide (c1.kind_=13)then decide (c1.kind_=13)else decide (c1.kind_=9))))],169,[V9 c1]⟩ ?_ ?_
 ·refine R [1,4,32] ?_
  refine cond (b:=decide (c1.kind_=7)) rfl (fun hb4=>?_) (fun hb4=>?_)
  ·exact skip (Weak.of_eq (Weak.slots (L:=[(1,.ref 0 0),(4,ai c1.kind_),(32,ab (decide (c1.kind_=7)))]) kp) (wq hb4))
  refine R [1,4,32] ?_
  refine cond (b:=decide (c1.kind_=13)) rfl (fun hb5=>?_) (fun hb5=>?_)
  ·exact skip (Weak.of_eq (Weak.slots (L:=[(1,.ref 0 0),(4,ai c1.kind_),(32,ab (decide (c1.kind_=13)))]) kp) (by simp only[hb4,hb5,cond_true,cond_false,J3l,Bool.not_true,Bool.not_false]<;>rfl))
  refine G [1,4,32] ?_
  exact Weak.of_eq (Weak.slots (L:=[(1,.ref 0 0),(4,ai c1.kind_),(32,ab (decide (c1.kind_=9)))]) kp) (by simp only[hb4,hb5,cond_true,cond_false,J3l,Bool.not_true,Bool.not_false]<;>rfl)
 refine iz h (fun h=>?_) fun h=>?_
 ·cases h
 refine R [1,4,44] ?_
 refine iz h (fun h=>?_) fun h=>?_
 ·obtain⟨r8,f10,h⟩:=oc h (Zt2 hk 0 rfl)
  obtain⟨r11,q12,h⟩:=obs h
  replace q12:=Q0d q12
  have f13:=fun hg=>(hk 1 29 rfl).ret c1.kids_ (q12 hg) rfl rfl
  obtain⟨r14,q15,h⟩:=obs h
  replace q15:=Q0d q15
  have f16:=fun hg=>(hk 2 209 rfl).ret c1.redirs_ (q15 hg) rfl rfl
  refine seq (reg hS [(2,ab ((r8&&r11)&&r14))] [V9 c1] ?_ ?_)
  ·clear h hk hS hX c
   exact dh1 (an (ca f10) (an pf_29 (an f13 (ap1 209 hpf f16))))
  exact Rf h
 refine seqM ⟨sl [(1,.ref 0 0),(4,ai c1.kind_),(59,ab (bif decide (c1.kind_=8)then decide (c1.kind_=8)else decide (c1.kind_=11)))],169,[V9 c1]⟩ ?_ ?_
 ·refine R [1,4,59] ?_
  refine cond (b:=decide (c1.kind_=8)) rfl (fun hb17=>?_) (fun hb17=>?_)
  ·exact skip (Weak.of_eq (Weak.slots (L:=[(1,.ref 0 0),(4,ai c1.kind_),(59,ab (decide (c1.kind_=8)))]) kp) (wq hb17))
  refine G [1,4,59] ?_
  exact Weak.of_eq (Weak.slots (L:=[(1,.ref 0 0),(4,ai c1.kind_),(59,ab (decide (c1.kind_=11)))]) kp) (wq hb17)
 refine iz h (fun h=>?_) fun h=>?_
 ·obtain⟨r19,f21,h⟩:=oc h (Zt2 hk 0 rfl)
  obtain⟨u22,f24,h⟩:=oc h fun _ q=>J4e (Q0d q)
  try simp only[NRM,Int.reduceToNat]at f24
  obtain⟨r25,q26,h⟩:=obs h
  replace q26:=Q0d q26
  have f27:=fun hg=>(hk 3 210 rfl).ret u22 (q26 hg) rfl rfl
  obtain⟨u28,f30,h⟩:=oc h fun _ q=>J4e (Q0d q)
  try simp only[NRM,Int.reduceToNat]at f30
  obtain⟨r31,q32,h⟩:=obs h
  replace q32:=Q0d q32
  have f33:=fun hg=>(hk 4 182 rfl).ret u28 (q32 hg) rfl rfl
  refine seq (reg hS [(2,ab (((r19&&decide ((c1.kids_.length:Int)=2))&&r25)&&r31))] [V9 c1] ?_ ?_)
  ·clear h hk hS hX c
   exact dh1 (an (ca f21) (an f24.1 (an f24.2.1 (an pf_210 (an f27 (an f30.1 (an f30.2.1 (ap1 182 hpf f33))))))))
  exact Rf h
 refine R [1,4,85] ?_
 refine iz h (fun h=>?_) fun h=>?_
 ·cases h
 refine R [1,4,100] ?_
 refine iz h (fun h=>?_) fun h=>?_
 ·cases h
 refine R [1,4,122] ?_
 refine iz h (fun h=>?_) fun h=>?_
 ·cases h
 refine R [1,4,132] ?_
 refine iz h (fun h=>?_) fun h=>?_
 ·obtain⟨r38,f40,h⟩:=oc h (Zt2 hk 0 rfl)
  obtain⟨r41,q42,h⟩:=obs h
  replace q42:=Q0d q42
  have f43:=fun hg=>(hk 5 207 rfl).ret c1.words_ (q42 hg) rfl rfl
  refine seq (reg hS [(2,ab (((r38&&decide (1≤(c1.words_.length:Int)))&&decide ((c1.kids_.length:Int)=0))&&r41))] [V9 c1] ?_ ?_)
  ·clear h hk hS hX c
   exact dh1 (an (ca f40) (ap1 207 hpf f43))
  exact Rf h
 refine R [1,154] ?_
 refine iz h (fun h=>?_) fun h=>?_
 ·obtain⟨r45,f47,h⟩:=oc h (Zt2 hk 0 rfl)
  obtain⟨r48,q49,h⟩:=obs h
  replace q49:=Q0d q49
  have f50:=fun hg=>(hk 6 213 rfl).ret c1 (q49 hg) rfl rfl
  refine seq (reg hS [(2,ab ((r45&&decide ((c1.kids_.length:Int)=0))&&r48))] [V9 c1] ?_ ?_)
  ·clear h hk hS hX c
   exact dh1 (an (ca f47) (ap1 213 hpf f50))
  exact Rf h
 cases h
theorem V7a(c:AllG env [S21,S29 (K98 BIG)]):Q0a env S13:=by
 refine hd c V9n 9 ?_
 rintro O X hS hX hpf hk (l1:(List Cmd)) (r:Bool) (h:F13 l1=some r)
 refine gs ?_
 rw[F13]at h
 refine R [0] ?_
 obtain⟨r3,f5,h⟩:=oc h (Zt hk 0 21 l1)
 obtain⟨r6,q7,h⟩:=obs h
 have f8:=hk 1 29 rfl
 replace q7:=Q0d q7
 replace f8:=fun hg=>f8.ret l1 (q7 hg) rfl rfl
 refine seq (reg hS [(2,ab (r3&&r6))] [] ?_ ?_)
 ·clear h hk hS hX c
  exact dh1 (an (ca f5) (ap1 29 hpf f8))
 exact Rf h
theorem K6g(c:AllG env [S155]):Q0a env S108:=by
 refine hd c V1a 8 fun O X hS hX hpf hk ⟨s1,suffix2⟩=>fun r (h:F108 s1 suffix2=some r)=>gs ?_
 rw[F108]at h
 refine R [0,1] ?_
 refine seq (Ua1 h [4] (Zt2 hk 0 rfl) fun r4 h=>?_)
 exact Rf h
theorem K6d(c:AllG env [S163]):Q0a env S123:=by
 refine hd c X6h 19 fun O X hS hX hpf hk ⟨s1,b2,l3⟩=>fun r (h:F123 s1 b2 l3=some r)=>gs ?_
 rw[F123]at h
 refine R [0,1] ?_
 refine seq (Ua1 h [0,1] (Z2 hk 0 rfl) fun _ h=>?_)
 refine seq (AW.after ?_)
 refine weak (Weak.explode 0 rfl) ?_
 refine weak (σ':=⟨sl [(0,.ref 0 0),(1,as_ s1)],19,[.var [.selfp 0,.vec 1 (List.length b2),.vec 2 (List.length l3)],.brow 5 b2,rRe l3]⟩) (Weak.of_eq (Weak.slots (L:=[(0,.ref 0 0),(1,as_ s1)]) ⟨rfl,rfl,trivial⟩) (by first|rfl|(simp only[List.length_map];rfl))) ?_
 obtain⟨out9,q10,h⟩:=obs h
 have f11:=V9x q10
 have f11m:Q5d env [.var [.selfp 0,.vec 1 (List.length b2),.vec 2 (List.length l3)],.brow 5 b2,rRe l3] 58 9 (.vec 1 (List.length b2)) (as_ s1)=some (.vec 1 (List.length out9),[.var [.selfp 0,.vec 1 (List.length b2),.vec 2 (List.length l3)],.brow 5 out9,rRe l3]):=J7g T_58 T_9 T_5 rfl rfl q10
 refine rg hS [1] (di1 f11m) ?_
 refine⟨⟨sl [(1,as_ s1)],19,[.prn 5 out9 51 9 (List.map Redir.pv l3),.moved 5 1 (List.length out9),.moved 51 9 (List.length l3)]⟩,(Weak.trans (Weak.implode (σ:=⟨sl [(1,as_ s1)],19,[.var [.selfp 0,.vec 1 (List.length out9),.vec 2 (List.length l3)],.brow 5 out9,rRe l3]⟩) 0 1 2 rfl rfl rfl rfl (by first|rfl|simp only[List.length_map])) (Weak.of_eq (σ'':=⟨sl [(1,as_ s1)],19,[.prn 5 out9 51 9 (List.map Redir.pv l3),.moved 5 1 (List.length out9),.moved 51 9 (List.length l3)]⟩) (Weak.slots (L:=[(1,as_ s1)]) ⟨rfl,trivial⟩) (by first|rfl|(simp only[List.length_map];rfl)))),?_⟩
 exact Rt h [4,5]
theorem K6l(c:AllG env [S123]):Q0a env S103:=by
 refine hd c V1f 18 fun O X hS hX hpf hk ⟨texts1,b2,l3⟩=>fun r (h:F103 texts1 b2 l3=some r)=>gs ?_
 rw[F103]at h
 refine R [0,6,7,8] ?_
 refine block (Lp h (fun(i5,l6)=>⟨sl [(0,.ref 0 0),(6,.pv (.slice (List.map PV.str texts1))),(7,ai (texts1.length:Int)),(8,ai i5)],18,[.prn 5 l6 51 9 (List.map Redir.pv l3)]⟩) ?_)
 clear h
 rintro⟨i5,l6⟩ m9 h
 rw[X3b]at h
 try dsimp only at h
 refine AW.st (R [0,6,7,8,9] ?_)
 refine seq (iz h (fun h=>?_) fun h=>?_)
 ·obtain⟨w11,f13,h⟩:=oc h fun _=>Q0j
  refine skip (seq ?_)
  refine block (seq ?_)
  refine rg hS [0,5,6,7,8] (di1 (an f13.1 f13.2.1)) ?_
  refine Ua2 h [0,6,7,8] (Z3 hk 0 rfl) fun r14 o15 h=>?_
  refine G [0,6,7,8] ?_
  exact nx h
 exact ex h
theorem V5s(c:AllG env [S36,S108,S103]):Q0a env S67:=by
 refine hd c V8g 38 fun O X hS hX hpf hk ⟨b1,l2⟩=>fun r (h:F67 b1 l2=some r)=>gs ?_
 rw[F67]at h
 obtain⟨r5,f7,h⟩:=oc h (Z2 hk 0 rfl)
 obtain⟨r9,f11,h⟩:=oc h (Zt2 hk 1 rfl)
 replace f11:=ca f11
 try simp only[PVE]at f11
 refine seq (seq ?_)
 refine rg hS [0,8] (di1 (an (cb f7) f11)) ?_
 refine ik h (fun h=>?_) fun h=>?_
 ·cases h
 refine seq (Ua1 h [0] (Z3 hk 2 rfl) fun o13 h=>?_)
 refine seq (seq ?_)
 refine AW.after ?_
 refine weak (Weak.explode 0 rfl) ?_
 refine weak (σ':=⟨sl [(0,.ref 0 0)],38,[.var [.selfp 0,.vec 1 (List.length o13),.vec 2 (List.length l2)],.brow 5 o13,rRe l2]⟩) (Weak.of_eq (Weak.slots (L:=[(0,.ref 0 0)]) ⟨rfl,trivial⟩) (by first|rfl|(simp only[List.length_map];rfl))) ?_
 refine G [0,19,20] ?_
 refine⟨⟨sl [(0,.ref 0 0),(19,ai (l2.length:Int)),(20,ai 0)],38,[.prn 5 o13 51 9 (List.map Redir.pv l2),.moved 5 1 (List.length o13),.moved 51 9 (List.length l2)]⟩,(Weak.trans (Weak.implode (σ:=⟨sl [(0,.ref 0 0),(19,ai (l2.length:Int)),(20,ai 0)],38,[.var [.selfp 0,.vec 1 (List.length o13),.vec 2 (List.length l2)],.brow 5 o13,rRe l2]⟩) 0 1 2 rfl rfl rfl rfl (by first|rfl|simp only[List.length_map])) (Weak.of_eq (σ'':=⟨sl [(0,.ref 0 0),(19,ai (l2.length:Int)),(20,ai 0)],38,[.prn 5 o13 51 9 (List.map Redir.pv l2),.moved 5 1 (List.length o13),.moved 51 9 (List.length l2)]⟩) (Weak.slots (L:=[(0,.ref 0 0),(19,ai (l2.length:Int)),(20,ai 0)]) ⟨rfl,rfl,rfl,trivial⟩) (by first|rfl|(simp only[List.length_map];rfl)))),?_⟩
 refine block (Lp h (fun _=>⟨sl [(0,.ref 0 0),(19,ai (l2.length:Int)),(20,ai 0)],38,[.prn 5 o13 51 9 (List.map Redir.pv l2),.moved 5 1 (List.length o13),.moved 51 9 (List.length l2)]⟩) ?_)
 clear h
 rintro _ m19 h
 rw[X7i]at h
 try dsimp only at h
 refine AW.st (R [0,21] ?_)
 refine seq (iz h (fun h=>?_) fun h=>?_)
 ·cases h
 refine exit (AW.after ?_)
 refine weak (Weak.explode 0 rfl) ?_
 refine weak (σ':=⟨sl [(0,.ref 0 0),(21,ab (decide (0<(l2.length:Int))))],38,[.var [.selfp 0,.vec 3 (List.length o13),.vec 4 (List.length l2)],.moved 5 1 (List.length o13),.moved 51 9 (List.length l2),.brow 5 o13,rRe l2]⟩) (Weak.of_eq (Weak.slots (L:=[(0,.ref 0 0),(21,ab (decide (0<(l2.length:Int))))]) ⟨rfl,rfl,trivial⟩) (by first|rfl|(simp only[List.length_map];rfl))) ?_
 refine G [] ?_
 refine⟨⟨sl [],38,[.prn 5 o13 51 9 (List.map Redir.pv ([]:List Redir)),.moved 5 1 (List.length o13),.moved 51 9 (List.length l2),.moved 5 1 (List.length o13),rRe l2,.moved 51 9 (List.length ([]:List Redir))]⟩,(Weak.trans (Weak.ownC (σ:=⟨sl [],38,[.var [.selfp 0,.vec 3 (List.length o13),.nils],.moved 5 1 (List.length o13),.moved 51 9 (List.length l2),.brow 5 o13,rRe l2]⟩) 0 2 51 9 (by decide) (cs:=[.selfp 0,.vec 3 (List.length o13),.nils]) rfl rfl) (Weak.trans (Weak.of_eq (σ'':=⟨sl [],38,[.var [.selfp 0,.vec 3 (List.length o13),.vec 5 (List.length ([]:List Redir))],.moved 5 1 (List.length o13),.moved 51 9 (List.length l2),.brow 5 o13,rRe l2,.row 51 9 (List.map Redir.pv ([]:List Redir)) true]⟩) (Weak.slots (L:=[]) trivial) (by first|rfl|(simp only[List.length_map];rfl))) (Weak.trans (Weak.implode (σ:=⟨sl [],38,[.var [.selfp 0,.vec 3 (List.length o13),.vec 5 (List.length ([]:List Redir))],.moved 5 1 (List.length o13),.moved 51 9 (List.length l2),.brow 5 o13,rRe l2,.row 51 9 (List.map Redir.pv ([]:List Redir)) true]⟩) 0 3 5 rfl rfl rfl rfl (by first|rfl|simp only[List.length_map])) (Weak.of_eq (σ'':=⟨sl [],38,[.prn 5 o13 51 9 (List.map Redir.pv ([]:List Redir)),.moved 5 1 (List.length o13),.moved 51 9 (List.length l2),.moved 5 1 (List.length o13),rRe l2,.moved 51 9 (List.length ([]:List Redir))]⟩) (Weak.slots (L:=[]) trivial) (by first|rfl|(simp only[List.length_map];rfl)))))),?_⟩
 cases h
 exact fin
theorem K2v{w66:Y5}(c:AllG env [S66 w66,S67]):Q0a env (S35 w66):=by
 refine hd c V9d 18 fun O X hS hX hpf hk ⟨l1,b2,l3⟩=>fun r (h:F35 w66 l1 b2 l3=some r)=>gs ?_
 rw[F35]at h
 refine R [0,6,7,8] ?_
 refine block (Lp h (fun(i6,l7,m8)=>⟨sl [(0,.ref 0 0),(6,vC l1),(7,ai (l1.length:Int)),(8,ai i6)],18,[.prn 5 l7 51 9 (List.map Redir.pv m8)]⟩) ?_)
 clear h
 rintro⟨i6,l7,m8⟩ m11 h
 rw[X7m]at h
 try dsimp only at h
 refine AW.st (R [0,6,7,8,9] ?_)
 refine seq (iz h (fun h=>?_) fun h=>?_)
 ·obtain⟨u13,f15,h⟩:=oc h fun _=>Q0j
  refine skip (seq ?_)
  refine block (seq ?_)
  refine rg hS [0,5,6,7,8] (di1 (an f15.1 f15.2.1)) ?_
  refine seq (Ua2 h [0,6,7,8] (Z3 hk 0 rfl) fun r16 r17 h=>?_)
  refine Ua2 h [0,6,7,8] (Z2 hk 1 rfl) fun o21 m22 h=>?_
  refine G [0,6,7,8] ?_
  exact nx h
 exact ex h
theorem K6k{w66:Y5}(c:AllG env [S103,S67,S35 w66]):Q0a env (S104 w66):=by
 refine hd c V1e 21 fun O X hS hX hpf hk ⟨open1,l2,closing3,b4,l5⟩=>fun r (h:F104 w66 open1 l2 closing3 b4 l5=some r)=>gs ?_
 rw[F104]at h
 refine seq (Ua1 h [0,2,3] (Z3 hk 0 rfl) fun o8 h=>?_)
 refine seq (Ua2 h [0,2,3] (Z2 hk 1 rfl) fun o12 m13 h=>?_)
 refine seq (Ua2 h [0,3] (Z3 hk 2 rfl) fun o17 m18 h=>?_)
 refine Ua1 h [] (Z3 hk 0 rfl) fun o22 h=>?_
 cases h
 exact fin
theorem K6j(c:AllG env []):Q0a env S105:=by
 refine hd c V1d 19 fun O X hS hX hpf hk ⟨l1,b2,l3⟩=>fun r (h:F105 l1 b2 l3=some r)=>gs ?_
 rw[F105]at h
 refine R [7,8] ?_
 refine block (Lp h (fun _=>⟨sl [(7,ai (l1.length:Int)),(8,ai 0)],19,[.prn 5 b2 51 9 (List.map Redir.pv l3)]⟩) ?_)
 clear h
 rintro _ m6 h
 rw[X3a]at h
 try dsimp only at h
 refine AW.st (R [9] ?_)
 refine seq (iz h (fun h=>?_) fun h=>?_)
 ·cases h
 exact ex h
theorem K4o(c:AllG env [Z0p,S103]):Q0a env S190:=by
 refine hd c K8z 56 fun O X hS hX hpf hk ⟨w1,b2,l3⟩=>fun r (h:F190 w1 b2 l3=some r)=>gs ?_
 rw[F190]at h
 refine R [0,3] ?_
 refine seq (R [0,3,9] ?_)
 refine ik h (fun h=>?_) fun h=>?_
 ·cases h
 refine R [0,3,4] ?_
 refine block (Lp h (fun(i6,l7)=>⟨sl [(0,.ref 0 0),(3,.ref 1 0),(4,ai i6)],56,[.prn 5 l7 51 9 (List.map Redir.pv l3),V21 w1]⟩) ?_)
 clear h
 rintro⟨i6,l7⟩ m10 h
 rw[X2o]at h
 try dsimp only at h
 refine AW.st (seq ?_)
 refine R [0,3,4,17] ?_
 refine iz h (fun h=>?_) fun h=>?_
 ·refine skip (block ?_)
  refine R [0,3,4,5] ?_
  refine seq (block ?_)
  refine Lp h (fun end12=>⟨sl [(0,.ref 0 0),(3,.ref 1 0),(4,ai i6),(5,ai end12)],56,[.prn 5 l7 51 9 (List.map Redir.pv l3),V21 w1]⟩) ?_
  clear h
  rintro end12 m15 h
  rw[X2n]at h
  try dsimp only at h
  obtain⟨c16,f18,h⟩:=oc h fun _ q=>Q1s (Q0d q)
  obtain⟨c19,f21,h⟩:=oc h fun _ q=>Q1s (Q0d q)
  refine AW.st (seq ?_)
  refine seq (dreg mixed hS (ordp hpf (by kernel_rfl)) [(0,.ref 0 0),(3,.ref 1 0),(4,ai i6),(5,ai end12),(34,ab (decide (end12<(w1.text_.length:Int))&&decide (c16=c19)))] [.prn 5 l7 51 9 (List.map Redir.pv l3),V21 w1] ?_ ?_)
  ·clear h hk hS hX c
   exact dh1 (an f18.1 (an f18.2.1 (an f18.2.2 (an f21.1 (an f21.2.1 f21.2.2)))))
  refine iz h (fun h=>?_) fun h=>?_
  ·refine skip (block ?_)
   refine G [0,3,4,5] ?_
   exact nx h
  obtain⟨t23,f25,h⟩:=oc h fun _=>Q0p
  try simp only[NRM,Int.reduceToNat]at f25
  have f25e:=f25.2.2.2.2
  try simp only[NRM,Int.reduceToNat]at f25e
  have f25l:=f25.2.2.1
  try simp only[NRM,Int.reduceToNat]at f25l
  refine exit (seq ?_)
  refine rg hS [0,3,4,5,6] (di1 (an f25.1 (an f25.2.1 (an f25l (an f25.2.2.2.1 f25e))))) ?_
  obtain⟨c26,f28,h⟩:=oc h fun _=>Q1t
  refine seq (seq ?_)
  refine rg hS [0,3,5,6,46] (di1 (an f28.1 (an f28.2.1 f28.2.2))) ?_
  refine ik h (fun h=>?_) fun h=>?_
  ·obtain⟨t30,f32,h⟩:=oc h (Zt3 hk 0 rfl)
   replace f32:=ca f32
   try simp only[PVE]at f32
   obtain⟨s33,f35,h⟩:=oc h fun _=>Q5z
   try simp only[LNS,List.length_replicate,Nat.reduceAdd,Nat.reduceLeDiff,Nat.add_zero,Nat.reduceMul]at f35
   obtain⟨s36,f38,h⟩:=oc h fun _=>Q5z
   try simp only[LNS,List.length_replicate,Nat.reduceAdd,Nat.reduceLeDiff,Nat.add_zero,Nat.reduceMul]at f38
   refine rg hS [0,3,5,6] (di1 (an f32 (an f35.1 (an f35.2 (an f38.1 f38.2))))) ?_
   refine seq (Ua1 h [0,3,5] (Z3 hk 1 rfl) fun o39 h=>?_)
   refine G [0,3,4] ?_
   exact nx h
  refine seq (Ua1 h [0,3,5] (Z3 hk 1 rfl) fun o43 h=>?_)
  refine G [0,3,4] ?_
  exact nx h
 exact ex h
end Go.Abs.U48
