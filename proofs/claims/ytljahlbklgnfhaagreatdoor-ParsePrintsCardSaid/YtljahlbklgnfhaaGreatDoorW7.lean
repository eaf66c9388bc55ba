import Derived.Test.YtljahlbklgnfhaaGreatDoorD1
set_option linter.unusedVariables false
set_option linter.unusedSimpArgs false
set_option linter.defProp false
set_option maxRecDepth 8000
set_option maxHeartbeats 4000000
namespace Go.Abs.U48
open Go.RowKit Go.Proofs AW
theorem K4c(c:AllG env [(S263 F263),Q0w]):Q0a env (S278 F278):=by
 refine hd c K8w 44 ?_
 rintro O X hS hX hpf hk (w1:Word) (r:Bool) (h:F278 w1=some r)
 have pf_40:O.pf 40=true:=pft hpf 40 rfl
 refine gs ?_
 rw[F278]at h
 refine R [1] ?_
 refine seq (seq ?_)
 refine Ua1 h [1,7] (Zt hk 0 263 w1) fun r3 h=>?_
 refine ik h (fun h=>?_) fun h=>?_
 ·exact Rt h [2]
 refine seq (R [1,10,11] ?_)
 refine block (Lp h (fun i7=>⟨sl [(1,.ref 0 0),(10,ai (w1.text_.length:Int)),(11,ai i7)],44,[V17 w1]⟩) ?_)
 clear h
 rintro i7 m10 h
 rw[Q4c]at h
 try dsimp only at h
 refine AW.st (R [1,10,11,12] ?_)
 refine seq (iz h (fun h=>?_) fun h=>?_)
 ·refine skip (seq ?_)
  refine block (R [1,3,10,11] ?_)
  obtain⟨c12,f14,h⟩:=oc h fun _=>Q3m
  refine seq (rg hS [1,3,4,10,11] (di1 (an f14.1 (an f14.2.1 f14.2.2))) ?_)
  obtain⟨c15,f17,h⟩:=oc h fun _ q=>Q4n (Q0b q)
  obtain⟨n18,q19,h⟩:=obs h
  replace q19:=Q0b q19
  have f20:=fun hg=>(hk 1 40 rfl).ret (([32,9,10,59,38,124,40,41,123,125,60,62,61,94,96,36,39]:Str),c15) (q19 hg) rfl rfl
  try simp only[PVE]at f20
  obtain⟨n21,q22,h⟩:=obs h
  replace q22:=Q0b q22
  have f23:=fun hg=>(hk 1 40 rfl).ret (([35,33,64]:Str),c15) (q22 hg) rfl rfl
  try simp only[PVE]at f23
  refine seq (reg hS [(1,.ref 0 0),(10,ai (w1.text_.length:Int)),(11,ai i7),(42,ab ((decide (c12=48)&&decide (0≤n18))||((decide (c12=48)&&decide (i7=0))&&decide (0≤n21))))] [V17 w1] ?_ ?_)
  ·clear h hk hS hX c
   exact dh1 (an f17.1 (an f17.2.1 (an f17.2.2 (an pf_40 (an f20 f23)))))
  refine ik h (fun h=>?_) fun h=>?_
  ·exact Rt h [2]
  refine G [1,10,11] ?_
  exact nx h
 exact exit (Rt h [2])
theorem K4l{w98:Y4}{w260:Y3}(c:AllG env [(S144 F144),(S278 F278),(S207 (F207 w260)),(S29 (F29 w98))]):Q0a env (S260 (F260 w98 w260)):=by
 refine hd c X6v 97 ?_
 rintro O X hS hX hpf hk (w1:Word) (r:Bool) (h:F260 w98 w260 w1=some r)
 refine gs ?_
 rw[F260]at h
 refine R [1] ?_
 obtain⟨r3,f5,h⟩:=oc h (Zt hk 0 144 w1.text_)
 refine seq (reg hS [(1,.ref 0 0),(3,ab ((r3&&decide (w1.quoted_=[]))&&decide ((w1.cmd_.length:Int)=0)))] [V17 w1] ?_ ?_)
 ·clear h hk hS hX c
  exact dh1 (ca f5)
 refine seq (reg hS [(1,.ref 0 0),(3,ab ((r3&&decide (w1.quoted_=[]))&&decide ((w1.cmd_.length:Int)=0))),(4,ab (decide (w1.text_=[])&&decide (w1.quoted_=[])))] [V17 w1] ?_ ?_)
 ·clear h hk hS hX c
  exact dh
 refine seq (R [1,3,4,28] ?_)
 refine block (R [1,3,4,28,29] ?_)
 refine iz h (fun h=>?_) fun h=>?_
 ·obtain⟨r7,q8,h⟩:=obs h
  replace q8:=Q0b q8
  have f9:=fun hg=>(hk 1 278 rfl).ret w1 (q8 hg) rfl rfl
  refine seq (reg hS [(2,ab ((decide ((w1.words_.length:Int)=0)&&decide ((w1.cmd_.length:Int)=0))&&r7))] [V17 w1] ?_ ?_)
  ·clear h hk hS hX c
   exact dh1 (ap1 278 hpf f9)
  exact Rf h
 refine seqM ⟨sl [(1,.ref 0 0),(3,ab ((r3&&decide (w1.quoted_=[]))&&decide ((w1.cmd_.length:Int)=0))),(4,ab (decide (w1.text_=[])&&decide (w1.quoted_=[]))),(28,ai w1.kind_),(45,ab (bif decide (w1.kind_=2)then decide (w1.kind_=2)else decide (w1.kind_=3)))],97,[V17 w1]⟩ ?_ ?_
 ·refine R [1,3,4,28,45] ?_
  refine cond (b:=decide (w1.kind_=2)) rfl (fun hb10=>?_) (fun hb10=>?_)
  ·exact skip (Weak.of_eq (Weak.slots (L:=[(1,.ref 0 0),(3,ab ((r3&&decide (w1.quoted_=[]))&&decide ((w1.cmd_.length:Int)=0))),(4,ab (decide (w1.text_=[])&&decide (w1.quoted_=[]))),(28,ai w1.kind_),(45,ab (decide (w1.kind_=2)))]) kp) (wq hb10))
  refine G [1,3,4,28,45] ?_
  exact Weak.of_eq (Weak.slots (L:=[(1,.ref 0 0),(3,ab ((r3&&decide (w1.quoted_=[]))&&decide ((w1.cmd_.length:Int)=0))),(4,ab (decide (w1.text_=[])&&decide (w1.quoted_=[]))),(28,ai w1.kind_),(45,ab (decide (w1.kind_=3)))]) kp) (wq hb10)
 refine iz h (fun h=>?_) fun h=>?_
 ·refine seq (reg hS [(2,ab (((r3&&decide (w1.quoted_=[]))&&decide ((w1.cmd_.length:Int)=0))&&decide ((w1.words_.length:Int)=0)))] [V17 w1] ?_ ?_)
  ·clear h hk hS hX c
   exact dh
  exact Rf h
 refine R [1,3,4,28,55] ?_
 refine iz h (fun h=>?_) fun h=>?_
 ·obtain⟨r13,q14,h⟩:=obs h
  replace q14:=Q0b q14
  have f15:=fun hg=>(hk 2 207 rfl).ret w1.words_ (q14 hg) rfl rfl
  refine seq (reg hS [(2,ab ((((r3&&decide (w1.quoted_=[]))&&decide ((w1.cmd_.length:Int)=0))&&decide (1≤(w1.words_.length:Int)))&&r13))] [V17 w1] ?_ ?_)
  ·clear h hk hS hX c
   exact dh1 (ap1 207 hpf f15)
  exact Rf h
 refine R [1,4,28,69] ?_
 refine iz h (fun h=>?_) fun h=>?_
 ·obtain⟨r17,q18,h⟩:=obs h
  replace q18:=Q0b q18
  have f19:=fun hg=>(hk 2 207 rfl).ret w1.words_ (q18 hg) rfl rfl
  refine seq (reg hS [(2,ab (((decide (w1.text_=[])&&decide (w1.quoted_=[]))&&decide ((w1.cmd_.length:Int)=0))&&r17))] [V17 w1] ?_ ?_)
  ·clear h hk hS hX c
   exact dh1 (ap1 207 hpf f19)
  exact Rf h
 refine R [1,4,83] ?_
 refine ik h (fun h=>?_) fun h=>?_
 ·obtain⟨r21,q22,h⟩:=obs h
  replace q22:=Q0b q22
  have f23:=fun hg=>(hk 3 29 rfl).ret w1.cmd_ (q22 hg) rfl rfl
  refine seq (reg hS [(2,ab (((decide (w1.text_=[])&&decide (w1.quoted_=[]))&&decide ((w1.words_.length:Int)=0))&&r21))] [V17 w1] ?_ ?_)
  ·clear h hk hS hX c
   exact dh1 (ap1 29 hpf f23)
  exact Rf h
 exact Rt h [2]
theorem V8b(c:AllG env [(S21 F21),(S29 (F29 (K98 BIG)))]):Q0a env (S13 F13):=by
 refine hd c V9v 9 ?_
 rintro O X hS hX hpf hk (l1:(List Cmd)) (r:Bool) (h:F13 l1=some r)
 have pf_21:O.pf 21=true:=pft hpf 21 rfl
 refine gs ?_
 rw[F13]at h
 refine R [0] ?_
 obtain⟨r3,f5,h⟩:=oc h (Zt hk 0 21 l1)
 obtain⟨r6,q7,h⟩:=obs h
 have f8:=hk 1 29 rfl
 replace q7:=Q0b q7
 replace f8:=fun hg=>f8.ret l1 (q7 hg) rfl rfl
 refine seq (reg hS [(2,ab (r3&&r6))] [] ?_ ?_)
 ·clear h hk hS hX c
  exact dh1 (an pf_21 (an (ca f5) (ap1 29 hpf f8)))
 exact Rf h
theorem K7h(c:AllG env [(S163 F163)]):Q0a env (S123 F123):=by
 refine hd c X7e 19 ?_
 rintro O X hS hX hpf hk ⟨s1,b2,l3⟩ (r:Int×Str) (h:F123 s1 b2 l3=some r)
 refine gs ?_
 rw[F123]at h
 refine R [0,1] ?_
 refine seq (Ua1 h [0,1] (Z hk 0 163 (b2,l3)) fun _ h=>?_)
 refine seq (AW.after ?_)
 refine weak (Weak.explode 0 rfl) ?_
 refine weak (σ':=⟨sl [(0,.ref 0 0),(1,as_ s1)],19,[V19 b2.length l3.length,.brow 5 b2,rRe l3]⟩) (Weak.of_eq (Weak.slots (L:=[(0,.ref 0 0),(1,as_ s1)]) ⟨rfl,rfl,trivial⟩) (by first|rfl|(simp only[List.length_map];rfl))) ?_
 obtain⟨out9,q10,h⟩:=obs h
 have f11:=Y0h q10
 have f11m:Q5h env [V19 b2.length l3.length,.brow 5 b2,rRe l3] 58 9 (.vec 1 (List.length b2)) (as_ s1)=some (.vec 1 (List.length out9),[V19 b2.length l3.length,.brow 5 out9,rRe l3]):=J8n T_58 T_9 T_5 rfl rfl q10
 refine reg hS [(1,as_ s1)] [V19 out9.length l3.length,.brow 5 out9,rRe l3] (dk1 f11m) ?_
 refine⟨⟨sl [(1,as_ s1)],19,[.prn 5 out9 51 9 (List.map Redir.pv l3),.moved 5 1 (List.length out9),.moved 51 9 (List.length l3)]⟩,(Weak.trans (Weak.implode (σ:=⟨sl [(1,as_ s1)],19,[V19 out9.length l3.length,.brow 5 out9,rRe l3]⟩) 0 1 2 rfl rfl rfl rfl (by first|rfl|simp only[List.length_map])) (Weak.of_eq (σ'':=⟨sl [(1,as_ s1)],19,[.prn 5 out9 51 9 (List.map Redir.pv l3),.moved 5 1 (List.length out9),.moved 51 9 (List.length l3)]⟩) (Weak.slots (L:=[(1,as_ s1)]) ⟨rfl,trivial⟩) (by first|rfl|(simp only[List.length_map];rfl)))),?_⟩
 exact Rt h [4,5]
theorem K7w(c:AllG env [(S123 F123)]):Q0a env (S103 F103):=by
 refine hd c V2y 18 ?_
 rintro O X hS hX hpf hk ⟨texts1,b2,l3⟩ (r:Str) (h:F103 texts1 b2 l3=some r)
 refine gs ?_
 rw[F103]at h
 refine R [0,6,7,8] ?_
 refine block (Lp h (fun(i5,l6)=>⟨sl [(0,.ref 0 0),(6,vS texts1),(7,ai (texts1.length:Int)),(8,ai i5)],18,[.prn 5 l6 51 9 (List.map Redir.pv l3)]⟩) ?_)
 clear h
 rintro⟨i5,l6⟩ m9 h
 rw[J4l]at h
 try dsimp only at h
 refine AW.st (R [0,6,7,8,9] ?_)
 refine seq (iz h (fun h=>?_) fun h=>?_)
 ·obtain⟨w11,f13,h⟩:=oc h fun _=>Q0f
  refine skip (seq ?_)
  refine block (seq ?_)
  refine rg hS [0,5,6,7,8] (di1 (an f13.1 f13.2.1)) ?_
  refine Ua2 h [0,6,7,8] (Z hk 0 123 (w11,l6,l3)) fun r14 o15 h=>?_
  refine G [0,6,7,8] ?_
  exact nx h
 exact ex h
theorem K7q(c:AllG env [J6e,Z4y]):Q0a env (S109 F109):=by
 refine hd c V2s 13 ?_
 rintro O X hS hX hpf hk (doc1:Str) (r:Str) (h:F109 doc1=some r)
 refine gs ?_
 rw[F109]at h
 refine R [0] ?_
 refine seq (Ua1 h [3] (Zt hk 0 156 (doc1,([10]:Str))) fun l3 h=>?_)
 refine R [3,4] ?_
 refine seq (block ?_)
 refine Lp h (fun s6=>⟨sl [(3,vS l3),(4,as_ s6)],13,[]⟩) ?_
 clear h
 rintro s6 m9 h
 rw[Z1l]at h
 try dsimp only at h
 refine AW.st (seq ?_)
 refine seq (Ua1 h [3,4,9] (Zt hk 1 157 (l3,s6)) fun ok10 h=>?_)
 refine iz h (fun h=>?_) fun h=>?_
 ·obtain⟨s14,f16,h⟩:=oc h fun _=>Q1a
  try simp only[LNS,List.length_replicate,Nat.reduceAdd,Nat.reduceLeDiff,Nat.add_zero,Nat.reduceMul]at f16
  refine skip (block ?_)
  refine rg hS [3,4] (di1 (an f16.1 f16.2)) ?_
  exact nx h
 exact exit (Rt h [2])
theorem V7b(c:AllG env [(S36 F36),(S108 F108),(S103 F103),(S109 F109)]):Q0a env (S67 F67):=by
 refine hd c V8v 38 ?_
 rintro O X hS hX hpf hk ⟨b1,l2⟩ (r:Str×(List Redir)) (h:F67 b1 l2=some r)
 have pf_36:O.pf 36=false:=pft hpf 36 rfl
 have pf_109:O.pf 109=true:=pft hpf 109 rfl
 refine gs ?_
 rw[F67]at h
 refine seqJ (α:=Str) (fun l5=>⟨sl [(0,.ref 0 0)],38,[.prn 5 l5 51 9 (List.map Redir.pv l2)]⟩) (fun x=>Z6w l2 x=some r) ?_ ?_
 ·intro l5 h
  rw[Z6w]at h
  try dsimp only at h
  refine AW.st (seq ?_)
  refine Ua1 h [0] (Z hk 2 103 (([[10]]:List Str),l5,l2)) fun o6 h=>?_
  refine seq (seq ?_)
  refine AW.after ?_
  refine weak (Weak.explode 0 rfl) ?_
  refine weak (σ':=⟨sl [(0,.ref 0 0)],38,[V19 o6.length l2.length,.brow 5 o6,rRe l2]⟩) (Weak.of_eq (Weak.slots (L:=[(0,.ref 0 0)]) ⟨rfl,trivial⟩) (by first|rfl|(simp only[List.length_map];rfl))) ?_
  refine G [0,18,19,20] ?_
  refine⟨⟨sl [(0,.ref 0 0),(18,vRe l2),(19,ai (l2.length:Int)),(20,ai 0)],38,[.prn 5 o6 51 9 (List.map Redir.pv l2),.moved 5 1 (List.length o6),.moved 51 9 (List.length l2)]⟩,(Weak.trans (Weak.slotPV (σ:=⟨sl [(0,.ref 0 0),(18,.vec 2 (List.length l2)),(19,ai (l2.length:Int)),(20,ai 0)],38,[V19 o6.length l2.length,.brow 5 o6,rRe l2]⟩) 18 (a:=.vec 2 (List.length l2)) (p:=.slice (List.map Redir.pv l2)) rfl (by first|rfl|simp only[toPV,List.getElem?_cons_zero,List.getElem?_cons_succ,List.length_map,if_true,List.map_nil])) (Weak.trans (Weak.of_eq (σ'':=⟨sl [(0,.ref 0 0),(18,vRe l2),(19,ai (l2.length:Int)),(20,ai 0)],38,[V19 o6.length l2.length,.brow 5 o6,rRe l2]⟩) (Weak.slots (L:=[(0,.ref 0 0),(18,vRe l2),(19,ai (l2.length:Int)),(20,ai 0)]) ⟨rfl,rfl,rfl,rfl,trivial⟩) (by first|rfl|(simp only[List.length_map];rfl))) (Weak.trans (Weak.implode (σ:=⟨sl [(0,.ref 0 0),(18,vRe l2),(19,ai (l2.length:Int)),(20,ai 0)],38,[V19 o6.length l2.length,.brow 5 o6,rRe l2]⟩) 0 1 2 rfl rfl rfl rfl (by first|rfl|simp only[List.length_map])) (Weak.of_eq (σ'':=⟨sl [(0,.ref 0 0),(18,vRe l2),(19,ai (l2.length:Int)),(20,ai 0)],38,[.prn 5 o6 51 9 (List.map Redir.pv l2),.moved 5 1 (List.length o6),.moved 51 9 (List.length l2)]⟩) (Weak.slots (L:=[(0,.ref 0 0),(18,vRe l2),(19,ai (l2.length:Int)),(20,ai 0)]) ⟨rfl,rfl,rfl,rfl,trivial⟩) (by first|rfl|(simp only[List.length_map];rfl)))))),?_⟩
  refine block (Lp h (fun(i10,l11)=>⟨sl [(0,.ref 0 0),(18,vRe l2),(19,ai (l2.length:Int)),(20,ai i10)],38,[.prn 5 l11 51 9 (List.map Redir.pv l2),.moved 5 1 (List.length o6),.moved 51 9 (List.length l2)]⟩) ?_)
  clear h
  rintro⟨i10,l11⟩ m14 h
  rw[J6o]at h
  try dsimp only at h
  refine AW.st (R [0,18,19,20,21] ?_)
  refine seq (iz h (fun h=>?_) fun h=>?_)
  ·obtain⟨u16,f18,h⟩:=oc h fun _=>Q0f
   refine skip (seq ?_)
   refine block (seq ?_)
   refine rg hS [0,3,18,19,20] (di1 (an f18.1 f18.2.1)) ?_
   obtain⟨r19,f21,h⟩:=oc h (Zt hk 3 109 u16.word_.text_)
   obtain⟨o22,f24,h⟩:=oc h (Z hk 2 103 (([u16.word_.text_,r19,[10]]:List Str),l11,l2))
   replace f24:=cb f24
   try simp only[PVE]at f24
   apply dgk mixed hS [0,18,19,20] (ordp hpf (by kernel_rfl))
   ·exact di1 (an pf_109 (an (ca f21) f24))
   refine G [0,18,19,20] ?_
   exact nx h
  refine exit (AW.after ?_)
  refine weak (Weak.explode 0 rfl) ?_
  refine weak (σ':=⟨sl [(0,.ref 0 0),(18,vRe l2),(19,ai (l2.length:Int)),(20,ai i10),(21,ab (decide (i10<(l2.length:Int))))],38,[.var [.selfp 0,.vec 3 (List.length l11),.vec 4 (List.length l2)],.moved 5 1 (List.length o6),.moved 51 9 (List.length l2),.brow 5 l11,rRe l2]⟩) (Weak.of_eq (Weak.slots (L:=[(0,.ref 0 0),(18,vRe l2),(19,ai (l2.length:Int)),(20,ai i10),(21,ab (decide (i10<(l2.length:Int))))]) ⟨rfl,rfl,rfl,rfl,rfl,trivial⟩) (by first|rfl|(simp only[List.length_map];rfl))) ?_
  refine G [] ?_
  refine⟨⟨sl [],38,[.prn 5 l11 51 9 (List.map Redir.pv ([]:List Redir)),.moved 5 1 (List.length o6),.moved 51 9 (List.length l2),.moved 5 1 (List.length l11),rRe l2,.moved 51 9 (List.length ([]:List Redir))]⟩,(Weak.trans (Weak.ownC (σ:=⟨sl [],38,[.var [.selfp 0,.vec 3 (List.length l11),.nils],.moved 5 1 (List.length o6),.moved 51 9 (List.length l2),.brow 5 l11,rRe l2]⟩) 0 2 51 9 (by decide) (cs:=[.selfp 0,.vec 3 (List.length l11),.nils]) rfl rfl) (Weak.trans (Weak.of_eq (σ'':=⟨sl [],38,[.var [.selfp 0,.vec 3 (List.length l11),.vec 5 (List.length ([]:List Redir))],.moved 5 1 (List.length o6),.moved 51 9 (List.length l2),.brow 5 l11,rRe l2,.row 51 9 (List.map Redir.pv ([]:List Redir)) true]⟩) (Weak.slots (L:=[]) trivial) (by first|rfl|(simp only[List.length_map];rfl))) (Weak.trans (Weak.implode (σ:=⟨sl [],38,[.var [.selfp 0,.vec 3 (List.length l11),.vec 5 (List.length ([]:List Redir))],.moved 5 1 (List.length o6),.moved 51 9 (List.length l2),.brow 5 l11,rRe l2,.row 51 9 (List.map Redir.pv ([]:List Redir)) true]⟩) 0 3 5 rfl rfl rfl rfl (by first|rfl|simp only[List.length_map])) (Weak.of_eq (σ'':=⟨sl [],38,[.prn 5 l11 51 9 (List.map Redir.pv ([]:List Redir)),.moved 5 1 (List.length o6),.moved 51 9 (List.length l2),.moved 5 1 (List.length l11),rRe l2,.moved 51 9 (List.length ([]:List Redir))]⟩) (Weak.slots (L:=[]) trivial) (by first|rfl|(simp only[List.length_map];rfl)))))),?_⟩
  cases h
  exact fin
 obtain⟨r27,f29,h⟩:=oc h (Z hk 0 36 (b1,l2))
 obtain⟨r31,f33,h⟩:=oc h (Zt hk 1 108 (r27,([92]:Str)))
 replace f33:=ca f33
 try simp only[PVE]at f33
 refine seq (rg hS [0,8] (di1 (an pf_36 (an (cb f29) f33))) ?_)
 refine ik h (fun h=>?_) fun h=>?_
 ·refine Ua1 h [0] (Z hk 2 103 (([[32]]:List Str),b1,l2)) fun o35 h=>?_
  exact⟨o35,h,(Weak.norm (m:=1) (Nat.le_of_ble_eq_true rfl) kp hq rfl rfl)⟩
 exact⟨b1,h,(Weak.norm (m:=1) (Nat.le_of_ble_eq_true rfl) kp hq rfl rfl)⟩
theorem K3w{w66:Y5}(c:AllG env [(S66 w66),(S67 F67)]):Q0a env (S35 (F35 w66)):=by
 refine hd c V9l 18 ?_
 rintro O X hS hX hpf hk ⟨l1,b2,l3⟩ (r:Str×(List Redir)) (h:F35 w66 l1 b2 l3=some r)
 refine gs ?_
 rw[F35]at h
 refine R [0,6,7,8] ?_
 refine block (Lp h (fun(i6,l7,m8)=>⟨sl [(0,.ref 0 0),(6,vC l1),(7,ai (l1.length:Int)),(8,ai i6)],18,[.prn 5 l7 51 9 (List.map Redir.pv m8)]⟩) ?_)
 clear h
 rintro⟨i6,l7,m8⟩ m11 h
 rw[J6t]at h
 try dsimp only at h
 refine AW.st (R [0,6,7,8,9] ?_)
 refine seq (iz h (fun h=>?_) fun h=>?_)
 ·obtain⟨u13,f15,h⟩:=oc h fun _=>Q0f
  refine skip (seq ?_)
  refine block (seq ?_)
  refine rg hS [0,5,6,7,8] (di1 (an f15.1 f15.2.1)) ?_
  refine seq (Ua2 h [0,6,7,8] (Z hk 0 66 (u13,l7,m8)) fun r16 r17 h=>?_)
  refine Ua2 h [0,6,7,8] (Z hk 1 67 (r16,r17)) fun o21 m22 h=>?_
  refine G [0,6,7,8] ?_
  exact nx h
 exact ex h
theorem K7x{w66:Y5}(c:AllG env [(S103 F103),(S66 w66)]):Q0a env (S102 (F102 w66)):=by
 refine hd c V2z 25 ?_
 rintro O X hS hX hpf hk ⟨l1,between2,b3,l4⟩ (r:Str×(List Redir)) (h:F102 w66 l1 between2 b3 l4=some r)
 refine gs ?_
 rw[F102]at h
 refine R [0,2,8,9,10] ?_
 refine block (Lp h (fun(i7,l8,m9)=>⟨sl [(0,.ref 0 0),(2,as_ between2),(8,vC l1),(9,ai (l1.length:Int)),(10,ai i7)],25,[.prn 5 l8 51 9 (List.map Redir.pv m9)]⟩) ?_)
 clear h
 rintro⟨i7,l8,m9⟩ m12 h
 rw[Z5g]at h
 try dsimp only at h
 refine AW.st (R [0,2,8,9,10,11] ?_)
 refine seq (iz h (fun h=>?_) fun h=>?_)
 ·obtain⟨u14,f16,h⟩:=oc h fun _=>Q0f
  refine skip (seq ?_)
  refine block (seq ?_)
  refine rg hS [0,2,6,7,8,9,10] (di1 (an f16.1 f16.2.1)) ?_
  refine seq (R [0,2,7,8,9,10,16] ?_)
  refine ik h (fun h=>?_) fun h=>?_
  ·refine Ua1 h [0,2,7,8,9,10] (Z hk 0 103 (([between2]:List Str),l8,m9)) fun o18 h=>?_
   refine Ua2 h [0,2,8,9,10] (Z hk 1 66 (u14,o18,m9)) fun r22 r23 h=>?_
   refine G [0,2,8,9,10] ?_
   exact nx h
  refine Ua2 h [0,2,8,9,10] (Z hk 1 66 (u14,l8,m9)) fun r27 r28 h=>?_
  refine G [0,2,8,9,10] ?_
  exact nx h
 exact ex h
theorem K7v{w66:Y5}(c:AllG env [(S103 F103),(S67 F67),(S35 (F35 w66))]):Q0a env (S104 (F104 w66)):=by
 refine hd c V2x 21 ?_
 rintro O X hS hX hpf hk ⟨open1,l2,closing3,b4,l5⟩ (r:Str×(List Redir)) (h:F104 w66 open1 l2 closing3 b4 l5=some r)
 refine gs ?_
 rw[F104]at h
 refine seq (Ua1 h [0,2,3] (Z hk 0 103 (([open1]:List Str),b4,l5)) fun o8 h=>?_)
 refine seq (Ua2 h [0,2,3] (Z hk 1 67 (o8,l5)) fun o12 m13 h=>?_)
 refine seq (Ua2 h [0,3] (Z hk 2 35 (l2,o12,m13)) fun o17 m18 h=>?_)
 refine Ua1 h [] (Z hk 0 103 (([closing3]:List Str),o17,m18)) fun o22 h=>?_
 cases h
 exact fin
theorem K5w(c:AllG env [Z8o]):Q0a env (S188 F188):=by
 refine hd c V0q 12 ?_
 rintro O X hS hX hpf hk ⟨fd1,usual2⟩ (r:Str) (h:F188 fd1 usual2=some r)
 have pf_189:O.pf 189=true:=pft hpf 189 rfl
 refine gs ?_
 rw[F188]at h
 refine R [0,1] ?_
 refine seq (R [0,7] ?_)
 refine ik h (fun h=>?_) fun h=>?_
 ·exact Rt h [4]
 obtain⟨s5,f7,h⟩:=oc h (Zt hk 0 189 fd1)
 obtain⟨s8,f10,h⟩:=oc h fun _=>Q1a
 try simp only[LNS,List.length_replicate,Nat.reduceAdd,Nat.reduceLeDiff,Nat.add_zero,Nat.reduceMul]at f10
 obtain⟨s11,f13,h⟩:=oc h fun _=>Q1a
 try simp only[LNS,List.length_replicate,Nat.reduceAdd,Nat.reduceLeDiff,Nat.add_zero,Nat.reduceMul]at f13
 refine seq (rg hS [4] (di1 (an pf_189 (an (ca f7) (an f10.1 (an f10.2 (an f13.1 f13.2)))))) ?_)
 exact Rf h
theorem K6p{w152:Y2}(c:AllG env [(S188 F188),(S103 F103),Z8o,(S152 w152),(S109 F109)]):Q0a env (S151 (F151 w152)):=by
 refine hd c V1l 77 ?_
 rintro O X hS hX hpf hk ⟨r1,b2,l3⟩ (r:Str×(List Redir)) (h:F151 w152 r1 b2 l3=some r)
 have pf_109:O.pf 109=true:=pft hpf 109 rfl
 have pf_188:O.pf 188=true:=pft hpf 188 rfl
 have pf_189:O.pf 189=true:=pft hpf 189 rfl
 refine gs ?_
 rw[F151]at h
 refine R [0,3] ?_
 refine seq (R [0,3,6] ?_)
 refine block (R [0,3,6,7] ?_)
 refine iz h (fun h=>?_) fun h=>?_
 ·obtain⟨r7,f9,h⟩:=oc h (Zt hk 0 188 (r1.fd_,0))
  obtain⟨o10,f12,h⟩:=oc h (Z hk 1 103 (([[60],r7,[32]]:List Str),b2,l3))
  replace f12:=cb f12
  try simp only[PVE]at f12
  refine rg hS [0,3] (di1 (an pf_188 (an (ca f9) f12))) ?_
  refine Ua2 h [] (Z hk 3 152 (r1.word_,o10,l3)) fun r14 r15 h=>?_
  cases h
  exact fin
 refine R [0,3,6,15] ?_
 refine iz h (fun h=>?_) fun h=>?_
 ·obtain⟨r20,f22,h⟩:=oc h (Zt hk 0 188 (r1.fd_,1))
  obtain⟨o23,f25,h⟩:=oc h (Z hk 1 103 (([[62],r20,[32]]:List Str),b2,l3))
  replace f25:=cb f25
  try simp only[PVE]at f25
  refine rg hS [0,3] (di1 (an pf_188 (an (ca f22) f25))) ?_
  refine Ua2 h [] (Z hk 3 152 (r1.word_,o23,l3)) fun r27 r28 h=>?_
  cases h
  exact fin
 refine R [0,3,6,23] ?_
 refine iz h (fun h=>?_) fun h=>?_
 ·obtain⟨r33,f35,h⟩:=oc h (Zt hk 0 188 (r1.fd_,1))
  obtain⟨o36,f38,h⟩:=oc h (Z hk 1 103 (([[62,62],r33,[32]]:List Str),b2,l3))
  replace f38:=cb f38
  try simp only[PVE]at f38
  refine rg hS [0,3] (di1 (an pf_188 (an (ca f35) f38))) ?_
  refine Ua2 h [] (Z hk 3 152 (r1.word_,o36,l3)) fun r40 r41 h=>?_
  cases h
  exact fin
 refine R [0,3,6,31] ?_
 refine iz h (fun h=>?_) fun h=>?_
 ·refine seq ?_
  obtain⟨s46,f48,h⟩:=oc h (Zt hk 2 189 r1.fd_)
  obtain⟨s49,f51,h⟩:=oc h (Zt hk 2 189 r1.from_)
  obtain⟨o52,f54,h⟩:=oc h (Z hk 1 103 (([[62,91],s46,[61],s49,[93]]:List Str),b2,l3))
  replace f54:=cb f54
  try simp only[PVE]at f54
  apply dgk mixed hS [] (ordp hpf (by kernel_rfl))
  ·exact di1 (an pf_189 (an (ca f48) (an (ca f51) f54)))
  exact Rf h
 refine R [0,3,6,42] ?_
 refine iz h (fun h=>?_) fun h=>?_
 ·obtain⟨s57,f59,h⟩:=oc h (Zt hk 2 189 r1.fd_)
  obtain⟨o60,f62,h⟩:=oc h (Z hk 1 103 (([[62,91],s57,[61,93]]:List Str),b2,l3))
  replace f62:=cb f62
  try simp only[PVE]at f62
  refine seq (rg hS [] (di1 (an pf_189 (an (ca f59) f62))) ?_)
  exact Rf h
 refine R [0,3,50] ?_
 refine ik h (fun h=>?_) fun h=>?_
 ·refine seq (AW.after ?_)
  refine weak (Weak.explode 0 rfl) ?_
  refine weak (σ':=⟨sl [(0,.ref 0 0),(3,.ref 1 0),(50,ab (decide (r1.kind_=4)))],77,[.var [.selfp 0,.vec 2 (List.length b2),.vec 3 (List.length l3)],V16 r1,.brow 5 b2,rRe l3]⟩) (Weak.of_eq (Weak.slots (L:=[(0,.ref 0 0),(3,.ref 1 0),(50,ab (decide (r1.kind_=4)))]) ⟨rfl,rfl,rfl,trivial⟩) (by first|rfl|(simp only[List.length_map];rfl))) ?_
  obtain⟨out65,q66,h⟩:=obs h
  have f67:=Q2o q66
  try simp only[LNS,List.length_replicate,Nat.reduceAdd,Nat.reduceLeDiff,Nat.add_zero,Nat.reduceMul]at f67
  have f67m:=Q2y Redir.pv q66
  try simp only[PVE,List.nil_append]at f67m
  have f67n:=Q2x q66
  try simp only[LNS]at f67n
  refine AW.dregB mixed hS [(3,some 1)] rfl (ordB hpf (B:=[(3,some 1)]) (by kernel_rfl)) [(0,.ref 0 0),(3,.ref 1 0)] [.var [.selfp 0,.vec 2 (List.length b2),.vec 3 (List.length out65)],V16 r1,.brow 5 b2,rRe out65] ?_ ?_
  ·exact dk1 (an f67.1 (an f67m f67n))
  clear f67
  clear f67m
  clear f67n
  refine⟨⟨sl [(0,.ref 0 0),(3,.ref 1 0)],77,[.prn 5 b2 51 9 (List.map Redir.pv out65),V16 r1,.moved 5 1 (List.length b2),.moved 51 9 (List.length out65)]⟩,(Weak.trans (Weak.implode (σ:=⟨sl [(0,.ref 0 0),(3,.ref 1 0)],77,[.var [.selfp 0,.vec 2 (List.length b2),.vec 3 (List.length out65)],V16 r1,.brow 5 b2,rRe out65]⟩) 0 2 3 rfl rfl rfl rfl (by first|rfl|simp only[List.length_map])) (Weak.of_eq (σ'':=⟨sl [(0,.ref 0 0),(3,.ref 1 0)],77,[.prn 5 b2 51 9 (List.map Redir.pv out65),V16 r1,.moved 5 1 (List.length b2),.moved 51 9 (List.length out65)]⟩) (Weak.slots (L:=[(0,.ref 0 0),(3,.ref 1 0)]) ⟨rfl,rfl,trivial⟩) (by first|rfl|(simp only[List.length_map];rfl)))),?_⟩
  refine R [0,3,4] ?_
  refine seqM ⟨sl [(0,.ref 0 0),(3,.ref 1 0),(4,as_ (bif r1.raw_ then[39]else[]))],77,[.prn 5 b2 51 9 (List.map Redir.pv out65),V16 r1,.moved 5 1 (List.length b2),.moved 51 9 (List.length out65)]⟩ ?_ ?_
  ·refine R [0,3,4,63] ?_
   refine cond (b:=r1.raw_) rfl (fun hb68=>?_) (fun hb68=>?_)
   ·refine G [0,3,4] ?_
    exact Weak.of_eq (Weak.slots (L:=[(0,.ref 0 0),(3,.ref 1 0),(4,as_ [39])]) kp) (wq hb68)
   exact skip (Weak.of_eq (Weak.slots (L:=[(0,.ref 0 0),(3,.ref 1 0),(4,as_ [])]) kp) (wq hb68))
  obtain⟨r69,f71,h⟩:=oc h (Zt hk 4 109 r1.word_.text_)
  obtain⟨o72,f74,h⟩:=oc h (Z hk 1 103 (([[60,60],(bif r1.raw_ then[39]else[]),r69,(bif r1.raw_ then[39]else[])]:List Str),b2,out65))
  replace f74:=cb f74
  try simp only[PVE]at f74
  refine seq (rg hS [] (di1 (an pf_109 (an (ca f71) f74))) ?_)
  exact Rf h
 refine Ua2 h [] (Z hk 3 152 (r1.word_,b2,l3)) fun r76 r77 h=>?_
 cases h
 exact fin
theorem K7u{w152:Y2}(c:AllG env [(S103 F103),(S151 (F151 w152))]):Q0a env (S105 (F105 w152)):=by
 refine hd c V2w 19 ?_
 rintro O X hS hX hpf hk ⟨l1,b2,l3⟩ (r:Str×(List Redir)) (h:F105 w152 l1 b2 l3=some r)
 refine gs ?_
 rw[F105]at h
 refine R [0,6,7,8] ?_
 refine block (Lp h (fun(i6,l7,m8)=>⟨sl [(0,.ref 0 0),(6,vRe l1),(7,ai (l1.length:Int)),(8,ai i6)],19,[.prn 5 l7 51 9 (List.map Redir.pv m8)]⟩) ?_)
 clear h
 rintro⟨i6,l7,m8⟩ m11 h
 rw[Z9k]at h
 try dsimp only at h
 refine AW.st (R [0,6,7,8,9] ?_)
 refine seq (iz h (fun h=>?_) fun h=>?_)
 ·obtain⟨u13,f15,h⟩:=oc h fun _=>Q0f
  refine skip (seq ?_)
  refine block (seq ?_)
  refine rg hS [0,5,6,7,8] (di1 (an f15.1 f15.2.1)) ?_
  refine seq (Ua1 h [0,5,6,7,8] (Z hk 0 103 (([[32]]:List Str),l7,m8)) fun o16 h=>?_)
  refine Ua2 h [0,6,7,8] (Z hk 1 151 (u13,o16,m8)) fun o20 m21 h=>?_
  refine G [0,6,7,8] ?_
  exact nx h
 exact ex h
theorem K7t{w152:Y2}(c:AllG env [(S103 F103),(S152 w152),(S151 (F151 w152)),(S105 (F105 w152))]):Q0a env (S106 (F106 w152)):=by
 refine hd c V2v 45 ?_
 rintro O X hS hX hpf hk ⟨c1,b2,l3⟩ (r:Str×(List Redir)) (h:F106 w152 c1 b2 l3=some r)
 refine gs ?_
 rw[F106]at h
 refine R [0,3] ?_
 refine seq (R [0,3,8,9,10] ?_)
 refine block (Lp h (fun(i6,l7,m8)=>⟨sl [(0,.ref 0 0),(3,.ref 1 0),(8,vWo c1.words_),(9,ai (c1.words_.length:Int)),(10,ai i6)],45,[.prn 5 l7 51 9 (List.map Redir.pv m8),V6 c1]⟩) ?_)
 clear h
 rintro⟨i6,l7,m8⟩ m11 h
 rw[Q7l]at h
 try dsimp only at h
 refine AW.st (R [0,3,8,9,10,11] ?_)
 refine seq (iz h (fun h=>?_) fun h=>?_)
 ·obtain⟨u13,f15,h⟩:=oc h fun _=>Q0f
  refine skip (seq ?_)
  refine block (seq ?_)
  refine rg hS [0,3,4,5,8,9,10] (di1 (an f15.1 f15.2.1)) ?_
  refine seq (R [0,3,5,8,9,10,16] ?_)
  refine ik h (fun h=>?_) fun h=>?_
  ·refine Ua1 h [0,3,5,8,9,10] (Z hk 0 103 (([[32]]:List Str),l7,m8)) fun o17 h=>?_
   refine Ua2 h [0,3,8,9,10] (Z hk 1 152 (u13,o17,m8)) fun r21 r22 h=>?_
   refine G [0,3,8,9,10] ?_
   exact nx h
  refine Ua2 h [0,3,8,9,10] (Z hk 1 152 (u13,l7,m8)) fun r26 r27 h=>?_
  refine G [0,3,8,9,10] ?_
  exact nx h
 refine exit (R [0,3,6] ?_)
 refine seq (seq ?_)
 refine reg hS [(0,.ref 0 0),(6,vRe c1.redirs_),(34,ab (decide ((c1.words_.length:Int)=0)&&decide (0<(c1.redirs_.length:Int))))] [.prn 5 l7 51 9 (List.map Redir.pv m8),V6 c1] ?_ ?_
 ·clear h hk hS hX c
  exact dh
 refine ik h (fun h=>?_) fun h=>?_
 ·obtain⟨u32,f34,h⟩:=oc h fun _=>Q0f
  try simp only[NRM,Int.reduceToNat]at f34
  obtain⟨⟨o35,m36⟩,f38,h⟩:=oc h (Z hk 2 151 (u32,l7,m8))
  refine seq (rg hS [0,6] (di1 (an f34.1 (an f34.2.1 (cb f38)))) ?_)
  obtain⟨l40,q41,h⟩:=obs h
  have f42:=Z4c q41
  try simp only[NRM,Int.reduceToNat]at f42
  have f42l:=f42.2.2.1
  have f42m:=Z2u Redir.pv q41
  try simp only[NRM,Int.reduceToNat]at f42l f42m
  refine rg hS [0,6] (di1 (an f42.1 (an f42.2.1 (an f42l (an f42.2.2.2 f42m))))) ?_
  clear f42 f42l f42m
  refine Ua2 h [] (Z hk 3 105 (l40,o35,m36)) fun o43 m44 h=>?_
  cases h
  exact fin
 refine Ua2 h [] (Z hk 3 105 (c1.redirs_,l7,m8)) fun o48 m49 h=>?_
 cases h
 exact fin
end Go.Abs.U48
