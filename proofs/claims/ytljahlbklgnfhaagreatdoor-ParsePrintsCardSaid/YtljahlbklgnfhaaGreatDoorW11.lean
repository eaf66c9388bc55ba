import Derived.Test.YtljahlbklgnfhaaGreatDoorD1
set_option linter.unusedVariables false
set_option linter.unusedSimpArgs false
set_option linter.defProp false
set_option maxRecDepth 8000
set_option maxHeartbeats 4000000
namespace Go.Abs.U48
open Go.RowKit Go.Proofs AW
theorem K6i(c:AllG env []):Q0a env (S160 F160):=by
 refine hd c V1d 42 ?_
 rintro O X hS hX hpf hk (doc1:Str) (r:Str) (h:F160 doc1=some r)
 refine gs ?_
 rw[F160]at h
 refine R [0] ?_
 refine R [0,3] ?_
 refine block (Lp h (fun n3=>⟨sl [(0,as_ doc1),(3,ai n3)],42,[]⟩) ?_)
 clear h
 rintro n3 m6 h
 rw[Z9e]at h
 try dsimp only at h
 refine AW.st (seq ?_)
 refine block (R [0,3,4] ?_)
 refine seq (R [0,3,4,5] ?_)
 refine block (Lp h (fun(m7,i8)=>⟨sl [(0,as_ doc1),(3,ai n3),(4,as_ m7),(5,ai i8)],42,[]⟩) ?_)
 clear h
 rintro⟨m7,i8⟩ m11 h
 rw[Z1b]at h
 try dsimp only at h
 refine AW.st (seq ?_)
 refine R [0,3,4,5,13] ?_
 refine iz h (fun h=>?_) fun h=>?_
 ·obtain⟨s13,f15,h⟩:=oc h fun _=>Q1a
  try simp only[LNS,List.length_replicate,Nat.reduceAdd,Nat.reduceLeDiff,Nat.add_zero,Nat.reduceMul]at f15
  refine skip (seq ?_)
  refine block (rg hS [0,3,4,5] (di1 (an f15.1 f15.2)) ?_)
  refine G [0,3,4,5] ?_
  exact nx h
 refine exit (R [0,3,4,6,7] ?_)
 refine seq (R [0,3,4,6,7,8] ?_)
 refine block (Lp h (fun(from16,hit17,i18)=>⟨sl [(0,as_ doc1),(3,ai n3),(4,as_ m7),(6,ai from16),(7,ab hit17),(8,ai i18)],42,[]⟩) ?_)
 clear h
 rintro⟨from16,hit17,i18⟩ m21 h
 rw[Z1a]at h
 try dsimp only at h
 refine AW.st (seq ?_)
 refine R [0,3,4,6,7,8,21] ?_
 refine iz h (fun h=>?_) fun h=>?_
 ·obtain⟨c23,f25,h⟩:=oc h fun _=>Q3m
  refine skip (seq ?_)
  refine block (seq ?_)
  refine rg hS [0,3,4,6,7,8,27] (di1 (an f25.1 (an f25.2.1 f25.2.2))) ?_
  refine ik h (fun h=>?_) fun h=>?_
  ·obtain⟨t27,f29,h⟩:=oc h fun _ q=>Z7m (Q0b q)
   try simp only[NRM,Int.reduceToNat]at f29
   have f29e:=f29.2.2.2.2
   try simp only[NRM,Int.reduceToNat]at f29e
   have f29l:=f29.2.2.1
   try simp only[NRM,Int.reduceToNat]at f29l
   refine seq (reg hS [(0,as_ doc1),(3,ai n3),(4,as_ m7),(7,ab (hit17||decide (t27=m7))),(8,ai i18)] [] ?_ ?_)
   ·clear h hk hS hX c
    exact dh1 (an f29.1 (an f29.2.1 (an f29l (an f29.2.2.2.1 f29e))))
   refine G [0,3,4,6,7,8] ?_
   refine G [0,3,4,6,7,8] ?_
   exact nx h
  refine G [0,3,4,6,7,8] ?_
  exact nx h
 refine exit (R [0,3,4,40] ?_)
 refine ik h (fun h=>?_) fun h=>?_
 ·exact Rt h [2]
 refine G [0,3] ?_
 exact nx h
theorem K7k{w158:Y6}(c:AllG env [(S159 F159),(S112 F112),(S160 F160),(S158 w158)]):Q0a env (S115 (F115 w158)):=by
 refine hd c V2m 87 ?_
 rintro O X hS hX hpf hk ⟨d1,x2,x3⟩ (r:Str×Str) (h:F115 w158 d1 x2 x3=some r)
 have pf_159:O.pf 159=true:=pft hpf 159 rfl
 refine gs ?_
 rw[F115]at h
 refine R [0,3] ?_
 refine R [0,3,4] ?_
 refine seqJ (α:=Int×Str) (fun(usual6,x7)=>⟨sl [(0,.ref 0 0),(3,.ref 1 0),(4,ai usual6)],87,[.var [as_ x7,as_ x3],V16 d1]⟩) (fun x=>Q7k d1 x3 w158 x=some r) ?_ ?_
 ·intro⟨usual6,x7⟩ h
  rw[Q7k]at h
  try dsimp only at h
  refine AW.st (seqJ (α:=Str) (fun x8=>⟨sl [(0,.ref 0 0),(3,.ref 1 0)],87,[.var [as_ x8,as_ x3],V16 d1]⟩) (fun x=>Z1e x3 w158 d1 x=some r) ?_ ?_)
  ·intro x8 h
   rw[Z1e]at h
   try dsimp only at h
   refine AW.st (seq ?_)
   refine Ua1 h [0,3] (Z hk 1 112 (([32]:Str),x8,x3)) fun x9 h=>?_
   refine Ua2 h [] (Z hk 3 158 (d1.word_,x9,x3)) fun r13 r14 h=>?_
   cases h
   exact fin
  refine R [0,3,73] ?_
  refine ik h (fun h=>?_) fun h=>?_
  ·obtain⟨r19,f21,h⟩:=oc h (Zt hk 0 159 d1.fd_)
   obtain⟨s22,f24,h⟩:=oc h fun _=>Q1a
   try simp only[LNS,List.length_replicate,Nat.reduceAdd,Nat.reduceLeDiff,Nat.add_zero,Nat.reduceMul]at f24
   obtain⟨s25,f27,h⟩:=oc h fun _=>Q1a
   try simp only[LNS,List.length_replicate,Nat.reduceAdd,Nat.reduceLeDiff,Nat.add_zero,Nat.reduceMul]at f27
   obtain⟨x28,f30,h⟩:=oc h (Z hk 1 112 (s25,x7,x3))
   refine rg hS [0,3] (di1 (an pf_159 (an (ca f21) (an f24.1 (an f24.2 (an f27.1 (an f27.2 (cb f30)))))))) ?_
   exact⟨x28,h,(Weak.norm (m:=2) (Nat.le_of_ble_eq_true rfl) kp hq rfl rfl)⟩
  exact⟨x7,h,(Weak.norm (m:=2) (Nat.le_of_ble_eq_true rfl) kp hq rfl rfl)⟩
 refine R [0,3,4,7] ?_
 refine block (R [0,3,4,7,10] ?_)
 refine iz h (fun h=>?_) fun h=>?_
 ·refine seq ?_
  obtain⟨r33,f35,h⟩:=oc h (Zt hk 0 159 d1.fd_)
  obtain⟨s36,f38,h⟩:=oc h fun _=>Q1a
  try simp only[LNS,List.length_replicate,Nat.reduceAdd,Nat.reduceLeDiff,Nat.add_zero,Nat.reduceMul]at f38
  obtain⟨s39,f41,h⟩:=oc h fun _=>Q1a
  try simp only[LNS,List.length_replicate,Nat.reduceAdd,Nat.reduceLeDiff,Nat.add_zero,Nat.reduceMul]at f41
  obtain⟨r42,f44,h⟩:=oc h (Zt hk 0 159 d1.from_)
  obtain⟨s45,f47,h⟩:=oc h fun _=>Q1a
  try simp only[LNS,List.length_replicate,Nat.reduceAdd,Nat.reduceLeDiff,Nat.add_zero,Nat.reduceMul]at f47
  obtain⟨s48,f50,h⟩:=oc h fun _=>Q1a
  try simp only[LNS,List.length_replicate,Nat.reduceAdd,Nat.reduceLeDiff,Nat.add_zero,Nat.reduceMul]at f50
  obtain⟨x51,f53,h⟩:=oc h (Z hk 1 112 (s48,x2,x3))
  apply dgk mixed hS [] (ordp hpf (by kernel_rfl))
  ·exact di1 (an pf_159 (an (ca f35) (an f38.1 (an f38.2 (an f41.1 (an f41.2 (an (ca f44) (an f47.1 (an f47.2 (an f50.1 (an f50.2 (cb f53))))))))))))
  exact Rf h
 refine R [0,3,4,7,24] ?_
 refine iz h (fun h=>?_) fun h=>?_
 ·obtain⟨r56,f58,h⟩:=oc h (Zt hk 0 159 d1.fd_)
  obtain⟨s59,f61,h⟩:=oc h fun _=>Q1a
  try simp only[LNS,List.length_replicate,Nat.reduceAdd,Nat.reduceLeDiff,Nat.add_zero,Nat.reduceMul]at f61
  obtain⟨s62,f64,h⟩:=oc h fun _=>Q1a
  try simp only[LNS,List.length_replicate,Nat.reduceAdd,Nat.reduceLeDiff,Nat.add_zero,Nat.reduceMul]at f64
  obtain⟨x65,f67,h⟩:=oc h (Z hk 1 112 (s62,x2,x3))
  refine seq (rg hS [] (di1 (an pf_159 (an (ca f58) (an f61.1 (an f61.2 (an f64.1 (an f64.2 (cb f67)))))))) ?_)
  exact Rf h
 refine R [0,3,4,7,33] ?_
 refine iz h (fun h=>?_) fun h=>?_
 ·refine seq (Ua1 h [0,3,5] (Zt hk 2 160 d1.word_.text_) fun r70 h=>?_)
  refine seq ?_
  obtain⟨s73,f75,h⟩:=oc h fun _=>Q1a
  try simp only[LNS,List.length_replicate,Nat.reduceAdd,Nat.reduceLeDiff,Nat.add_zero,Nat.reduceMul]at f75
  obtain⟨s76,f78,h⟩:=oc h fun _=>Q1a
  try simp only[LNS,List.length_replicate,Nat.reduceAdd,Nat.reduceLeDiff,Nat.add_zero,Nat.reduceMul]at f78
  obtain⟨s79,f81,h⟩:=oc h fun _=>Q1a
  try simp only[LNS,List.length_replicate,Nat.reduceAdd,Nat.reduceLeDiff,Nat.add_zero,Nat.reduceMul]at f81
  apply dgB mixed hS [(3,some 1),(44,some 1),(45,some 1)] [0,3,5] rfl (ordB hpf (B:=[(3,some 1),(44,some 1),(45,some 1)]) (by kernel_rfl))
  ·exact di1 (an f75.1 (an f75.2 (an f78.1 (an f78.2 (an f81.1 f81.2)))))
  refine seq (R [0,5,54] ?_)
  refine ik h (fun h=>?_) fun h=>?_
  ·obtain⟨s83,f85,h⟩:=oc h fun _=>Q1a
   try simp only[LNS,List.length_replicate,Nat.reduceAdd,Nat.reduceLeDiff,Nat.add_zero,Nat.reduceMul]at f85
   obtain⟨s86,f88,h⟩:=oc h fun _=>Q1a
   try simp only[LNS,List.length_replicate,Nat.reduceAdd,Nat.reduceLeDiff,Nat.add_zero,Nat.reduceMul]at f88
   refine rg hS [0,5] (di1 (an f85.1 (an f85.2 (an f88.1 f88.2)))) ?_
   obtain⟨s89,f91,h⟩:=oc h fun _=>Q1a
   try simp only[LNS,List.length_replicate,Nat.reduceAdd,Nat.reduceLeDiff,Nat.add_zero,Nat.reduceMul]at f91
   obtain⟨x92,f94,h⟩:=oc h (Z hk 1 112 (s89,x2,s79))
   refine seq (rg hS [] (di1 (an f91.1 (an f91.2 (cb f94)))) ?_)
   exact Rf h
  obtain⟨s96,f98,h⟩:=oc h fun _=>Q1a
  try simp only[LNS,List.length_replicate,Nat.reduceAdd,Nat.reduceLeDiff,Nat.add_zero,Nat.reduceMul]at f98
  obtain⟨x99,f101,h⟩:=oc h (Z hk 1 112 (s96,x2,s79))
  refine seq (rg hS [] (di1 (an f98.1 (an f98.2 (cb f101)))) ?_)
  exact Rf h
 refine R [0,3,4,7,62] ?_
 refine iz h (fun h=>?_) fun h=>?_
 ·refine R [0,3,4] ?_
  refine Ua1 h [0,3,4] (Z hk 1 112 (([60]:Str),x2,x3)) fun x104 h=>?_
  exact⟨(0,x104),h,(Weak.norm (m:=2) (Nat.le_of_ble_eq_true rfl) kp hq rfl rfl)⟩
 refine R [0,3,4,66] ?_
 refine iz h (fun h=>?_) fun h=>?_
 ·refine Ua1 h [0,3,4] (Z hk 1 112 (([62]:Str),x2,x3)) fun x109 h=>?_
  exact⟨(1,x109),h,(Weak.norm (m:=2) (Nat.le_of_ble_eq_true rfl) kp hq rfl rfl)⟩
 refine Ua1 h [0,3,4] (Z hk 1 112 (([62,62]:Str),x2,x3)) fun x113 h=>?_
 exact⟨(1,x113),h,(Weak.norm (m:=2) (Nat.le_of_ble_eq_true rfl) kp hq rfl rfl)⟩
theorem V7a{w68:Y7}{w158:Y6}(c:AllG env [(S110 (F110 w158)),(S111 (F111 w68)),(S112 F112),(S113 (F113 w68)),(S68 w68),(S114 (F114 w68 w158)),(S115 (F115 w158))]):Q0a env (S68 (F68 w68 w158)):=by
 refine hd c K8l 171 ?_
 rintro O X hS hX hpf hk ⟨c1,x2,x3⟩ (r:Str×Str) (h:F68 w68 w158 c1 x2 x3=some r)
 refine gs ?_
 rw[F68]at h
 refine R [0,3] ?_
 refine seqJ (α:=Str×Str) (fun(x6,x7)=>⟨sl [(0,.ref 0 0),(3,.ref 1 0)],171,[.var [as_ x6,as_ x7],V6 c1]⟩) (fun x=>Q3i c1 w158 x=some r) ?_ ?_
 ·intro⟨x6,x7⟩ h
  rw[Q3i]at h
  try dsimp only at h
  refine AW.st (R [0,3,4] ?_)
  refine block (Lp h (fun(i8,x9,x10)=>⟨sl [(0,.ref 0 0),(3,.ref 1 0),(4,ai i8)],171,[.var [as_ x9,as_ x10],V6 c1]⟩) ?_)
  clear h
  rintro⟨i8,x9,x10⟩ m13 h
  rw[Z6v]at h
  try dsimp only at h
  refine AW.st (seq ?_)
  refine R [0,3,4,146] ?_
  refine iz h (fun h=>?_) fun h=>?_
  ·refine skip (seq ?_)
   refine block (seqJ (α:=Str) (fun x15=>⟨sl [(0,.ref 0 0),(3,.ref 1 0),(4,ai i8)],171,[.var [as_ x15,as_ x10],V6 c1]⟩) (fun x=>J1r c1 i8 w158 x10 (iter (Z6v c1 w158) m13) x=some r) ?_ ?_)
   ·intro x15 h
    rw[J1r]at h
    try dsimp only at h
    obtain⟨u16,f18,h⟩:=oc h fun _=>Q0f
    obtain⟨⟨x19,x20⟩,f22,h⟩:=oc h (Z hk 6 115 (u16,x15,x10))
    refine AW.st (rg hS [0,3,4] (di1 (an f18.1 (an f18.2.1 (cb f22)))) ?_)
    refine G [0,3,4] ?_
    exact nx h
   refine seq (reg hS [(0,.ref 0 0),(3,.ref 1 0),(4,ai i8),(161,ab ((decide (0<i8)||decide (c1.kind_=12))||decide (0<(c1.words_.length:Int))))] [.var [as_ x9,as_ x10],V6 c1] ?_ ?_)
   ·clear h hk hS hX c
    exact dh
   refine ik h (fun h=>?_) fun h=>?_
   ·refine Ua1 h [0,3,4] (Z hk 2 112 (([32]:Str),x9,x10)) fun x25 h=>?_
    exact⟨x25,h,(Weak.norm (m:=2) (Nat.le_of_ble_eq_true rfl) kp hq rfl rfl)⟩
   exact⟨x9,h,(Weak.norm (m:=2) (Nat.le_of_ble_eq_true rfl) kp hq rfl rfl)⟩
  exact ex h
 refine R [0,3,6] ?_
 refine block (R [0,3,6,10] ?_)
 refine iz h (fun h=>?_) fun h=>?_
 ·refine Ua2 h [0,3] (Z hk 0 110 (c1.words_,x2,x3)) fun x31 x32 h=>?_
  exact⟨(x31,x32),h,(Weak.norm (m:=2) (Nat.le_of_ble_eq_true rfl) kp hq rfl rfl)⟩
 refine R [0,3,6,16] ?_
 refine iz h (fun h=>?_) fun h=>?_
 ·refine Ua2 h [0,3] (Z hk 1 111 (([123]:Str),c1.kids_,([125]:Str),x2,x3)) fun x37 x38 h=>?_
  exact⟨(x37,x38),h,(Weak.norm (m:=2) (Nat.le_of_ble_eq_true rfl) kp hq rfl rfl)⟩
 refine R [0,3,6,22] ?_
 refine iz h (fun h=>?_) fun h=>?_
 ·obtain⟨s43,f45,h⟩:=oc h fun _=>Q1a
  try simp only[LNS,List.length_replicate,Nat.reduceAdd,Nat.reduceLeDiff,Nat.add_zero,Nat.reduceMul]at f45
  obtain⟨x46,f48,h⟩:=oc h (Z hk 2 112 (s43,x2,x3))
  refine seq (rg hS [0,3] (di1 (an f45.1 (an f45.2 (cb f48)))) ?_)
  refine seq (Ua2 h [0,3] (Z hk 0 110 (c1.words_,x46,x3)) fun x50 x51 h=>?_)
  refine R [0,3,36] ?_
  refine ik h (fun h=>?_) fun h=>?_
  ·refine seq (Ua1 h [0,3] (Z hk 2 112 (([32]:Str),x50,x51)) fun x56 h=>?_)
   obtain⟨u60,f62,h⟩:=oc h fun _=>Q0f
   try simp only[NRM,Int.reduceToNat]at f62
   obtain⟨⟨r63,r64⟩,f66,h⟩:=oc h (Z hk 4 68 (u60,x56,x51))
   refine rg hS [0,3] (di1 (an f62.1 (an f62.2.1 (cb f66)))) ?_
   exact⟨(r63,r64),h,(Weak.norm (m:=2) (Nat.le_of_ble_eq_true rfl) kp hq rfl rfl)⟩
  exact⟨(x50,x51),h,(Weak.norm (m:=2) (Nat.le_of_ble_eq_true rfl) kp hq rfl rfl)⟩
 refine R [0,3,6,45] ?_
 refine iz h (fun h=>?_) fun h=>?_
 ·refine seq (Ua1 h [0,3] (Z hk 2 112 (([33,32]:Str),x2,x3)) fun x69 h=>?_)
  obtain⟨u73,f75,h⟩:=oc h fun _=>Q0f
  try simp only[NRM,Int.reduceToNat]at f75
  obtain⟨⟨r76,r77⟩,f79,h⟩:=oc h (Z hk 4 68 (u73,x69,x3))
  refine rg hS [0,3] (di1 (an f75.1 (an f75.2.1 (cb f79)))) ?_
  exact⟨(r76,r77),h,(Weak.norm (m:=2) (Nat.le_of_ble_eq_true rfl) kp hq rfl rfl)⟩
 refine R [0,3,6,55] ?_
 refine iz h (fun h=>?_) fun h=>?_
 ·refine seq (Ua1 h [0,3] (Z hk 2 112 (([64,32]:Str),x2,x3)) fun x82 h=>?_)
  obtain⟨u86,f88,h⟩:=oc h fun _=>Q0f
  try simp only[NRM,Int.reduceToNat]at f88
  obtain⟨⟨r89,r90⟩,f92,h⟩:=oc h (Z hk 4 68 (u86,x82,x3))
  refine rg hS [0,3] (di1 (an f88.1 (an f88.2.1 (cb f92)))) ?_
  exact⟨(r89,r90),h,(Weak.norm (m:=2) (Nat.le_of_ble_eq_true rfl) kp hq rfl rfl)⟩
 refine R [0,3,6,65] ?_
 refine iz h (fun h=>?_) fun h=>?_
 ·refine seq (Ua1 h [0,3] (Z hk 2 112 (([105,102,32,110,111,116,32]:Str),x2,x3)) fun x95 h=>?_)
  obtain⟨u99,f101,h⟩:=oc h fun _=>Q0f
  try simp only[NRM,Int.reduceToNat]at f101
  obtain⟨⟨r102,r103⟩,f105,h⟩:=oc h (Z hk 4 68 (u99,x95,x3))
  refine rg hS [0,3] (di1 (an f101.1 (an f101.2.1 (cb f105)))) ?_
  exact⟨(r102,r103),h,(Weak.norm (m:=2) (Nat.le_of_ble_eq_true rfl) kp hq rfl rfl)⟩
 refine seqM ⟨sl [(0,.ref 0 0),(3,.ref 1 0),(6,ai c1.kind_),(75,ab (bif decide (c1.kind_=8)then decide (c1.kind_=8)else decide (c1.kind_=11)))],171,[.var [as_ x2,as_ x3],V6 c1]⟩ ?_ ?_
 ·refine R [0,3,6,75] ?_
  refine cond (b:=decide (c1.kind_=8)) rfl (fun hb107=>?_) (fun hb107=>?_)
  ·exact skip (Weak.of_eq (Weak.slots (L:=[(0,.ref 0 0),(3,.ref 1 0),(6,ai c1.kind_),(75,ab (decide (c1.kind_=8)))]) kp) (wq hb107))
  refine G [0,3,6,75] ?_
  exact Weak.of_eq (Weak.slots (L:=[(0,.ref 0 0),(3,.ref 1 0),(6,ai c1.kind_),(75,ab (decide (c1.kind_=11)))]) kp) (wq hb107)
 refine iz h (fun h=>?_) fun h=>?_
 ·refine seq (Ua1 h [0,3] (Z hk 2 112 (([105,102]:Str),x2,x3)) fun x109 h=>?_)
  refine seqJ (α:=Str) (fun x113=>⟨sl [(0,.ref 0 0),(3,.ref 1 0)],171,[.var [as_ x113,as_ x3],V6 c1]⟩) (fun x=>Z6u c1 w68 x3 w158 x=some r) ?_ ?_
  ·intro x113 h
   rw[Z6u]at h
   try dsimp only at h
   obtain⟨u114,f116,h⟩:=oc h fun _=>Q0f
   try simp only[NRM,Int.reduceToNat]at f116
   obtain⟨⟨x117,x118⟩,f120,h⟩:=oc h (Z hk 1 111 (([40]:Str),u114.kids_,([41]:Str),x113,x3))
   replace f120:=cb f120
   try simp only[PVE]at f120
   refine AW.st (seq ?_)
   refine rg hS [0,3] (di1 (an f116.1 (an f116.2.1 f120))) ?_
   refine seq (Ua1 h [0,3] (Z hk 2 112 (([32]:Str),x117,x118)) fun x122 h=>?_)
   obtain⟨u126,f128,h⟩:=oc h fun _=>Q0f
   try simp only[NRM,Int.reduceToNat]at f128
   obtain⟨⟨r129,r130⟩,f132,h⟩:=oc h (Z hk 4 68 (u126,x122,x118))
   refine rg hS [0,3] (di1 (an f128.1 (an f128.2.1 (cb f132)))) ?_
   exact⟨(r129,r130),h,(Weak.norm (m:=2) (Nat.le_of_ble_eq_true rfl) kp hq rfl rfl)⟩
  refine R [0,3,82] ?_
  refine ik h (fun h=>?_) fun h=>?_
  ·refine seq ?_
   obtain⟨t135,f137,h⟩:=oc h fun _=>Q1j
   try simp only[NRM,Int.reduceToNat]at f137
   have f137e:=f137.2.2.2.2
   try simp only[NRM,Int.reduceToNat]at f137e
   have f137l:=f137.2.2.1
   try simp only[NRM,Int.reduceToNat]at f137l
   apply dgB mixed hS [] [0,3] rfl (ordB hpf (B:=[]) (by kernel_rfl))
   ·exact di1 (an f137.1 (an f137.2.1 (an f137l (an f137.2.2.2.1 f137e))))
   refine Ua1 h [0,3] (Z hk 2 112 (([119,104,105,108,101]:Str),t135,x3)) fun x138 h=>?_
   exact⟨x138,h,(Weak.norm (m:=2) (Nat.le_of_ble_eq_true rfl) kp hq rfl rfl)⟩
  exact⟨x109,h,(Weak.norm (m:=2) (Nat.le_of_ble_eq_true rfl) kp hq rfl rfl)⟩
 refine R [0,3,6,114] ?_
 refine iz h (fun h=>?_) fun h=>?_
 ·refine Ua2 h [0,3] (Z hk 3 113 (c1.kids_,([32,124,32]:Str),x2,x3)) fun x143 x144 h=>?_
  exact⟨(x143,x144),h,(Weak.norm (m:=2) (Nat.le_of_ble_eq_true rfl) kp hq rfl rfl)⟩
 refine R [0,3,6,120] ?_
 refine iz h (fun h=>?_) fun h=>?_
 ·refine Ua2 h [0,3] (Z hk 3 113 (c1.kids_,([32,38,38,32]:Str),x2,x3)) fun x149 x150 h=>?_
  exact⟨(x149,x150),h,(Weak.norm (m:=2) (Nat.le_of_ble_eq_true rfl) kp hq rfl rfl)⟩
 refine R [0,3,6,126] ?_
 refine iz h (fun h=>?_) fun h=>?_
 ·refine Ua2 h [0,3] (Z hk 3 113 (c1.kids_,([32,124,124,32]:Str),x2,x3)) fun x155 x156 h=>?_
  exact⟨(x155,x156),h,(Weak.norm (m:=2) (Nat.le_of_ble_eq_true rfl) kp hq rfl rfl)⟩
 refine R [0,3,132] ?_
 refine iz h (fun h=>?_) fun h=>?_
 ·obtain⟨u161,f163,h⟩:=oc h fun _=>Q0f
  try simp only[NRM,Int.reduceToNat]at f163
  obtain⟨⟨r164,r165⟩,f167,h⟩:=oc h (Z hk 4 68 (u161,x2,x3))
  refine seq (rg hS [0,3] (di1 (an f163.1 (an f163.2.1 (cb f167)))) ?_)
  refine Ua1 h [0,3] (Z hk 2 112 (([32,38]:Str),r164,r165)) fun x169 h=>?_
  exact⟨(x169,r165),h,(Weak.norm (m:=2) (Nat.le_of_ble_eq_true rfl) kp hq rfl rfl)⟩
 refine Ua2 h [0,3] (Z hk 5 114 (c1,x2,x3)) fun x173 x174 h=>?_
 exact⟨(x173,x174),h,(Weak.norm (m:=2) (Nat.le_of_ble_eq_true rfl) kp hq rfl rfl)⟩
theorem K5t(c:AllG env []):Q0a env (S193 F193):=by
 refine hd c V0m 80 ?_
 rintro O X hS hX hpf hk (w1:Word) (r:Str) (h:F193 w1=some r)
 refine gs ?_
 rw[F193]at h
 refine R [1] ?_
 refine seq (R [1,7] ?_)
 refine ik h (fun h=>?_) fun h=>?_
 ·exact Rt h [2]
 refine R [1,3] ?_
 refine seq (R [1,3,4] ?_)
 refine block (Lp h (fun(s4,i5)=>⟨sl [(1,.ref 0 0),(3,as_ s4),(4,ai i5)],80,[V17 w1]⟩) ?_)
 clear h
 rintro⟨s4,i5⟩ m8 h
 rw[Q3j]at h
 try dsimp only at h
 refine AW.st (seq ?_)
 refine R [1,3,4,12] ?_
 refine iz h (fun h=>?_) fun h=>?_
 ·refine skip (seq ?_)
  refine block (seqJ (α:=Str) (fun s10=>⟨sl [(1,.ref 0 0),(3,as_ s10),(4,ai i5)],80,[V17 w1]⟩) (fun x=>Q8t w1 i5 (iter (Q3j w1) m8) x=some r) ?_ ?_)
  ·intro s10 h
   rw[Q8t]at h
   try dsimp only at h
   obtain⟨t11,f13,h⟩:=oc h fun _=>Q1j
   try simp only[NRM,Int.reduceToNat]at f13
   have f13e:=f13.2.2.2.2
   try simp only[NRM,Int.reduceToNat]at f13e
   have f13l:=f13.2.2.1
   try simp only[NRM,Int.reduceToNat]at f13l
   obtain⟨s14,f16,h⟩:=oc h fun _=>Q1a
   try simp only[LNS,List.length_replicate,Nat.reduceAdd,Nat.reduceLeDiff,Nat.add_zero,Nat.reduceMul]at f16
   refine AW.st (seq ?_)
   refine rg hS [1,3,4] (di1 (an f13.1 (an f13.2.1 (an f13l (an f13.2.2.2.1 (an f13e (an f16.1 f16.2))))))) ?_
   refine seqJ (α:=Str) (fun s17=>⟨sl [(1,.ref 0 0),(3,as_ s17),(4,ai i5)],80,[V17 w1]⟩) (fun x=>Q8s w1 i5 (iter (Q3j w1) m8) x=some r) ?_ ?_
   ·intro s17 h
    rw[Q8s]at h
    try dsimp only at h
    obtain⟨c18,f20,h⟩:=oc h fun _=>Q3m
    obtain⟨c21,f23,h⟩:=oc h fun _ q=>Q4n (Q0b q)
    refine AW.st (seq ?_)
    refine reg hS [(1,.ref 0 0),(3,as_ s17),(4,ai i5),(76,ab (decide (c18=49)&&(decide (IntKind.wrap .i64 (i5+1)=(w1.text_.length:Int))||decide (c21=48))))] [V17 w1] ?_ ?_
    ·clear h hk hS hX c
     exact dh1 (an f20.1 (an f20.2.1 (an f20.2.2 (an f23.1 (an f23.2.1 f23.2.2)))))
    refine ik h (fun h=>?_) fun h=>?_
    ·obtain⟨s25,f27,h⟩:=oc h fun _=>Q1a
     try simp only[LNS,List.length_replicate,Nat.reduceAdd,Nat.reduceLeDiff,Nat.add_zero,Nat.reduceMul]at f27
     refine rg hS [1,3,4] (di1 (an f27.1 f27.2)) ?_
     refine G [1,3,4] ?_
     exact nx h
    refine G [1,3,4] ?_
    exact nx h
   obtain⟨c28,f30,h⟩:=oc h fun _=>Q3m
   obtain⟨c31,f33,h⟩:=oc h fun _ q=>Q4n (Q0b q)
   refine seq (reg hS [(1,.ref 0 0),(3,as_ s14),(4,ai i5),(53,ab (decide (c28=49)&&decide (c31=39)))] [V17 w1] ?_ ?_)
   ·clear h hk hS hX c
    exact dh1 (an f30.1 (an f30.2.1 (an f30.2.2 (an f33.1 (an f33.2.1 f33.2.2)))))
   refine ik h (fun h=>?_) fun h=>?_
   ·obtain⟨s35,f37,h⟩:=oc h fun _=>Q1a
    try simp only[LNS,List.length_replicate,Nat.reduceAdd,Nat.reduceLeDiff,Nat.add_zero,Nat.reduceMul]at f37
    refine rg hS [1,3,4] (di1 (an f37.1 f37.2)) ?_
    exact⟨s35,h,(Weak.norm (m:=1) (Nat.le_of_ble_eq_true rfl) kp hq rfl rfl)⟩
   exact⟨s14,h,(Weak.norm (m:=1) (Nat.le_of_ble_eq_true rfl) kp hq rfl rfl)⟩
  obtain⟨c38,f40,h⟩:=oc h fun _=>Q3m
  obtain⟨c41,f43,h⟩:=oc h fun _ q=>Q4n (Q0b q)
  refine seq (reg hS [(1,.ref 0 0),(3,as_ s4),(4,ai i5),(31,ab (decide (c38=49)&&(decide (i5=0)||decide (c41=48))))] [V17 w1] ?_ ?_)
  ·clear h hk hS hX c
   exact dh1 (an f40.1 (an f40.2.1 (an f40.2.2 (an f43.1 (an f43.2.1 f43.2.2)))))
  refine ik h (fun h=>?_) fun h=>?_
  ·obtain⟨s45,f47,h⟩:=oc h fun _=>Q1a
   try simp only[LNS,List.length_replicate,Nat.reduceAdd,Nat.reduceLeDiff,Nat.add_zero,Nat.reduceMul]at f47
   refine rg hS [1,3,4] (di1 (an f47.1 f47.2)) ?_
   exact⟨s45,h,(Weak.norm (m:=1) (Nat.le_of_ble_eq_true rfl) kp hq rfl rfl)⟩
  exact⟨s4,h,(Weak.norm (m:=1) (Nat.le_of_ble_eq_true rfl) kp hq rfl rfl)⟩
 exact exit (Rt h [2])
theorem K6k{w68:Y7}{w158:Y6}(c:AllG env [(S193 F193),(S112 F112),(S110 (F110 w158)),(S111 (F111 w68)),(S158 w158)]):Q0a env (S158 (F158 w68 w158)):=by
 refine hd c X7c 77 ?_
 rintro O X hS hX hpf hk ⟨x1,x2,x3⟩ (r:Str×Str) (h:F158 w68 w158 x1 x2 x3=some r)
 have pf_193:O.pf 193=true:=pft hpf 193 rfl
 refine gs ?_
 rw[F158]at h
 refine R [0,3] ?_
 refine R [0,3,6] ?_
 refine block (R [0,3,6,25] ?_)
 refine iz h (fun h=>?_) fun h=>?_
 ·obtain⟨r7,f9,h⟩:=oc h (Zt hk 0 193 x1)
  obtain⟨x10,f12,h⟩:=oc h (Z hk 1 112 (r7,x2,x3))
  refine rg hS [] (di1 (an pf_193 (an (ca f9) (cb f12)))) ?_
  cases h
  exact fin
 refine R [0,3,6,31] ?_
 refine iz h (fun h=>?_) fun h=>?_
 ·obtain⟨s15,f17,h⟩:=oc h fun _=>Q1a
  try simp only[LNS,List.length_replicate,Nat.reduceAdd,Nat.reduceLeDiff,Nat.add_zero,Nat.reduceMul]at f17
  obtain⟨x18,f20,h⟩:=oc h (Z hk 1 112 (s15,x2,x3))
  refine rg hS [] (di1 (an f17.1 (an f17.2 (cb f20)))) ?_
  cases h
  exact fin
 refine R [0,3,6,38] ?_
 refine iz h (fun h=>?_) fun h=>?_
 ·obtain⟨s23,f25,h⟩:=oc h fun _=>Q1a
  try simp only[LNS,List.length_replicate,Nat.reduceAdd,Nat.reduceLeDiff,Nat.add_zero,Nat.reduceMul]at f25
  obtain⟨x26,f28,h⟩:=oc h (Z hk 1 112 (s23,x2,x3))
  refine rg hS [] (di1 (an f25.1 (an f25.2 (cb f28)))) ?_
  cases h
  exact fin
 refine R [0,3,6,45] ?_
 refine iz h (fun h=>?_) fun h=>?_
 ·obtain⟨s31,f33,h⟩:=oc h fun _=>Q1a
  try simp only[LNS,List.length_replicate,Nat.reduceAdd,Nat.reduceLeDiff,Nat.add_zero,Nat.reduceMul]at f33
  obtain⟨s34,f36,h⟩:=oc h fun _=>Q1a
  try simp only[LNS,List.length_replicate,Nat.reduceAdd,Nat.reduceLeDiff,Nat.add_zero,Nat.reduceMul]at f36
  obtain⟨x37,f39,h⟩:=oc h (Z hk 1 112 (s34,x2,x3))
  refine seq (rg hS [0,3] (di1 (an f33.1 (an f33.2 (an f36.1 (an f36.2 (cb f39)))))) ?_)
  refine seq (Ua2 h [0] (Z hk 2 110 (x1.words_,x37,x3)) fun x41 x42 h=>?_)
  refine Ua1 h [] (Z hk 1 112 (([41]:Str),x41,x42)) fun x46 h=>?_
  cases h
  exact fin
 refine R [0,3,6,59] ?_
 refine iz h (fun h=>?_) fun h=>?_
 ·refine seq (Ua1 h [0,3] (Z hk 1 112 (([40]:Str),x2,x3)) fun x51 h=>?_)
  refine seq (Ua2 h [0] (Z hk 2 110 (x1.words_,x51,x3)) fun x55 x56 h=>?_)
  refine Ua1 h [] (Z hk 1 112 (([41]:Str),x55,x56)) fun x60 h=>?_
  cases h
  exact fin
 refine R [0,3,69] ?_
 refine iz h (fun h=>?_) fun h=>?_
 ·refine seq (Ua1 h [0,3] (Z hk 1 112 (([96]:Str),x2,x3)) fun x65 h=>?_)
  refine Ua2 h [] (Z hk 3 111 (([123]:Str),x1.cmd_,([125]:Str),x65,x3)) fun x69 x70 h=>?_
  cases h
  exact fin
 refine R [0,3,4] ?_
 refine block (Lp h (fun(i74,x75,x76)=>⟨sl [(0,.ref 0 0),(3,.ref 1 0),(4,ai i74)],77,[.var [as_ x75,as_ x76],V17 x1]⟩) ?_)
 clear h
 rintro⟨i74,x75,x76⟩ m79 h
 rw[Q8v]at h
 try dsimp only at h
 refine AW.st (seq ?_)
 refine R [0,3,4,11] ?_
 refine iz h (fun h=>?_) fun h=>?_
 ·refine skip (seq ?_)
  refine block (seqJ (α:=Str) (fun x81=>⟨sl [(0,.ref 0 0),(3,.ref 1 0),(4,ai i74)],77,[.var [as_ x81,as_ x76],V17 x1]⟩) (fun x=>Z1c x1 i74 w158 x76 (iter (Q8v x1 w158) m79) x=some r) ?_ ?_)
  ·intro x81 h
   rw[Z1c]at h
   try dsimp only at h
   obtain⟨u82,f84,h⟩:=oc h fun _=>Q0f
   obtain⟨⟨r85,r86⟩,f88,h⟩:=oc h (Z hk 4 158 (u82,x81,x76))
   refine AW.st (rg hS [0,3,4] (di1 (an f84.1 (an f84.2.1 (cb f88)))) ?_)
   refine G [0,3,4] ?_
   exact nx h
  refine R [0,3,4,15] ?_
  refine ik h (fun h=>?_) fun h=>?_
  ·refine Ua1 h [0,3,4] (Z hk 1 112 (([94]:Str),x75,x76)) fun x91 h=>?_
   exact⟨x91,h,(Weak.norm (m:=2) (Nat.le_of_ble_eq_true rfl) kp hq rfl rfl)⟩
  exact⟨x75,h,(Weak.norm (m:=2) (Nat.le_of_ble_eq_true rfl) kp hq rfl rfl)⟩
 exact ex h
theorem V7w(c:AllG env [(S14 F14),(S37 (F37 (K68 BIG)))]):Q0a env (S18 F18):=by
 refine hd c V9s 17 ?_
 rintro O X hS hX hpf hk (l1:(List Cmd)) (r:Str×Int) (h:F18 l1=some r)
 refine gs ?_
 rw[F18]at h
 refine R [0] ?_
 refine seq (seq ?_)
 refine Ua1 h [0,7] (Zt hk 0 14 l1) fun r4 h=>?_
 refine ik h (fun h=>?_) fun h=>?_
 ·exact Rt h [2,3]
 refine R [0,4] ?_
 obtain⟨⟨x8,x9⟩,q10,h⟩:=obs h
 dsimp only at h
 have f11:=hk 1 37 rfl
 replace f11:=f11.ret (l1,([]:Str),([]:Str)) q10 rfl rfl
 have e12:=Q6p f11 rfl rfl rfl rfl
 refine seq (rg hS [4] (di1 (ap0 37 hpf e12)) ?_)
 exact Rt h [2,3]
theorem g_F5(c:AllG env [(S12 F12),(S7 F7),(S17 F17),(S18 F18)]):Q0a env (S5 F5):=by
 refine hd c fn_5 32 ?_
 rintro O X hS hX hpf hk (l1:(List Cmd)) (r:Bool) (h:F5 l1=some r)
 refine gs ?_
 rw[F5]at h
 refine R [0] ?_
 refine seq (seq ?_)
 refine Ua1 h [0,9] (Zt hk 0 12 l1) fun r3 h=>?_
 refine ik h (fun h=>?_) fun h=>?_
 ·obtain⟨r7,q8,h⟩:=obs h
  have f9:=hk 1 7 rfl
  replace f9:=f9.ret () ((S7_F F7).trans q8) rfl rfl
  refine seq (rg hS [2] (di1 (ap1 7 hpf f9)) ?_)
  exact Rf h
 refine seq (Ua2 h [0,3,4] (Zt hk 2 17 l1) fun r10 r11 h=>?_)
 refine seq (Ua2 h [3,4,5,6] (Zt hk 3 18 l1) fun r14 r15 h=>?_)
 obtain⟨r18,q19,h⟩:=obs h
 have f20:=hk 1 7 rfl
 replace q19:=Q0b q19
 replace f20:=fun hg=>f20.ret () ((S7_F F7).trans (q19 hg)) rfl rfl
 refine seq (reg hS [(2,ab ((decide (r10=r14)&&decide (r11=r15))&&r18))] [] ?_ ?_)
 ·clear h hk hS hX c
  exact dh1 (ap1 7 hpf f20)
 exact Rf h
end Go.Abs.U48
