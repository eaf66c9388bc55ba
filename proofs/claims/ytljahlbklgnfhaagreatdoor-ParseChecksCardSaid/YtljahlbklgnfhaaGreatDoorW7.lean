import Derived.Test.YtljahlbklgnfhaaGreatDoorD1
set_option linter.unusedVariables false
set_option linter.unusedSimpArgs false
set_option linter.defProp false
set_option maxRecDepth 8000
set_option maxHeartbeats 4000000
namespace Go.Abs.U48
open Go.RowKit Go.Proofs AW
theorem g_F278(c:AllG env [(S263 F263),SL_IndexByte]):GoodH env (S278 F278):=by
 obtain⟨O,X,hS,hX,hpf,hk⟩:=orp c
 have pf_40:O.pf 40=true:=pft hpf 40 rfl
 refine gh fn_278 44 ?_
 rintro(w1:Word) (r:Bool) h m em
 refine ghs em ?_;clear em m
 replace h:F278 w1=some r:=h
 rw[F278]at h
 refine srg hS [1] di ?_
 refine seq ?_
 refine seq ?_
 obtain⟨r3,q4,h⟩:=obs h
 have f5:=(hk 0 263 rfl).ret w1 q4 rfl rfl
 refine rg hS [1,7] (di1 (ap1 263 hpf f5)) ?_
 refine ifk h (fun hb6 h=>?_) fun hb6 h=>?_
 ·refine srg hS [2] di ?_
  cases h;exact ret fin
 ·refine seq ?_
  refine srg hS [1,10,11] di ?_
  refine block ?_
  refine lp (α:=Nat×Int) (fun(_,i7)=>⟨sl [(1,.ref 0 0),(10,ai (w1.text_.length:Int)),(11,ai i7)],44,[V17 w1]⟩) (fun x=>iter (F278_b1 w1) x.1 x.2=some r) (fun x=>x.1) (BIG,0) (Weak.slots kp) h ?_
  clear h
  intro⟨n25,i7⟩ h
  replace h:=iter_some h;obtain⟨m10,rfl,h⟩:=h
  rw[F278_b1]at h
  try dsimp only at h
  refine AW.st ?_
  refine srg hS [1,10,11,12] di ?_
  refine seq ?_
  refine ifs h (fun hb11 h=>?_) fun hb11 h=>?_
  ·refine skip ?_
   refine seq ?_
   refine block ?_
   refine srg hS [1,3,10,11] di ?_
   refine seq ?_
   obtain⟨c12,q13,h⟩:=obs h
   have f14:=sidx_f q13
   refine rg hS [1,3,4,10,11] (di1 (an f14.1 (an f14.2.1 f14.2.2))) ?_
   refine seq ?_
   obtain⟨c15,q16,h⟩:=obs h
   have f17:=sidx_g (guardO_t q16)
   obtain⟨n18,q19,h⟩:=obs h
   replace q19:=guardO_t q19
   have f20:=fun hg=>(hk 1 40 rfl).ret (([32,9,10,59,38,124,40,41,123,125,60,62,61,94,96,36,39]:Str),c15) (q19 hg) rfl rfl
   try simp only[PVE]at f20
   obtain⟨n21,q22,h⟩:=obs h
   replace q22:=guardO_t q22
   have f23:=fun hg=>(hk 1 40 rfl).ret (([35,33,64]:Str),c15) (q22 hg) rfl rfl
   try simp only[PVE]at f23
   refine reg hS [(1,.ref 0 0),(10,ai (w1.text_.length:Int)),(11,ai i7),(42,ab ((decide (c12=48)&&decide (0≤n18))||((decide (c12=48)&&decide (i7=0))&&decide (0≤n21))))] [V17 w1] ?_ ?_
   ·clear h hk hS hX c
    exact dh1 (an f17.1 (an f17.2.1 (an f17.2.2 (an pf_40 (an f20 f23)))))
   refine ifk h (fun hb24 h=>?_) fun hb24 h=>?_
   ·refine srg hS [2] di ?_
    cases h;exact ret fin
   ·refine rg hS [1,10,11] di ?_
    exact⟨(m10,IntKind.wrap .i64 (i7+1)),h,(Weak.norm (m:=1) (Nat.le_of_ble_eq_true rfl) kp hq rfl rfl),Nat.lt_succ_self _⟩
  ·refine exit ?_
   refine srg hS [2] di ?_
   cases h;exact ret fin
theorem g_F260{w98:Y4}{w260:Y3}(c:AllG env [(S144 F144),(S278 F278),(S207 (F207 w260)),(S29 (F29 w98))]):GoodH env (S260 (F260 w98 w260)):=by
 obtain⟨O,X,hS,hX,hpf,hk⟩:=orp c
 refine gh fn_260 97 ?_
 rintro(w1:Word) (r:Bool) h m em
 refine ghs em ?_;clear em m
 replace h:F260 w98 w260 w1=some r:=h
 rw[F260]at h
 refine srg hS [1] di ?_
 refine seq ?_
 obtain⟨r3,q4,h⟩:=obs h
 have f5:=(hk 0 144 rfl).ret w1.text_ q4 rfl rfl
 refine reg hS [(1,.ref 0 0),(3,ab ((r3&&decide (w1.quoted_=[]))&&decide ((w1.cmd_.length:Int)=0)))] [V17 w1] ?_ ?_
 ·clear h hk hS hX c
  exact dh1 (ap1 144 hpf f5)
 refine seq ?_
 refine reg hS [(1,.ref 0 0),(3,ab ((r3&&decide (w1.quoted_=[]))&&decide ((w1.cmd_.length:Int)=0))),(4,ab (decide (w1.text_=[])&&decide (w1.quoted_=[])))] [V17 w1] ?_ ?_
 ·clear h hk hS hX c
  exact dh
 refine seq ?_
 refine srg hS [1,3,4,28] di ?_
 refine block ?_
 refine srg hS [1,3,4,28,29] di ?_
 refine ifs h (fun hb6 h=>?_) fun hb6 h=>?_
 ·refine seq ?_
  obtain⟨r7,q8,h⟩:=obs h
  replace q8:=guardO_t q8
  have f9:=fun hg=>(hk 1 278 rfl).ret w1 (q8 hg) rfl rfl
  refine reg hS [(2,ab ((decide ((w1.words_.length:Int)=0)&&decide ((w1.cmd_.length:Int)=0))&&r7))] [V17 w1] ?_ ?_
  ·clear h hk hS hX c
   exact dh1 (ap1 278 hpf f9)
  cases h;exact ret fin
 ·refine seqM ⟨sl [(1,.ref 0 0),(3,ab ((r3&&decide (w1.quoted_=[]))&&decide ((w1.cmd_.length:Int)=0))),(4,ab (decide (w1.text_=[])&&decide (w1.quoted_=[]))),(28,ai w1.kind_),(45,ab (bif decide (w1.kind_=2)then decide (w1.kind_=2)else decide (w1.kind_=3)))],97,[V17 w1]⟩ ?_ ?_
  ·refine srg hS [1,3,4,28,45] di ?_
   refine cond (b:=decide (w1.kind_=2)) rfl (fun hb10=>?_) (fun hb10=>?_)
   ·refine skip ?_
    exact Weak.of_eq (Weak.slots (L:=[(1,.ref 0 0),(3,ab ((r3&&decide (w1.quoted_=[]))&&decide ((w1.cmd_.length:Int)=0))),(4,ab (decide (w1.text_=[])&&decide (w1.quoted_=[]))),(28,ai w1.kind_),(45,ab (decide (w1.kind_=2)))]) kp) (wq hb10)
   ·refine rg hS [1,3,4,28,45] di ?_
    exact Weak.of_eq (Weak.slots (L:=[(1,.ref 0 0),(3,ab ((r3&&decide (w1.quoted_=[]))&&decide ((w1.cmd_.length:Int)=0))),(4,ab (decide (w1.text_=[])&&decide (w1.quoted_=[]))),(28,ai w1.kind_),(45,ab (decide (w1.kind_=3)))]) kp) (wq hb10)
  refine ifs h (fun hb11 h=>?_) fun hb11 h=>?_
  ·refine seq ?_
   refine reg hS [(2,ab (((r3&&decide (w1.quoted_=[]))&&decide ((w1.cmd_.length:Int)=0))&&decide ((w1.words_.length:Int)=0)))] [V17 w1] ?_ ?_
   ·clear h hk hS hX c
    exact dh
   cases h;exact ret fin
  ·refine srg hS [1,3,4,28,55] di ?_
   refine ifs h (fun hb12 h=>?_) fun hb12 h=>?_
   ·refine seq ?_
    obtain⟨r13,q14,h⟩:=obs h
    replace q14:=guardO_t q14
    have f15:=fun hg=>(hk 2 207 rfl).ret w1.words_ (q14 hg) rfl rfl
    refine reg hS [(2,ab ((((r3&&decide (w1.quoted_=[]))&&decide ((w1.cmd_.length:Int)=0))&&decide (1≤(w1.words_.length:Int)))&&r13))] [V17 w1] ?_ ?_
    ·clear h hk hS hX c
     exact dh1 (ap1 207 hpf f15)
    cases h;exact ret fin
   ·refine srg hS [1,4,28,69] di ?_
    refine ifs h (fun hb16 h=>?_) fun hb16 h=>?_
    ·refine seq ?_
     obtain⟨r17,q18,h⟩:=obs h
     replace q18:=guardO_t q18
     have f19:=fun hg=>(hk 2 207 rfl).ret w1.words_ (q18 hg) rfl rfl
     refine reg hS [(2,ab (((decide (w1.text_=[])&&decide (w1.quoted_=[]))&&decide ((w1.cmd_.length:Int)=0))&&r17))] [V17 w1] ?_ ?_
     ·clear h hk hS hX c
      exact dh1 (ap1 207 hpf f19)
     cases h;exact ret fin
    ·refine srg hS [1,4,83] di ?_
     refine ifk h (fun hb20 h=>?_) fun hb20 h=>?_
     ·refine seq ?_
      obtain⟨r21,q22,h⟩:=obs h
      replace q22:=guardO_t q22
      have f23:=fun hg=>(hk 3 29 rfl).ret w1.cmd_ (q22 hg) rfl rfl
      refine reg hS [(2,ab (((decide (w1.text_=[])&&decide (w1.quoted_=[]))&&decide ((w1.words_.length:Int)=0))&&r21))] [V17 w1] ?_ ?_
      ·clear h hk hS hX c
       exact dh1 (ap1 29 hpf f23)
      cases h;exact ret fin
     ·refine srg hS [2] di ?_
      cases h;exact ret fin
theorem g_F13(c:AllG env [(S21 F21),(S29 (F29 (K98 BIG)))]):GoodH env (S13 F13):=by
 obtain⟨O,X,hS,hX,hpf,hk⟩:=orp c
 have pf_21:O.pf 21=true:=pft hpf 21 rfl
 refine gh fn_13 9 ?_
 rintro(l1:(List Cmd)) (r:Bool) h m em
 refine ghs em ?_;clear em m
 replace h:F13 l1=some r:=h
 rw[F13]at h
 refine srg hS [0] di ?_
 refine seq ?_
 obtain⟨r3,q4,h⟩:=obs h
 have f5:=(hk 0 21 rfl).ret l1 q4 rfl rfl
 obtain⟨r6,q7,h⟩:=obs h
 have f8:=hk 1 29 rfl
 replace q7:=guardO_t q7
 replace f8:=fun hg=>f8.ret l1 (q7 hg) rfl rfl
 refine reg hS [(2,ab (r3&&r6))] [] ?_ ?_
 ·clear h hk hS hX c
  exact dh1 (an pf_21 (an f5 (ap1 29 hpf f8)))
 cases h;exact ret fin
theorem g_F123(c:AllG env [(S163 F163)]):GoodH env (S123 F123):=by
 obtain⟨O,X,hS,hX,hpf,hk⟩:=orp c
 refine gh fn_123 19 ?_
 rintro⟨s1,b2,l3⟩ (r:Int×Str) h m em
 refine ghs em ?_;clear em m
 replace h:F123 s1 b2 l3=some r:=h
 rw[F123]at h
 refine srg hS [0,1] di ?_
 refine seq ?_
 obtain⟨_,q6,h⟩:=obs h
 have f7:=(hk 0 163 rfl).ret (b2,l3) q6 rfl rfl
 have e8:ecall O [.prn 5 b2 51 9 (List.map Redir.pv l3)] 163 [.ref 0 0]=some (retAV [],[.prn 5 b2 51 9 (List.map Redir.pv l3)]):=ecall_eq rfl rfl rfl f7 rfl rfl rfl
 refine rg hS [0,1] (di1 (ap0 163 hpf e8)) ?_
 refine seq ?_
 refine AW.after ?_
 refine weak (Weak.explode 0 rfl) ?_
 refine weak (σ':=⟨sl [(0,.ref 0 0),(1,as_ s1)],19,[V19 b2.length l3.length,.brow 5 b2,rRe l3]⟩) (Weak.of_eq (Weak.slots (L:=[(0,.ref 0 0),(1,as_ s1)]) ⟨rfl,rfl,trivial⟩) (by first|rfl|(simp only[List.length_map];rfl))) ?_
 obtain⟨out9,q10,h⟩:=obs h
 have f11:=apS_f q10
 have f11m:eappendS env [V19 b2.length l3.length,.brow 5 b2,rRe l3] 58 9 (.vec 1 (List.length b2)) (as_ s1)=some (.vec 1 (List.length out9),[V19 b2.length l3.length,.brow 5 out9,rRe l3]):=eappendS_v T_58 T_9 T_5 rfl rfl q10
 refine reg hS [(1,as_ s1)] [V19 out9.length l3.length,.brow 5 out9,rRe l3] (dk1 f11m) ?_
 refine⟨⟨sl [(1,as_ s1)],19,[.prn 5 out9 51 9 (List.map Redir.pv l3),.moved 5 1 (List.length out9),.moved 51 9 (List.length l3)]⟩,(Weak.trans (Weak.implode (σ:=⟨sl [(1,as_ s1)],19,[V19 out9.length l3.length,.brow 5 out9,rRe l3]⟩) 0 1 2 rfl rfl rfl rfl (by first|rfl|simp only[List.length_map])) (Weak.of_eq (σ'':=⟨sl [(1,as_ s1)],19,[.prn 5 out9 51 9 (List.map Redir.pv l3),.moved 5 1 (List.length out9),.moved 51 9 (List.length l3)]⟩) (Weak.slots (L:=[(1,as_ s1)]) ⟨rfl,trivial⟩) (by first|rfl|(simp only[List.length_map];rfl)))),?_⟩
 refine srg hS [4,5] di ?_
 cases h;exact ret fin
theorem g_F103(c:AllG env [(S123 F123)]):GoodH env (S103 F103):=by
 obtain⟨O,X,hS,hX,hpf,hk⟩:=orp c
 refine gh fn_103 18 ?_
 rintro⟨texts1,b2,l3⟩ (r:Str) h m em
 refine ghs em ?_;clear em m
 replace h:F103 texts1 b2 l3=some r:=h
 rw[F103]at h
 refine srg hS [0,6,7,8] di ?_
 refine block ?_
 refine lp (α:=Nat×Int×Str) (fun(_,i5,l6)=>⟨sl [(0,.ref 0 0),(6,vS texts1),(7,ai (texts1.length:Int)),(8,ai i5)],18,[.prn 5 l6 51 9 (List.map Redir.pv l3)]⟩) (fun x=>iter (F103_b1 texts1 l3) x.1 x.2=some r) (fun x=>x.1) (BIG,(0,b2)) (Weak.slots kp) h ?_
 clear h
 intro⟨n19,i5,l6⟩ h
 replace h:=iter_some h;obtain⟨m9,rfl,h⟩:=h
 rw[F103_b1]at h
 try dsimp only at h
 refine AW.st ?_
 refine srg hS [0,6,7,8,9] di ?_
 refine seq ?_
 refine ifs h (fun hb10 h=>?_) fun hb10 h=>?_
 ·refine skip ?_
  refine seq ?_
  refine block ?_
  refine seq ?_
  obtain⟨w11,q12,h⟩:=obs h
  have f13:=lidx_f q12
  refine rg hS [0,5,6,7,8] (di1 (an f13.1 f13.2.1)) ?_
  obtain⟨⟨r14,o15⟩,q16,h⟩:=obs h
  dsimp only at h
  have f17:=(hk 0 123 rfl).ret (w11,l6,l3) q16 rfl rfl
  have e18:ecall O [.prn 5 l6 51 9 (List.map Redir.pv l3)] 123 [.ref 0 0,as_ w11]=some (retAV [ai r14,.pv (.nil)],[.prn 5 o15 51 9 (List.map Redir.pv l3)]):=ecall_eq rfl rfl rfl f17 rfl rfl rfl
  refine rg hS [0,6,7,8] (di1 (ap0 123 hpf e18)) ?_
  refine rg hS [0,6,7,8] di ?_
  exact⟨(m9,(IntKind.wrap .i64 (i5+1),o15)),h,(Weak.norm (m:=1) (Nat.le_of_ble_eq_true rfl) kp hq rfl rfl),Nat.lt_succ_self _⟩
 ·refine exit ?_
  cases h
  exact fin
theorem g_F109(c:AllG env [SL_Split,SL_Contains]):GoodH env (S109 F109):=by
 obtain⟨O,X,hS,hX,hpf,hk⟩:=orp c
 refine gh fn_109 13 ?_
 rintro(doc1:Str) (r:Str) h m em
 refine ghs em ?_;clear em m
 replace h:F109 doc1=some r:=h
 rw[F109]at h
 refine srg hS [0] di ?_
 refine seq ?_
 obtain⟨l3,q4,h⟩:=obs h
 have f5:=(hk 0 156 rfl).ret (doc1,([10]:Str)) q4 rfl rfl
 try simp only[PVE]at f5
 refine rg hS [3] (di1 (ap1 156 hpf f5)) ?_
 refine srg hS [3,4] di ?_
 refine seq ?_
 refine block ?_
 refine lp (α:=Nat×Str) (fun(_,s6)=>⟨sl [(3,vS l3),(4,as_ s6)],13,[]⟩) (fun x=>iter (F109_b1 l3) x.1 x.2=some r) (fun x=>x.1) (BIG,[69]) (Weak.slots kp) h ?_
 clear h
 intro⟨n17,s6⟩ h
 replace h:=iter_some h;obtain⟨m9,rfl,h⟩:=h
 rw[F109_b1]at h
 try dsimp only at h
 refine AW.st ?_
 refine seq ?_
 refine seq ?_
 obtain⟨ok10,q11,h⟩:=obs h
 have f12:=(hk 1 157 rfl).ret (l3,s6) q11 rfl rfl
 refine rg hS [3,4,9] (di1 (ap1 157 hpf f12)) ?_
 refine ifs h (fun hb13 h=>?_) fun hb13 h=>?_
 ·refine skip ?_
  refine block ?_
  obtain⟨s14,q15,h⟩:=obs h
  have f16:=catO_f q15
  try simp only[LNS,List.length_replicate,Nat.reduceAdd,Nat.reduceLeDiff,Nat.add_zero,Nat.reduceMul]at f16
  refine rg hS [3,4] (di1 (an f16.1 f16.2)) ?_
  exact⟨(m9,s14),h,(Weak.norm (m:=0) (Nat.le_of_ble_eq_true rfl) kp hq rfl rfl),Nat.lt_succ_self _⟩
 ·refine exit ?_
  refine srg hS [2] di ?_
  cases h;exact ret fin
theorem g_F67(c:AllG env [(S36 F36),(S108 F108),(S103 F103),(S109 F109)]):GoodH env (S67 F67):=by
 obtain⟨O,X,hS,hX,hpf,hk⟩:=orp c
 have pf_36:O.pf 36=false:=pft hpf 36 rfl
 have pf_109:O.pf 109=true:=pft hpf 109 rfl
 refine gh fn_67 38 ?_
 rintro⟨b1,l2⟩ (r:Str×(List Redir)) h m em
 refine ghs em ?_;clear em m
 replace h:F67 b1 l2=some r:=h
 rw[F67]at h
 refine seqJ (α:=Str) (fun l5=>⟨sl [(0,.ref 0 0)],38,[.prn 5 l5 51 9 (List.map Redir.pv l2)]⟩) (fun x=>F67_j1 l2 x=some r) ?_ ?_
 ·intro l5 h
  rw[F67_j1]at h
  try dsimp only at h
  refine AW.st ?_
  refine seq ?_
  obtain⟨o6,q7,h⟩:=obs h
  have f8:=(hk 2 103 rfl).ret (([[10]]:List Str),l5,l2) q7 rfl rfl
  try simp only[PVE]at f8
  have e9:ecall O [.prn 5 l5 51 9 (List.map Redir.pv l2)] 103 [.ref 0 0,.full (List.map PV.str [[10]])]=some (retAV [],[.prn 5 o6 51 9 (List.map Redir.pv l2)]):=ecall_eq rfl rfl rfl f8 rfl rfl rfl
  try simp only[PVE]at e9
  refine rg hS [0] (di1 (ap0 103 hpf e9)) ?_
  refine seq ?_
  refine seq ?_
  refine AW.after ?_
  refine weak (Weak.explode 0 rfl) ?_
  refine weak (σ':=⟨sl [(0,.ref 0 0)],38,[V19 o6.length l2.length,.brow 5 o6,rRe l2]⟩) (Weak.of_eq (Weak.slots (L:=[(0,.ref 0 0)]) ⟨rfl,trivial⟩) (by first|rfl|(simp only[List.length_map];rfl))) ?_
  refine rg hS [0,18,19,20] di ?_
  refine⟨⟨sl [(0,.ref 0 0),(18,vRe l2),(19,ai (l2.length:Int)),(20,ai 0)],38,[.prn 5 o6 51 9 (List.map Redir.pv l2),.moved 5 1 (List.length o6),.moved 51 9 (List.length l2)]⟩,(Weak.trans (Weak.slotPV (σ:=⟨sl [(0,.ref 0 0),(18,.vec 2 (List.length l2)),(19,ai (l2.length:Int)),(20,ai 0)],38,[V19 o6.length l2.length,.brow 5 o6,rRe l2]⟩) 18 (a:=.vec 2 (List.length l2)) (p:=.slice (List.map Redir.pv l2)) rfl (by first|rfl|simp only[toPV,List.getElem?_cons_zero,List.getElem?_cons_succ,List.length_map,if_true,List.map_nil])) (Weak.trans (Weak.of_eq (σ'':=⟨sl [(0,.ref 0 0),(18,vRe l2),(19,ai (l2.length:Int)),(20,ai 0)],38,[V19 o6.length l2.length,.brow 5 o6,rRe l2]⟩) (Weak.slots (L:=[(0,.ref 0 0),(18,vRe l2),(19,ai (l2.length:Int)),(20,ai 0)]) ⟨rfl,rfl,rfl,rfl,trivial⟩) (by first|rfl|(simp only[List.length_map];rfl))) (Weak.trans (Weak.implode (σ:=⟨sl [(0,.ref 0 0),(18,vRe l2),(19,ai (l2.length:Int)),(20,ai 0)],38,[V19 o6.length l2.length,.brow 5 o6,rRe l2]⟩) 0 1 2 rfl rfl rfl rfl (by first|rfl|simp only[List.length_map])) (Weak.of_eq (σ'':=⟨sl [(0,.ref 0 0),(18,vRe l2),(19,ai (l2.length:Int)),(20,ai 0)],38,[.prn 5 o6 51 9 (List.map Redir.pv l2),.moved 5 1 (List.length o6),.moved 51 9 (List.length l2)]⟩) (Weak.slots (L:=[(0,.ref 0 0),(18,vRe l2),(19,ai (l2.length:Int)),(20,ai 0)]) ⟨rfl,rfl,rfl,rfl,trivial⟩) (by first|rfl|(simp only[List.length_map];rfl)))))),?_⟩
  refine block ?_
  refine lp (α:=Nat×Int×Str) (fun(_,i10,l11)=>⟨sl [(0,.ref 0 0),(18,vRe l2),(19,ai (l2.length:Int)),(20,ai i10)],38,[.prn 5 l11 51 9 (List.map Redir.pv l2),.moved 5 1 (List.length o6),.moved 51 9 (List.length l2)]⟩) (fun x=>iter (F67_b2 l2) x.1 x.2=some r) (fun x=>x.1) (BIG,(0,o6)) (Weak.slots kp) h ?_
  clear h
  intro⟨n26,i10,l11⟩ h
  replace h:=iter_some h;obtain⟨m14,rfl,h⟩:=h
  rw[F67_b2]at h
  try dsimp only at h
  refine AW.st ?_
  refine srg hS [0,18,19,20,21] di ?_
  refine seq ?_
  refine ifs h (fun hb15 h=>?_) fun hb15 h=>?_
  ·refine skip ?_
   refine seq ?_
   refine block ?_
   refine seq ?_
   obtain⟨u16,q17,h⟩:=obs h
   have f18:=lidx_f q17
   refine rg hS [0,3,18,19,20] (di1 (an f18.1 f18.2.1)) ?_
   obtain⟨r19,q20,h⟩:=obs h
   have f21:=(hk 3 109 rfl).ret u16.word_.text_ q20 rfl rfl
   obtain⟨o22,q23,h⟩:=obs h
   have f24:=(hk 2 103 rfl).ret (([u16.word_.text_,r19,[10]]:List Str),l11,l2) q23 rfl rfl
   try simp only[PVE]at f24
   have e25:ecall O [.prn 5 l11 51 9 (List.map Redir.pv l2),.moved 5 1 (List.length o6),.moved 51 9 (List.length l2),V16 u16] 103 [.ref 0 0,.full (List.map PV.str [u16.word_.text_,r19,[10]])]=some (retAV [],[.prn 5 o22 51 9 (List.map Redir.pv l2),.moved 5 1 (List.length o6),.moved 51 9 (List.length l2),V16 u16]):=ecall_eq rfl rfl rfl f24 rfl rfl rfl
   try simp only[PVE]at e25
   apply dgk mixed hS [0,18,19,20] (ordp hpf (by kernel_rfl))
   ·exact di1 (an pf_109 (an f21 (ap0 103 hpf e25)))
   refine rg hS [0,18,19,20] di ?_
   exact⟨(m14,(IntKind.wrap .i64 (i10+1),o22)),h,(Weak.norm (m:=3) (Nat.le_of_ble_eq_true rfl) kp hq rfl rfl),Nat.lt_succ_self _⟩
  ·refine exit ?_
   refine AW.after ?_
   refine weak (Weak.explode 0 rfl) ?_
   refine weak (σ':=⟨sl [(0,.ref 0 0),(18,vRe l2),(19,ai (l2.length:Int)),(20,ai i10),(21,ab (decide (i10<(l2.length:Int))))],38,[.var [.selfp 0,.vec 3 (List.length l11),.vec 4 (List.length l2)],.moved 5 1 (List.length o6),.moved 51 9 (List.length l2),.brow 5 l11,rRe l2]⟩) (Weak.of_eq (Weak.slots (L:=[(0,.ref 0 0),(18,vRe l2),(19,ai (l2.length:Int)),(20,ai i10),(21,ab (decide (i10<(l2.length:Int))))]) ⟨rfl,rfl,rfl,rfl,rfl,trivial⟩) (by first|rfl|(simp only[List.length_map];rfl))) ?_
   refine rg hS [] di ?_
   refine⟨⟨sl [],38,[.prn 5 l11 51 9 (List.map Redir.pv ([]:List Redir)),.moved 5 1 (List.length o6),.moved 51 9 (List.length l2),.moved 5 1 (List.length l11),rRe l2,.moved 51 9 (List.length ([]:List Redir))]⟩,(Weak.trans (Weak.ownC (σ:=⟨sl [],38,[.var [.selfp 0,.vec 3 (List.length l11),.nils],.moved 5 1 (List.length o6),.moved 51 9 (List.length l2),.brow 5 l11,rRe l2]⟩) 0 2 51 9 (by decide) (cs:=[.selfp 0,.vec 3 (List.length l11),.nils]) rfl rfl) (Weak.trans (Weak.of_eq (σ'':=⟨sl [],38,[.var [.selfp 0,.vec 3 (List.length l11),.vec 5 (List.length ([]:List Redir))],.moved 5 1 (List.length o6),.moved 51 9 (List.length l2),.brow 5 l11,rRe l2,.row 51 9 (List.map Redir.pv ([]:List Redir)) true]⟩) (Weak.slots (L:=[]) trivial) (by first|rfl|(simp only[List.length_map];rfl))) (Weak.trans (Weak.implode (σ:=⟨sl [],38,[.var [.selfp 0,.vec 3 (List.length l11),.vec 5 (List.length ([]:List Redir))],.moved 5 1 (List.length o6),.moved 51 9 (List.length l2),.brow 5 l11,rRe l2,.row 51 9 (List.map Redir.pv ([]:List Redir)) true]⟩) 0 3 5 rfl rfl rfl rfl (by first|rfl|simp only[List.length_map])) (Weak.of_eq (σ'':=⟨sl [],38,[.prn 5 l11 51 9 (List.map Redir.pv ([]:List Redir)),.moved 5 1 (List.length o6),.moved 51 9 (List.length l2),.moved 5 1 (List.length l11),rRe l2,.moved 51 9 (List.length ([]:List Redir))]⟩) (Weak.slots (L:=[]) trivial) (by first|rfl|(simp only[List.length_map];rfl)))))),?_⟩
   cases h
   exact fin
 refine seq ?_
 obtain⟨r27,q28,h⟩:=obs h
 have f29:=(hk 0 36 rfl).ret (b1,l2) q28 rfl rfl
 have e30:ecall O [.prn 5 b1 51 9 (List.map Redir.pv l2)] 36 [.ref 0 0]=some (retAV [as_ r27],[.prn 5 b1 51 9 (List.map Redir.pv l2)]):=ecall_eq rfl rfl rfl f29 rfl rfl rfl
 obtain⟨r31,q32,h⟩:=obs h
 have f33:=(hk 1 108 rfl).ret (r27,([92]:Str)) q32 rfl rfl
 try simp only[PVE]at f33
 refine rg hS [0,8] (di1 (an pf_36 (an e30 (ap1 108 hpf f33)))) ?_
 refine ifk h (fun hb34 h=>?_) fun hb34 h=>?_
 ·obtain⟨o35,q36,h⟩:=obs h
  have f37:=(hk 2 103 rfl).ret (([[32]]:List Str),b1,l2) q36 rfl rfl
  try simp only[PVE]at f37
  have e38:ecall O [.prn 5 b1 51 9 (List.map Redir.pv l2)] 103 [.ref 0 0,.full (List.map PV.str [[32]])]=some (retAV [],[.prn 5 o35 51 9 (List.map Redir.pv l2)]):=ecall_eq rfl rfl rfl f37 rfl rfl rfl
  try simp only[PVE]at e38
  refine rg hS [0] (di1 (ap0 103 hpf e38)) ?_
  exact⟨o35,h,(Weak.norm (m:=1) (Nat.le_of_ble_eq_true rfl) kp hq rfl rfl)⟩
 ·exact⟨b1,h,(Weak.norm (m:=1) (Nat.le_of_ble_eq_true rfl) kp hq rfl rfl)⟩
theorem g_F35{w66:Y5}(c:AllG env [(S66 w66),(S67 F67)]):GoodH env (S35 (F35 w66)):=by
 obtain⟨O,X,hS,hX,hpf,hk⟩:=orp c
 refine gh fn_35 18 ?_
 rintro⟨l1,b2,l3⟩ (r:Str×(List Redir)) h m em
 refine ghs em ?_;clear em m
 replace h:F35 w66 l1 b2 l3=some r:=h
 rw[F35]at h
 refine srg hS [0,6,7,8] di ?_
 refine block ?_
 refine lp (α:=Nat×Int×Str×(List Redir)) (fun(_,i6,l7,m8)=>⟨sl [(0,.ref 0 0),(6,vC l1),(7,ai (l1.length:Int)),(8,ai i6)],18,[.prn 5 l7 51 9 (List.map Redir.pv m8)]⟩) (fun x=>iter (F35_b1 l1 w66) x.1 x.2=some r) (fun x=>x.1) (BIG,(0,b2,l3)) (Weak.slots kp) h ?_
 clear h
 intro⟨n26,i6,l7,m8⟩ h
 replace h:=iter_some h;obtain⟨m11,rfl,h⟩:=h
 rw[F35_b1]at h
 try dsimp only at h
 refine AW.st ?_
 refine srg hS [0,6,7,8,9] di ?_
 refine seq ?_
 refine ifs h (fun hb12 h=>?_) fun hb12 h=>?_
 ·refine skip ?_
  refine seq ?_
  refine block ?_
  refine seq ?_
  obtain⟨u13,q14,h⟩:=obs h
  have f15:=lidx_f q14
  refine rg hS [0,5,6,7,8] (di1 (an f15.1 f15.2.1)) ?_
  refine seq ?_
  obtain⟨⟨r16,r17⟩,q18,h⟩:=obs h
  dsimp only at h
  have f19:=(hk 0 66 rfl).ret (u13,l7,m8) q18 rfl rfl
  have e20:ecall O [.prn 5 l7 51 9 (List.map Redir.pv m8),V6 u13] 66 [.ref 0 0,.pv (V9 u13)]=some (retAV [],[.prn 5 r16 51 9 (List.map Redir.pv r17),V6 u13]):=ecall_eq rfl rfl rfl f19 rfl rfl rfl
  refine rg hS [0,6,7,8] (di1 (ap0 66 hpf e20)) ?_
  obtain⟨⟨o21,m22⟩,q23,h⟩:=obs h
  dsimp only at h
  have f24:=(hk 1 67 rfl).ret (r16,r17) q23 rfl rfl
  have e25:ecall O [.prn 5 r16 51 9 (List.map Redir.pv r17),V6 u13] 67 [.ref 0 0]=some (retAV [],[.prn 5 o21 51 9 (List.map Redir.pv m22),V6 u13]):=ecall_eq rfl rfl rfl f24 rfl rfl rfl
  refine rg hS [0,6,7,8] (di1 (ap0 67 hpf e25)) ?_
  refine rg hS [0,6,7,8] di ?_
  exact⟨(m11,(IntKind.wrap .i64 (i6+1),o21,m22)),h,(Weak.norm (m:=1) (Nat.le_of_ble_eq_true rfl) kp hq rfl rfl),Nat.lt_succ_self _⟩
 ·refine exit ?_
  cases h
  exact fin
theorem g_F102{w66:Y5}(c:AllG env [(S103 F103),(S66 w66)]):GoodH env (S102 (F102 w66)):=by
 obtain⟨O,X,hS,hX,hpf,hk⟩:=orp c
 refine gh fn_102 25 ?_
 rintro⟨l1,between2,b3,l4⟩ (r:Str×(List Redir)) h m em
 refine ghs em ?_;clear em m
 replace h:F102 w66 l1 between2 b3 l4=some r:=h
 rw[F102]at h
 refine srg hS [0,2,8,9,10] di ?_
 refine block ?_
 refine lp (α:=Nat×Int×Str×(List Redir)) (fun(_,i7,l8,m9)=>⟨sl [(0,.ref 0 0),(2,as_ between2),(8,vC l1),(9,ai (l1.length:Int)),(10,ai i7)],25,[.prn 5 l8 51 9 (List.map Redir.pv m9)]⟩) (fun x=>iter (F102_b1 l1 between2 w66) x.1 x.2=some r) (fun x=>x.1) (BIG,(0,b3,l4)) (Weak.slots kp) h ?_
 clear h
 intro⟨n32,i7,l8,m9⟩ h
 replace h:=iter_some h;obtain⟨m12,rfl,h⟩:=h
 rw[F102_b1]at h
 try dsimp only at h
 refine AW.st ?_
 refine srg hS [0,2,8,9,10,11] di ?_
 refine seq ?_
 refine ifs h (fun hb13 h=>?_) fun hb13 h=>?_
 ·refine skip ?_
  refine seq ?_
  refine block ?_
  refine seq ?_
  obtain⟨u14,q15,h⟩:=obs h
  have f16:=lidx_f q15
  refine rg hS [0,2,6,7,8,9,10] (di1 (an f16.1 f16.2.1)) ?_
  refine seq ?_
  refine srg hS [0,2,7,8,9,10,16] di ?_
  refine ifk h (fun hb17 h=>?_) fun hb17 h=>?_
  ·obtain⟨o18,q19,h⟩:=obs h
   have f20:=(hk 0 103 rfl).ret (([between2]:List Str),l8,m9) q19 rfl rfl
   try simp only[PVE]at f20
   have e21:ecall O [.prn 5 l8 51 9 (List.map Redir.pv m9),V6 u14] 103 [.ref 0 0,.full (List.map PV.str [between2])]=some (retAV [],[.prn 5 o18 51 9 (List.map Redir.pv m9),V6 u14]):=ecall_eq rfl rfl rfl f20 rfl rfl rfl
   try simp only[PVE]at e21
   refine rg hS [0,2,7,8,9,10] (di1 (ap0 103 hpf e21)) ?_
   obtain⟨⟨r22,r23⟩,q24,h⟩:=obs h
   dsimp only at h
   have f25:=(hk 1 66 rfl).ret (u14,o18,m9) q24 rfl rfl
   have e26:ecall O [.prn 5 o18 51 9 (List.map Redir.pv m9),V6 u14] 66 [.ref 0 0,.pv (V9 u14)]=some (retAV [],[.prn 5 r22 51 9 (List.map Redir.pv r23),V6 u14]):=ecall_eq rfl rfl rfl f25 rfl rfl rfl
   refine rg hS [0,2,8,9,10] (di1 (ap0 66 hpf e26)) ?_
   refine rg hS [0,2,8,9,10] di ?_
   exact⟨(m12,(IntKind.wrap .i64 (i7+1),r22,r23)),h,(Weak.norm (m:=1) (Nat.le_of_ble_eq_true rfl) kp hq rfl rfl),Nat.lt_succ_self _⟩
  ·obtain⟨⟨r27,r28⟩,q29,h⟩:=obs h
   dsimp only at h
   have f30:=(hk 1 66 rfl).ret (u14,l8,m9) q29 rfl rfl
   have e31:ecall O [.prn 5 l8 51 9 (List.map Redir.pv m9),V6 u14] 66 [.ref 0 0,.pv (V9 u14)]=some (retAV [],[.prn 5 r27 51 9 (List.map Redir.pv r28),V6 u14]):=ecall_eq rfl rfl rfl f30 rfl rfl rfl
   refine rg hS [0,2,8,9,10] (di1 (ap0 66 hpf e31)) ?_
   refine rg hS [0,2,8,9,10] di ?_
   exact⟨(m12,(IntKind.wrap .i64 (i7+1),r27,r28)),h,(Weak.norm (m:=1) (Nat.le_of_ble_eq_true rfl) kp hq rfl rfl),Nat.lt_succ_self _⟩
 ·refine exit ?_
  cases h
  exact fin
theorem g_F104{w66:Y5}(c:AllG env [(S103 F103),(S67 F67),(S35 (F35 w66))]):GoodH env (S104 (F104 w66)):=by
 obtain⟨O,X,hS,hX,hpf,hk⟩:=orp c
 refine gh fn_104 21 ?_
 rintro⟨open1,l2,closing3,b4,l5⟩ (r:Str×(List Redir)) h m em
 refine ghs em ?_;clear em m
 replace h:F104 w66 open1 l2 closing3 b4 l5=some r:=h
 rw[F104]at h
 refine seq ?_
 obtain⟨o8,q9,h⟩:=obs h
 have f10:=(hk 0 103 rfl).ret (([open1]:List Str),b4,l5) q9 rfl rfl
 try simp only[PVE]at f10
 have e11:ecall O [.prn 5 b4 51 9 (List.map Redir.pv l5)] 103 [.ref 0 0,.full (List.map PV.str [open1])]=some (retAV [],[.prn 5 o8 51 9 (List.map Redir.pv l5)]):=ecall_eq rfl rfl rfl f10 rfl rfl rfl
 try simp only[PVE]at e11
 refine rg hS [0,2,3] (di1 (ap0 103 hpf e11)) ?_
 refine seq ?_
 obtain⟨⟨o12,m13⟩,q14,h⟩:=obs h
 dsimp only at h
 have f15:=(hk 1 67 rfl).ret (o8,l5) q14 rfl rfl
 have e16:ecall O [.prn 5 o8 51 9 (List.map Redir.pv l5)] 67 [.ref 0 0]=some (retAV [],[.prn 5 o12 51 9 (List.map Redir.pv m13)]):=ecall_eq rfl rfl rfl f15 rfl rfl rfl
 refine rg hS [0,2,3] (di1 (ap0 67 hpf e16)) ?_
 refine seq ?_
 obtain⟨⟨o17,m18⟩,q19,h⟩:=obs h
 dsimp only at h
 have f20:=(hk 2 35 rfl).ret (l2,o12,m13) q19 rfl rfl
 have e21:ecall O [.prn 5 o12 51 9 (List.map Redir.pv m13)] 35 [.ref 0 0,vC l2]=some (retAV [],[.prn 5 o17 51 9 (List.map Redir.pv m18)]):=ecall_eq rfl rfl rfl f20 rfl rfl rfl
 refine rg hS [0,3] (di1 (ap0 35 hpf e21)) ?_
 obtain⟨o22,q23,h⟩:=obs h
 have f24:=(hk 0 103 rfl).ret (([closing3]:List Str),o17,m18) q23 rfl rfl
 try simp only[PVE]at f24
 have e25:ecall O [.prn 5 o17 51 9 (List.map Redir.pv m18)] 103 [.ref 0 0,.full (List.map PV.str [closing3])]=some (retAV [],[.prn 5 o22 51 9 (List.map Redir.pv m18)]):=ecall_eq rfl rfl rfl f24 rfl rfl rfl
 try simp only[PVE]at e25
 refine rg hS [] (di1 (ap0 103 hpf e25)) ?_
 cases h
 exact fin
theorem g_F188(c:AllG env [SL_Itoa]):GoodH env (S188 F188):=by
 obtain⟨O,X,hS,hX,hpf,hk⟩:=orp c
 have pf_189:O.pf 189=true:=pft hpf 189 rfl
 refine gh fn_188 12 ?_
 rintro⟨fd1,usual2⟩ (r:Str) h m em
 refine ghs em ?_;clear em m
 replace h:F188 fd1 usual2=some r:=h
 rw[F188]at h
 refine srg hS [0,1] di ?_
 refine seq ?_
 refine srg hS [0,7] di ?_
 refine ifk h (fun hb4 h=>?_) fun hb4 h=>?_
 ·refine srg hS [4] di ?_
  cases h;exact ret fin
 ·refine seq ?_
  obtain⟨s5,q6,h⟩:=obs h
  have f7:=(hk 0 189 rfl).ret fd1 q6 rfl rfl
  obtain⟨s8,q9,h⟩:=obs h
  have f10:=catO_f q9
  try simp only[LNS,List.length_replicate,Nat.reduceAdd,Nat.reduceLeDiff,Nat.add_zero,Nat.reduceMul]at f10
  obtain⟨s11,q12,h⟩:=obs h
  have f13:=catO_f q12
  try simp only[LNS,List.length_replicate,Nat.reduceAdd,Nat.reduceLeDiff,Nat.add_zero,Nat.reduceMul]at f13
  refine rg hS [4] (di1 (an pf_189 (an f7 (an f10.1 (an f10.2 (an f13.1 f13.2)))))) ?_
  cases h;exact ret fin
theorem g_F151{w152:Y2}(c:AllG env [(S188 F188),(S103 F103),SL_Itoa,(S152 w152),(S109 F109)]):GoodH env (S151 (F151 w152)):=by
 obtain⟨O,X,hS,hX,hpf,hk⟩:=orp c
 have pf_109:O.pf 109=true:=pft hpf 109 rfl
 have pf_188:O.pf 188=true:=pft hpf 188 rfl
 have pf_189:O.pf 189=true:=pft hpf 189 rfl
 refine gh fn_151 77 ?_
 rintro⟨r1,b2,l3⟩ (r:Str×(List Redir)) h m em
 refine ghs em ?_;clear em m
 replace h:F151 w152 r1 b2 l3=some r:=h
 rw[F151]at h
 refine srg hS [0,3] di ?_
 refine seq ?_
 refine srg hS [0,3,6] di ?_
 refine block ?_
 refine srg hS [0,3,6,7] di ?_
 refine ifs h (fun hb6 h=>?_) fun hb6 h=>?_
 ·obtain⟨r7,q8,h⟩:=obs h
  have f9:=(hk 0 188 rfl).ret (r1.fd_,0) q8 rfl rfl
  obtain⟨o10,q11,h⟩:=obs h
  have f12:=(hk 1 103 rfl).ret (([[60],r7,[32]]:List Str),b2,l3) q11 rfl rfl
  try simp only[PVE]at f12
  have e13:ecall O [.prn 5 b2 51 9 (List.map Redir.pv l3),V16 r1] 103 [.ref 0 0,.full (List.map PV.str [[60],r7,[32]])]=some (retAV [],[.prn 5 o10 51 9 (List.map Redir.pv l3),V16 r1]):=ecall_eq rfl rfl rfl f12 rfl rfl rfl
  try simp only[PVE]at e13
  refine rg hS [0,3] (di1 (an pf_188 (an f9 (ap0 103 hpf e13)))) ?_
  obtain⟨⟨r14,r15⟩,q16,h⟩:=obs h
  dsimp only at h
  have f17:=(hk 3 152 rfl).ret (r1.word_,o10,l3) q16 rfl rfl
  have e18:ecall O [.prn 5 o10 51 9 (List.map Redir.pv l3),V16 r1] 152 [.ref 0 0,.pv (V20 r1)]=some (retAV [],[.prn 5 r14 51 9 (List.map Redir.pv r15),V16 r1]):=ecall_eq rfl rfl rfl f17 rfl rfl rfl
  refine rg hS [] (di1 (ap0 152 hpf e18)) ?_
  cases h
  exact fin
 ·refine srg hS [0,3,6,15] di ?_
  refine ifs h (fun hb19 h=>?_) fun hb19 h=>?_
  ·obtain⟨r20,q21,h⟩:=obs h
   have f22:=(hk 0 188 rfl).ret (r1.fd_,1) q21 rfl rfl
   obtain⟨o23,q24,h⟩:=obs h
   have f25:=(hk 1 103 rfl).ret (([[62],r20,[32]]:List Str),b2,l3) q24 rfl rfl
   try simp only[PVE]at f25
   have e26:ecall O [.prn 5 b2 51 9 (List.map Redir.pv l3),V16 r1] 103 [.ref 0 0,.full (List.map PV.str [[62],r20,[32]])]=some (retAV [],[.prn 5 o23 51 9 (List.map Redir.pv l3),V16 r1]):=ecall_eq rfl rfl rfl f25 rfl rfl rfl
   try simp only[PVE]at e26
   refine rg hS [0,3] (di1 (an pf_188 (an f22 (ap0 103 hpf e26)))) ?_
   obtain⟨⟨r27,r28⟩,q29,h⟩:=obs h
   dsimp only at h
   have f30:=(hk 3 152 rfl).ret (r1.word_,o23,l3) q29 rfl rfl
   have e31:ecall O [.prn 5 o23 51 9 (List.map Redir.pv l3),V16 r1] 152 [.ref 0 0,.pv (V20 r1)]=some (retAV [],[.prn 5 r27 51 9 (List.map Redir.pv r28),V16 r1]):=ecall_eq rfl rfl rfl f30 rfl rfl rfl
   refine rg hS [] (di1 (ap0 152 hpf e31)) ?_
   cases h
   exact fin
  ·refine srg hS [0,3,6,23] di ?_
   refine ifs h (fun hb32 h=>?_) fun hb32 h=>?_
   ·obtain⟨r33,q34,h⟩:=obs h
    have f35:=(hk 0 188 rfl).ret (r1.fd_,1) q34 rfl rfl
    obtain⟨o36,q37,h⟩:=obs h
    have f38:=(hk 1 103 rfl).ret (([[62,62],r33,[32]]:List Str),b2,l3) q37 rfl rfl
    try simp only[PVE]at f38
    have e39:ecall O [.prn 5 b2 51 9 (List.map Redir.pv l3),V16 r1] 103 [.ref 0 0,.full (List.map PV.str [[62,62],r33,[32]])]=some (retAV [],[.prn 5 o36 51 9 (List.map Redir.pv l3),V16 r1]):=ecall_eq rfl rfl rfl f38 rfl rfl rfl
    try simp only[PVE]at e39
    refine rg hS [0,3] (di1 (an pf_188 (an f35 (ap0 103 hpf e39)))) ?_
    obtain⟨⟨r40,r41⟩,q42,h⟩:=obs h
    dsimp only at h
    have f43:=(hk 3 152 rfl).ret (r1.word_,o36,l3) q42 rfl rfl
    have e44:ecall O [.prn 5 o36 51 9 (List.map Redir.pv l3),V16 r1] 152 [.ref 0 0,.pv (V20 r1)]=some (retAV [],[.prn 5 r40 51 9 (List.map Redir.pv r41),V16 r1]):=ecall_eq rfl rfl rfl f43 rfl rfl rfl
    refine rg hS [] (di1 (ap0 152 hpf e44)) ?_
    cases h
    exact fin
   ·refine srg hS [0,3,6,31] di ?_
    refine ifs h (fun hb45 h=>?_) fun hb45 h=>?_
    ·refine seq ?_
     obtain⟨s46,q47,h⟩:=obs h
     have f48:=(hk 2 189 rfl).ret r1.fd_ q47 rfl rfl
     obtain⟨s49,q50,h⟩:=obs h
     have f51:=(hk 2 189 rfl).ret r1.from_ q50 rfl rfl
     obtain⟨o52,q53,h⟩:=obs h
     have f54:=(hk 1 103 rfl).ret (([[62,91],s46,[61],s49,[93]]:List Str),b2,l3) q53 rfl rfl
     try simp only[PVE]at f54
     have e55:ecall O [.prn 5 b2 51 9 (List.map Redir.pv l3),V16 r1] 103 [.ref 0 0,.full (List.map PV.str [[62,91],s46,[61],s49,[93]])]=some (retAV [],[.prn 5 o52 51 9 (List.map Redir.pv l3),V16 r1]):=ecall_eq rfl rfl rfl f54 rfl rfl rfl
     try simp only[PVE]at e55
     apply dgk mixed hS [] (ordp hpf (by kernel_rfl))
     ·exact di1 (an pf_189 (an f48 (an f51 (ap0 103 hpf e55))))
     cases h;exact ret fin
    ·refine srg hS [0,3,6,42] di ?_
     refine ifs h (fun hb56 h=>?_) fun hb56 h=>?_
     ·refine seq ?_
      obtain⟨s57,q58,h⟩:=obs h
      have f59:=(hk 2 189 rfl).ret r1.fd_ q58 rfl rfl
      obtain⟨o60,q61,h⟩:=obs h
      have f62:=(hk 1 103 rfl).ret (([[62,91],s57,[61,93]]:List Str),b2,l3) q61 rfl rfl
      try simp only[PVE]at f62
      have e63:ecall O [.prn 5 b2 51 9 (List.map Redir.pv l3),V16 r1] 103 [.ref 0 0,.full (List.map PV.str [[62,91],s57,[61,93]])]=some (retAV [],[.prn 5 o60 51 9 (List.map Redir.pv l3),V16 r1]):=ecall_eq rfl rfl rfl f62 rfl rfl rfl
      try simp only[PVE]at e63
      refine rg hS [] (di1 (an pf_189 (an f59 (ap0 103 hpf e63)))) ?_
      cases h;exact ret fin
     ·refine srg hS [0,3,50] di ?_
      refine ifk h (fun hb64 h=>?_) fun hb64 h=>?_
      ·refine seq ?_
       refine AW.after ?_
       refine weak (Weak.explode 0 rfl) ?_
       refine weak (σ':=⟨sl [(0,.ref 0 0),(3,.ref 1 0),(50,ab (decide (r1.kind_=4)))],77,[.var [.selfp 0,.vec 2 (List.length b2),.vec 3 (List.length l3)],V16 r1,.brow 5 b2,rRe l3]⟩) (Weak.of_eq (Weak.slots (L:=[(0,.ref 0 0),(3,.ref 1 0),(50,ab (decide (r1.kind_=4)))]) ⟨rfl,rfl,rfl,trivial⟩) (by first|rfl|(simp only[List.length_map];rfl))) ?_
       obtain⟨out65,q66,h⟩:=obs h
       have f67:=appO_f q66
       try simp only[LNS,List.length_replicate,Nat.reduceAdd,Nat.reduceLeDiff,Nat.add_zero,Nat.reduceMul]at f67
       have f67m:=appO_m Redir.pv q66
       try simp only[PVE,List.nil_append]at f67m
       have f67n:=appO_n q66
       try simp only[LNS]at f67n
       refine AW.dregB mixed hS [(3,some 1)] rfl (ordB hpf (B:=[(3,some 1)]) (by kernel_rfl)) [(0,.ref 0 0),(3,.ref 1 0)] [.var [.selfp 0,.vec 2 (List.length b2),.vec 3 (List.length out65)],V16 r1,.brow 5 b2,rRe out65] ?_ ?_
       ·exact dk1 (an f67.1 (an f67m f67n))
       clear f67
       clear f67m
       clear f67n
       refine⟨⟨sl [(0,.ref 0 0),(3,.ref 1 0)],77,[.prn 5 b2 51 9 (List.map Redir.pv out65),V16 r1,.moved 5 1 (List.length b2),.moved 51 9 (List.length out65)]⟩,(Weak.trans (Weak.implode (σ:=⟨sl [(0,.ref 0 0),(3,.ref 1 0)],77,[.var [.selfp 0,.vec 2 (List.length b2),.vec 3 (List.length out65)],V16 r1,.brow 5 b2,rRe out65]⟩) 0 2 3 rfl rfl rfl rfl (by first|rfl|simp only[List.length_map])) (Weak.of_eq (σ'':=⟨sl [(0,.ref 0 0),(3,.ref 1 0)],77,[.prn 5 b2 51 9 (List.map Redir.pv out65),V16 r1,.moved 5 1 (List.length b2),.moved 51 9 (List.length out65)]⟩) (Weak.slots (L:=[(0,.ref 0 0),(3,.ref 1 0)]) ⟨rfl,rfl,trivial⟩) (by first|rfl|(simp only[List.length_map];rfl)))),?_⟩
       refine srg hS [0,3,4] di ?_
       refine seqM ⟨sl [(0,.ref 0 0),(3,.ref 1 0),(4,as_ (bif r1.raw_ then[39]else[]))],77,[.prn 5 b2 51 9 (List.map Redir.pv out65),V16 r1,.moved 5 1 (List.length b2),.moved 51 9 (List.length out65)]⟩ ?_ ?_
       ·refine srg hS [0,3,4,63] di ?_
        refine cond (b:=r1.raw_) rfl (fun hb68=>?_) (fun hb68=>?_)
        ·refine rg hS [0,3,4] di ?_
         exact Weak.of_eq (Weak.slots (L:=[(0,.ref 0 0),(3,.ref 1 0),(4,as_ [39])]) kp) (wq hb68)
        ·refine skip ?_
         exact Weak.of_eq (Weak.slots (L:=[(0,.ref 0 0),(3,.ref 1 0),(4,as_ [])]) kp) (wq hb68)
       refine seq ?_
       obtain⟨r69,q70,h⟩:=obs h
       have f71:=(hk 4 109 rfl).ret r1.word_.text_ q70 rfl rfl
       obtain⟨o72,q73,h⟩:=obs h
       have f74:=(hk 1 103 rfl).ret (([[60,60],(bif r1.raw_ then[39]else[]),r69,(bif r1.raw_ then[39]else[])]:List Str),b2,out65) q73 rfl rfl
       try simp only[PVE]at f74
       have e75:ecall O [.prn 5 b2 51 9 (List.map Redir.pv out65),V16 r1,.moved 5 1 (List.length b2),.moved 51 9 (List.length out65)] 103 [.ref 0 0,.full (List.map PV.str [[60,60],(bif r1.raw_ then[39]else[]),r69,(bif r1.raw_ then[39]else[])])]=some (retAV [],[.prn 5 o72 51 9 (List.map Redir.pv out65),V16 r1,.moved 5 1 (List.length b2),.moved 51 9 (List.length out65)]):=ecall_eq rfl rfl rfl f74 rfl rfl rfl
       try simp only[PVE]at e75
       refine rg hS [] (di1 (an pf_109 (an f71 (ap0 103 hpf e75)))) ?_
       cases h;exact ret fin
      ·obtain⟨⟨r76,r77⟩,q78,h⟩:=obs h
       dsimp only at h
       have f79:=(hk 3 152 rfl).ret (r1.word_,b2,l3) q78 rfl rfl
       have e80:ecall O [.prn 5 b2 51 9 (List.map Redir.pv l3),V16 r1] 152 [.ref 0 0,.pv (V20 r1)]=some (retAV [],[.prn 5 r76 51 9 (List.map Redir.pv r77),V16 r1]):=ecall_eq rfl rfl rfl f79 rfl rfl rfl
       refine rg hS [] (di1 (ap0 152 hpf e80)) ?_
       cases h
       exact fin
theorem g_F105{w152:Y2}(c:AllG env [(S103 F103),(S151 (F151 w152))]):GoodH env (S105 (F105 w152)):=by
 obtain⟨O,X,hS,hX,hpf,hk⟩:=orp c
 refine gh fn_105 19 ?_
 rintro⟨l1,b2,l3⟩ (r:Str×(List Redir)) h m em
 refine ghs em ?_;clear em m
 replace h:F105 w152 l1 b2 l3=some r:=h
 rw[F105]at h
 refine srg hS [0,6,7,8] di ?_
 refine block ?_
 refine lp (α:=Nat×Int×Str×(List Redir)) (fun(_,i6,l7,m8)=>⟨sl [(0,.ref 0 0),(6,vRe l1),(7,ai (l1.length:Int)),(8,ai i6)],19,[.prn 5 l7 51 9 (List.map Redir.pv m8)]⟩) (fun x=>iter (F105_b1 l1 w152) x.1 x.2=some r) (fun x=>x.1) (BIG,(0,b2,l3)) (Weak.slots kp) h ?_
 clear h
 intro⟨n25,i6,l7,m8⟩ h
 replace h:=iter_some h;obtain⟨m11,rfl,h⟩:=h
 rw[F105_b1]at h
 try dsimp only at h
 refine AW.st ?_
 refine srg hS [0,6,7,8,9] di ?_
 refine seq ?_
 refine ifs h (fun hb12 h=>?_) fun hb12 h=>?_
 ·refine skip ?_
  refine seq ?_
  refine block ?_
  refine seq ?_
  obtain⟨u13,q14,h⟩:=obs h
  have f15:=lidx_f q14
  refine rg hS [0,5,6,7,8] (di1 (an f15.1 f15.2.1)) ?_
  refine seq ?_
  obtain⟨o16,q17,h⟩:=obs h
  have f18:=(hk 0 103 rfl).ret (([[32]]:List Str),l7,m8) q17 rfl rfl
  try simp only[PVE]at f18
  have e19:ecall O [.prn 5 l7 51 9 (List.map Redir.pv m8),V16 u13] 103 [.ref 0 0,.full (List.map PV.str [[32]])]=some (retAV [],[.prn 5 o16 51 9 (List.map Redir.pv m8),V16 u13]):=ecall_eq rfl rfl rfl f18 rfl rfl rfl
  try simp only[PVE]at e19
  refine rg hS [0,5,6,7,8] (di1 (ap0 103 hpf e19)) ?_
  obtain⟨⟨o20,m21⟩,q22,h⟩:=obs h
  dsimp only at h
  have f23:=(hk 1 151 rfl).ret (u13,o16,m8) q22 rfl rfl
  have e24:ecall O [.prn 5 o16 51 9 (List.map Redir.pv m8),V16 u13] 151 [.ref 0 0,.pv (V11 u13)]=some (retAV [],[.prn 5 o20 51 9 (List.map Redir.pv m21),V16 u13]):=ecall_eq rfl rfl rfl f23 rfl rfl rfl
  refine rg hS [0,6,7,8] (di1 (ap0 151 hpf e24)) ?_
  refine rg hS [0,6,7,8] di ?_
  exact⟨(m11,(IntKind.wrap .i64 (i6+1),o20,m21)),h,(Weak.norm (m:=1) (Nat.le_of_ble_eq_true rfl) kp hq rfl rfl),Nat.lt_succ_self _⟩
 ·refine exit ?_
  cases h
  exact fin
theorem g_F106{w152:Y2}(c:AllG env [(S103 F103),(S152 w152),(S151 (F151 w152)),(S105 (F105 w152))]):GoodH env (S106 (F106 w152)):=by
 obtain⟨O,X,hS,hX,hpf,hk⟩:=orp c
 refine gh fn_106 45 ?_
 rintro⟨c1,b2,l3⟩ (r:Str×(List Redir)) h m em
 refine ghs em ?_;clear em m
 replace h:F106 w152 c1 b2 l3=some r:=h
 rw[F106]at h
 refine srg hS [0,3] di ?_
 refine seq ?_
 refine srg hS [0,3,8,9,10] di ?_
 refine block ?_
 refine lp (α:=Nat×Int×Str×(List Redir)) (fun(_,i6,l7,m8)=>⟨sl [(0,.ref 0 0),(3,.ref 1 0),(8,vWo c1.words_),(9,ai (c1.words_.length:Int)),(10,ai i6)],45,[.prn 5 l7 51 9 (List.map Redir.pv m8),V6 c1]⟩) (fun x=>iter (F106_b1 c1 w152) x.1 x.2=some r) (fun x=>x.1) (BIG,(0,b2,l3)) (Weak.slots kp) h ?_
 clear h
 intro⟨n53,i6,l7,m8⟩ h
 replace h:=iter_some h;obtain⟨m11,rfl,h⟩:=h
 rw[F106_b1]at h
 try dsimp only at h
 refine AW.st ?_
 refine srg hS [0,3,8,9,10,11] di ?_
 refine seq ?_
 refine ifs h (fun hb12 h=>?_) fun hb12 h=>?_
 ·refine skip ?_
  refine seq ?_
  refine block ?_
  refine seq ?_
  obtain⟨u13,q14,h⟩:=obs h
  have f15:=lidx_f q14
  refine rg hS [0,3,4,5,8,9,10] (di1 (an f15.1 f15.2.1)) ?_
  refine seq ?_
  refine srg hS [0,3,5,8,9,10,16] di ?_
  refine ifk h (fun hb16 h=>?_) fun hb16 h=>?_
  ·obtain⟨o17,q18,h⟩:=obs h
   have f19:=(hk 0 103 rfl).ret (([[32]]:List Str),l7,m8) q18 rfl rfl
   try simp only[PVE]at f19
   have e20:ecall O [.prn 5 l7 51 9 (List.map Redir.pv m8),V6 c1,V17 u13] 103 [.ref 0 0,.full (List.map PV.str [[32]])]=some (retAV [],[.prn 5 o17 51 9 (List.map Redir.pv m8),V6 c1,V17 u13]):=ecall_eq rfl rfl rfl f19 rfl rfl rfl
   try simp only[PVE]at e20
   refine rg hS [0,3,5,8,9,10] (di1 (ap0 103 hpf e20)) ?_
   obtain⟨⟨r21,r22⟩,q23,h⟩:=obs h
   dsimp only at h
   have f24:=(hk 1 152 rfl).ret (u13,o17,m8) q23 rfl rfl
   have e25:ecall O [.prn 5 o17 51 9 (List.map Redir.pv m8),V6 c1,V17 u13] 152 [.ref 0 0,.pv (V10 u13)]=some (retAV [],[.prn 5 r21 51 9 (List.map Redir.pv r22),V6 c1,V17 u13]):=ecall_eq rfl rfl rfl f24 rfl rfl rfl
   refine rg hS [0,3,8,9,10] (di1 (ap0 152 hpf e25)) ?_
   refine rg hS [0,3,8,9,10] di ?_
   exact⟨(m11,(IntKind.wrap .i64 (i6+1),r21,r22)),h,(Weak.norm (m:=2) (Nat.le_of_ble_eq_true rfl) kp hq rfl rfl),Nat.lt_succ_self _⟩
  ·obtain⟨⟨r26,r27⟩,q28,h⟩:=obs h
   dsimp only at h
   have f29:=(hk 1 152 rfl).ret (u13,l7,m8) q28 rfl rfl
   have e30:ecall O [.prn 5 l7 51 9 (List.map Redir.pv m8),V6 c1,V17 u13] 152 [.ref 0 0,.pv (V10 u13)]=some (retAV [],[.prn 5 r26 51 9 (List.map Redir.pv r27),V6 c1,V17 u13]):=ecall_eq rfl rfl rfl f29 rfl rfl rfl
   refine rg hS [0,3,8,9,10] (di1 (ap0 152 hpf e30)) ?_
   refine rg hS [0,3,8,9,10] di ?_
   exact⟨(m11,(IntKind.wrap .i64 (i6+1),r26,r27)),h,(Weak.norm (m:=2) (Nat.le_of_ble_eq_true rfl) kp hq rfl rfl),Nat.lt_succ_self _⟩
 ·refine exit ?_
  refine srg hS [0,3,6] di ?_
  refine seq ?_
  refine seq ?_
  refine reg hS [(0,.ref 0 0),(6,vRe c1.redirs_),(34,ab (decide ((c1.words_.length:Int)=0)&&decide (0<(c1.redirs_.length:Int))))] [.prn 5 l7 51 9 (List.map Redir.pv m8),V6 c1] ?_ ?_
  ·clear h hk hS hX c
   exact dh
  refine ifk h (fun hb31 h=>?_) fun hb31 h=>?_
  ·refine seq ?_
   obtain⟨u32,q33,h⟩:=obs h
   have f34:=lidx_f q33
   try simp only[NRM,Int.reduceToNat]at f34
   obtain⟨⟨o35,m36⟩,q37,h⟩:=obs h
   dsimp only at h
   have f38:=(hk 2 151 rfl).ret (u32,l7,m8) q37 rfl rfl
   have e39:ecall O [.prn 5 l7 51 9 (List.map Redir.pv m8),V6 c1] 151 [.ref 0 0,.pv (V11 u32)]=some (retAV [],[.prn 5 o35 51 9 (List.map Redir.pv m36),V6 c1]):=ecall_eq rfl rfl rfl f38 rfl rfl rfl
   refine rg hS [0,6] (di1 (an f34.1 (an f34.2.1 (ap0 151 hpf e39)))) ?_
   obtain⟨l40,q41,h⟩:=obs h
   have f42:=lslicek_f q41
   try simp only[NRM,Int.reduceToNat]at f42
   have f42l:=f42.2.2.1
   have f42m:=lslice_m Redir.pv q41
   try simp only[NRM,Int.reduceToNat]at f42l f42m
   refine rg hS [0,6] (di1 (an f42.1 (an f42.2.1 (an f42l (an f42.2.2.2 f42m))))) ?_
   clear f42 f42l f42m
   obtain⟨⟨o43,m44⟩,q45,h⟩:=obs h
   dsimp only at h
   have f46:=(hk 3 105 rfl).ret (l40,o35,m36) q45 rfl rfl
   have e47:ecall O [.prn 5 o35 51 9 (List.map Redir.pv m36),V6 c1] 105 [.ref 0 0,vRe l40]=some (retAV [],[.prn 5 o43 51 9 (List.map Redir.pv m44),V6 c1]):=ecall_eq rfl rfl rfl f46 rfl rfl rfl
   refine rg hS [] (di1 (ap0 105 hpf e47)) ?_
   cases h
   exact fin
  ·obtain⟨⟨o48,m49⟩,q50,h⟩:=obs h
   dsimp only at h
   have f51:=(hk 3 105 rfl).ret (c1.redirs_,l7,m8) q50 rfl rfl
   have e52:ecall O [.prn 5 l7 51 9 (List.map Redir.pv m8),V6 c1] 105 [.ref 0 0,vRe c1.redirs_]=some (retAV [],[.prn 5 o48 51 9 (List.map Redir.pv m49),V6 c1]):=ecall_eq rfl rfl rfl f51 rfl rfl rfl
   refine rg hS [] (di1 (ap0 105 hpf e52)) ?_
   cases h
   exact fin
end Go.Abs.U48
