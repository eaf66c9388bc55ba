import Derived.Test.YtljahlbklgnfhaaGreatDoorD1
set_option linter.unusedVariables false
set_option linter.unusedSimpArgs false
set_option linter.defProp false
set_option maxRecDepth 8000
set_option maxHeartbeats 4000000
namespace Go.Abs.U48
open Go.RowKit Go.Proofs AW
theorem g_F132(c:AllG env [(S127 F127)]):GoodH env (S132 F132):=by
 obtain⟨O,X,hS,hX,hpf,hk⟩:=orp c
 refine gh fn_132 18 ?_
 rintro⟨symbol1,x2,x3,x4,x5⟩ (r:Bool×Int) h m em
 refine ghs em ?_;clear em m
 replace h:F132 symbol1 x2 x3 x4 x5=some r:=h
 rw[F132]at h
 refine srg hS [0,1] di ?_
 refine seq ?_
 obtain⟨r8,q9,h⟩:=obs h
 have f10:=(hk 0 127 rfl).ret (symbol1,x2,x3,x4,x5) q9 rfl rfl
 have e11:=ecall0 f10 rfl rfl rfl rfl
 refine rg hS [0,5] (di1 (ap0 127 hpf e11)) ?_
 refine seqM ⟨sl [(5,ab r8)],18,[V2 x2 x3 x4 (bif r8 then IntKind.wrap .i64 (x5+1)else x5)]⟩ ?_ ?_
 ·refine srg hS [0,5,9] di ?_
  refine cond (b:=r8) rfl (fun hb12=>?_) (fun hb12=>?_)
  ·refine rg hS [5] di ?_
   exact Weak.of_eq (Weak.slots (L:=[(5,ab r8)]) kp) (wq hb12)
  ·refine skip ?_
   exact Weak.of_eq (Weak.slots (L:=[(5,ab r8)]) kp) (wq hb12)
 refine srg hS [4] di ?_
 cases h;exact ret fin
theorem g_F168(c:AllG env [(S84 F84)]):GoodH env (S168 F168):=by
 obtain⟨O,X,hS,hX,hpf,hk⟩:=orp c
 refine gh fn_168 13 ?_
 rintro⟨x1,x2,x3,x4⟩ (r:Int) h m em
 refine ghs em ?_;clear em m
 replace h:F168 x1 x2 x3 x4=some r:=h
 rw[F168]at h
 refine block ?_
 refine lp (α:=Nat×Int) (fun(_,x6)=>⟨sl [(0,.ref 0 0)],13,[V2 x1 x2 x3 x6]⟩) (fun x=>iter (F168_b1 x1 x2 x3) x.1 x.2=some r) (fun x=>x.1) (BIG,x4) (Weak.slots kp) h ?_
 clear h
 intro⟨n15,x6⟩ h
 replace h:=iter_some h;obtain⟨m9,rfl,h⟩:=h
 rw[F168_b1]at h
 try dsimp only at h
 refine AW.st ?_
 refine seq ?_
 refine seq ?_
 obtain⟨r10,q11,h⟩:=obs h
 have f12:=(hk 0 84 rfl).ret (0,x1,x2,x3,x6) q11 rfl rfl
 have e13:=ecall0 f12 rfl rfl rfl rfl
 refine rg hS [0,5] (di1 (ap0 84 hpf e13)) ?_
 refine ifs h (fun hb14 h=>?_) fun hb14 h=>?_
 ·refine skip ?_
  refine block ?_
  refine rg hS [0] di ?_
  exact⟨(m9,IntKind.wrap .i64 (x6+1)),h,(Weak.norm (m:=1) (Nat.le_of_ble_eq_true rfl) kp hq rfl rfl),Nat.lt_succ_self _⟩
 ·refine exit ?_
  cases h
  exact fin
theorem g_F167{w200:Y0}(c:AllG env [(S200 w200),(S132 F132),(S168 F168)]):GoodH env (S167 (F167 w200)):=by
 obtain⟨O,X,hS,hX,hpf,hk⟩:=orp c
 have pf_200:O.pf 200=false:=pft hpf 200 rfl
 refine gh fn_167 32 ?_
 rintro⟨inCase1,x2,x3,x4,x5⟩ (r:Int ⊕ (Cmd×Int)) h m em
 refine ghs em ?_;clear em m
 replace h:F167 w200 inCase1 x2 x3 x4 x5=some r:=h
 rw[F167]at h
 refine srg hS [0,1,4] di ?_
 refine seq ?_
 rcases bindX_some h with⟨n12,q10,rfl⟩|⟨⟨r8,r9⟩,q10,h⟩
 ·have f13:=(hk 0 200 rfl).boom (inCase1,x2,x3,x4,x5) q10 rfl rfl
  have e14:=xcall0 f13 rfl rfl
  apply regS hS hX 2 rfl
  ·exact dp1 e14
  exact boomR rfl rfl rfl
 dsimp only at h
 have f11:=(hk 0 200 rfl).ret (inCase1,x2,x3,x4,x5) q10 rfl rfl
 have e15:=ecall0 f11 rfl rfl rfl rfl
 refine reg hS [(0,.ref 0 0),(1,ab inCase1),(4,.ref 1 0),(5,.full [V9 r8])] [V2 x2 x3 x4 r9,V4 0 0 []] (dk1 (ap0 200 hpf e15)) ?_
 refine seq ?_
 refine block ?_
 refine AW.lp1 (α:=Nat×Int×(List Cmd)) (fun(_,x16,l17)=>⟨sl [(0,.ref 0 0),(1,ab inCase1),(4,.ref 1 0),(5,.vec 2 (List.length l17))],32,[V2 x2 x3 x4 x16,V4 0 0 [],rCm l17]⟩) (fun x=>iter (F167_b1 x2 x3 x4 w200 inCase1) x.1 x.2=some r) (fun x=>x.1) ?_ ?_
 ·refine seq ?_
  refine seq ?_
  obtain⟨⟨r50,x51⟩,q52,h⟩:=obs h
  dsimp only at h
  have f53:=(hk 1 132 rfl).ret (([124]:Str),x2,x3,x4,r9) q52 rfl rfl
  try simp only[PVE]at f53
  have e54:=ecall0 f53 rfl rfl rfl rfl
  refine rg hS [0,1,4,5,11] (di1 (ap0 132 hpf e54)) ?_
  refine ifs h (fun hb55 h=>?_) fun hb55 h=>?_
  ·refine skip ?_
   refine block ?_
   refine seq ?_
   obtain⟨x56,q57,h⟩:=obs h
   have f58:=(hk 2 168 rfl).ret (x2,x3,x4,x51) q57 rfl rfl
   have e59:=ecall0 f58 rfl rfl rfl rfl
   refine rg hS [0,1,4,5] (di1 (ap0 168 hpf e59)) ?_
   rcases bindX_some h with⟨n64,q62,rfl⟩|⟨⟨r60,r61⟩,q62,h⟩
   ·have f65:=(hk 0 200 rfl).boom (inCase1,x2,x3,x4,x56) q62 rfl rfl
    have e66:=xcall0 f65 rfl rfl
    apply regS hS hX 3 rfl
    ·exact dp1 e66
    exact boomR rfl rfl rfl
   dsimp only at h
   have f63:=(hk 0 200 rfl).ret (inCase1,x2,x3,x4,x56) q62 rfl rfl
   have e67:=ecall0 f63 rfl rfl rfl rfl
   obtain⟨out68,q69,h⟩:=obs h
   have f70:=appO_f q69
   try simp only[LNS,List.length_replicate,Nat.reduceAdd,Nat.reduceLeDiff,Nat.add_zero,Nat.reduceMul]at f70
   have f70m:=appO_m Cmd.pv q69
   try simp only[PVE,List.nil_append]at f70m
   have f70n:=appO_n q69
   try simp only[LNS]at f70n
   refine reg hS [(0,.ref 0 0),(1,ab inCase1),(4,.ref 1 0),(5,.vec 2 (List.length out68))] [V2 x2 x3 x4 r61,V4 0 0 [],rCm out68] (dk1 (an pf_200 (an e67 (an f70.1 (an f70m f70n))))) ?_
   clear f70
   clear f70m
   clear f70n
   exact⟨(BIG,(r61,out68)),h,(Weak.norm (m:=3) (Nat.le_of_ble_eq_true rfl) kp hq rfl rfl)⟩
  ·refine exit ?_
   refine seq ?_
   refine srg hS [4,5,22] di ?_
   refine ifk h (fun hb71 h=>?_) fun hb71 h=>?_
   ·refine srg hS [4] di ?_
    cases h;exact ret fin
   ·refine srg hS [4] di ?_
    cases h;exact ret fin
 clear h
 intro⟨n49,x16,l17⟩ h
 replace h:=iter_some h;obtain⟨m20,rfl,h⟩:=h
 rw[F167_b1]at h
 try dsimp only at h
 refine AW.st ?_
 refine seq ?_
 refine seq ?_
 obtain⟨⟨r21,x22⟩,q23,h⟩:=obs h
 dsimp only at h
 have f24:=(hk 1 132 rfl).ret (([124]:Str),x2,x3,x4,x16) q23 rfl rfl
 try simp only[PVE]at f24
 have e25:=ecall0 f24 rfl rfl rfl rfl
 refine rg hS [0,1,4,5,11] (di1 (ap0 132 hpf e25)) ?_
 refine ifs h (fun hb26 h=>?_) fun hb26 h=>?_
 ·refine skip ?_
  refine block ?_
  refine seq ?_
  obtain⟨x27,q28,h⟩:=obs h
  have f29:=(hk 2 168 rfl).ret (x2,x3,x4,x22) q28 rfl rfl
  have e30:=ecall0 f29 rfl rfl rfl rfl
  refine rg hS [0,1,4,5] (di1 (ap0 168 hpf e30)) ?_
  rcases bindX_some h with⟨n35,q33,rfl⟩|⟨⟨r31,r32⟩,q33,h⟩
  ·have f36:=(hk 0 200 rfl).boom (inCase1,x2,x3,x4,x27) q33 rfl rfl
   have e37:=xcall0 f36 rfl rfl
   apply regS hS hX 3 rfl
   ·exact dp1 e37
   exact boomR rfl rfl rfl
  dsimp only at h
  have f34:=(hk 0 200 rfl).ret (inCase1,x2,x3,x4,x27) q33 rfl rfl
  have e38:=ecall0 f34 rfl rfl rfl rfl
  obtain⟨out39,q40,h⟩:=obs h
  have f41:=appO_f q40
  try simp only[LNS,List.length_replicate,Nat.reduceAdd,Nat.reduceLeDiff,Nat.add_zero,Nat.reduceMul]at f41
  have f41m:=appO_m Cmd.pv q40
  try simp only[PVE,List.nil_append]at f41m
  have f41n:=appO_n q40
  try simp only[LNS]at f41n
  refine reg hS [(0,.ref 0 0),(1,ab inCase1),(4,.ref 1 0),(5,.vec 2 (List.length out39))] [V2 x2 x3 x4 r32,V4 0 0 [],rCm out39] (dk1 (an pf_200 (an e38 (an f41.1 (an f41m f41n))))) ?_
  clear f41
  clear f41m
  clear f41n
  exact⟨(m20,(r32,out39)),h,(Weak.norm (m:=3) (Nat.le_of_ble_eq_true rfl) kp hq rfl rfl),Nat.lt_succ_self _⟩
 ·refine exit ?_
  refine seq ?_
  refine srg hS [4,5,22] di ?_
  refine ifk h (fun hb42 h=>?_) fun hb42 h=>?_
  ·refine seq ?_
   obtain⟨u43,q44,h⟩:=obs h
   have f45:=lidx_f q44
   try simp only[NRM,Int.reduceToNat]at f45
   refine rg hS [4] (di1 (an f45.1 (an f45.2.1 f45.2.2))) ?_
   cases h;exact ret fin
  ·refine seq ?_
   obtain⟨u46,q47,h⟩:=obs h
   have f48:=lidx_f q47
   try simp only[NRM,Int.reduceToNat]at f48
   refine rg hS [4] (di1 (an f48.1 (an f48.2.1 f48.2.2))) ?_
   cases h;exact ret fin
theorem g_F131{w200:Y0}(c:AllG env [(S167 (F167 w200)),(S132 F132),(S168 F168)]):GoodH env (S131 (F131 w200)):=by
 obtain⟨O,X,hS,hX,hpf,hk⟩:=orp c
 refine gh fn_131 28 ?_
 rintro⟨inCase1,x2,x3,x4,x5⟩ (r:Int ⊕ (Cmd×Int)) h m em
 refine ghs em ?_;clear em m
 replace h:F131 w200 inCase1 x2 x3 x4 x5=some r:=h
 rw[F131]at h
 refine srg hS [0,1,4] di ?_
 refine seq ?_
 rcases bindX_some h with⟨n12,q10,rfl⟩|⟨⟨r8,x9⟩,q10,h⟩
 ·have f13:=(hk 0 167 rfl).boom (inCase1,x2,x3,x4,x5) q10 rfl rfl
  have e14:=xcall0 f13 rfl rfl
  apply regS hS hX 2 rfl
  ·exact dp1 e14
  exact boomR rfl rfl rfl
 dsimp only at h
 have f11:=(hk 0 167 rfl).ret (inCase1,x2,x3,x4,x5) q10 rfl rfl
 have e15:=ecall0 f11 rfl rfl rfl rfl
 refine rg hS [0,1,4,5] (di1 (ap0 167 hpf e15)) ?_
 refine block ?_
 refine lp (α:=Nat×Int×Int×Str×(List Word)×(List Redir)×(List Cmd)) (fun(_,x16,x17,x18,x19,x20,x21)=>⟨sl [(0,.ref 0 0),(1,ab inCase1),(4,.ref 1 0),(5,.ref 2 0)],28,[V2 x2 x3 x4 x16,V4 0 0 [],V5 x17 r8.at_ x18 x19 x20 x21]⟩) (fun x=>iter (F131_b2 x2 x3 x4 w200 inCase1 r8) x.1 x.2=some r) (fun x=>x.1) (BIG,(x9,r8.kind_,r8.name_,r8.words_,r8.redirs_,r8.kids_)) (Weak.slots kp) h ?_
 clear h
 intro⟨n51,x16,x17,x18,x19,x20,x21⟩ h
 replace h:=iter_some h;obtain⟨m24,rfl,h⟩:=h
 rw[F131_b2]at h
 try dsimp only at h
 refine AW.st ?_
 refine block ?_
 refine srg hS [0,1,4,5] di ?_
 refine seqJ (α:=Int×Int) (fun(kind25,x26)=>⟨sl [(0,.ref 0 0),(1,ab inCase1),(4,.ref 1 0),(5,.ref 2 0),(6,ai kind25)],28,[V2 x2 x3 x4 x26,V4 0 0 [],V5 x17 r8.at_ x18 x19 x20 x21]⟩) (fun x=>F131_j3 x2 x3 x4 w200 inCase1 (iter (F131_b2 x2 x3 x4 w200 inCase1 r8) m24) x17 r8 x18 x19 x20 x21 x=some r) ?_ ?_
 ·intro⟨kind25,x26⟩ h
  rw[F131_j3]at h
  try dsimp only at h
  refine AW.st ?_
  refine seq ?_
  obtain⟨x27,q28,h⟩:=obs h
  have f29:=(hk 2 168 rfl).ret (x2,x3,x4,x26) q28 rfl rfl
  have e30:=ecall0 f29 rfl rfl rfl rfl
  refine rg hS [0,1,4,5,6] (di1 (ap0 168 hpf e30)) ?_
  rcases bindX_some h with⟨n35,q33,rfl⟩|⟨⟨r31,x32⟩,q33,h⟩
  ·have f36:=(hk 0 167 rfl).boom (inCase1,x2,x3,x4,x27) q33 rfl rfl
   have e37:=xcall0 f36 rfl rfl
   refine dregS mixed hS hX 6 [0,1,2,3,4,5] [ai kind25,.ref 2 1,ai r8.at_,.pv (PV.agg [.int .i64 x17,.int .i64 r8.at_,.str x18,.slice (List.map Word.pv x19),.slice (List.map Redir.pv x20),.slice (List.map Cmd.pv x21)]),.ref 0 0,ab inCase1,.any,.any,.any,.any] [(19,ai kind25),(20,.ref 2 1),(21,ai r8.at_),(22,.pv (PV.agg [.int .i64 x17,.int .i64 r8.at_,.str x18,.slice (List.map Word.pv x19),.slice (List.map Redir.pv x20),.slice (List.map Cmd.pv x21)])),(23,.ref 0 0),(24,ab inCase1),(25,.any),(26,.any),(27,.any),(0,.ref 0 0),(1,ab inCase1),(4,.ref 1 0),(5,.ref 2 0),(6,ai kind25)] rfl (by kernel_rfl) rfl (H':=[.gone,V4 0 0 [],V5 x17 r8.at_ x18 x19 x20 x21]) ?_ ?_ (boomR rfl rfl rfl)
   ·repeat'(first|exact Facts.nil|refine Facts.cons rfl rfl rfl ?_ ?_)
    all_goals exact dv
   ·exact Stops.call rfl rfl (by simp -implicitDefEqProofs only[RUNS,qindex,Nat.reduceAdd,Nat.reduceLeDiff,Nat.reduceSub,reduceIte,Nat.reduceEqDiff,Nat.reduceLT,reduceCtorEq,Nat.reduceMul,Nat.reduceBEq,Int.reduceEq,Int.reduceToNat,Int.toNat_zero,Nat.sub_zero,if_true,if_false,eq_self,ne_eq,TYS,e37]<;>rfl)
  dsimp only at h
  have f34:=(hk 0 167 rfl).ret (inCase1,x2,x3,x4,x27) q33 rfl rfl
  have e38:=ecall0 f34 rfl rfl rfl rfl
  refine dregV mixed hS [6,9] [(0,0),(0,1),(1,0),(1,1),(2,0),(2,1),(3,0),(3,1),(4,0),(5,0),(6,0),(7,1),(8,1),(9,1)] [ai kind25,.ref 2 1,ai r8.at_,.pv (PV.agg [.int .i64 x17,.int .i64 r8.at_,.str x18,.slice (List.map Word.pv x19),.slice (List.map Redir.pv x20),.slice (List.map Cmd.pv x21)]),.ref 0 0,ab inCase1,.pv (V9 r31),.full (List.map Cmd.pv [Cmd.mk x17 r8.at_ x18 x19 x20 x21,r31]),.agg [ai kind25,ai r8.at_,as_ [],.nils,.nils,.full (List.map Cmd.pv [Cmd.mk x17 r8.at_ x18 x19 x20 x21,r31])],.any] [[V2 x2 x3 x4 x27,V4 0 0 [],V5 x17 r8.at_ x18 x19 x20 x21],[V2 x2 x3 x4 x32,V4 0 0 [],V5 x17 r8.at_ x18 x19 x20 x21],[V2 x2 x3 x4 x32,V4 0 0 [],.var [ai kind25,ai r8.at_,as_ [],.nils,.nils,.full (List.map Cmd.pv [Cmd.mk x17 r8.at_ x18 x19 x20 x21,r31])]]] [(19,ai kind25),(20,.ref 2 1),(21,ai r8.at_),(22,.pv (PV.agg [.int .i64 x17,.int .i64 r8.at_,.str x18,.slice (List.map Word.pv x19),.slice (List.map Redir.pv x20),.slice (List.map Cmd.pv x21)])),(23,.ref 0 0),(24,ab inCase1),(25,.pv (V9 r31)),(26,.full (List.map Cmd.pv [Cmd.mk x17 r8.at_ x18 x19 x20 x21,r31])),(27,.agg [ai kind25,ai r8.at_,as_ [],.nils,.nils,.full (List.map Cmd.pv [Cmd.mk x17 r8.at_ x18 x19 x20 x21,r31])]),(0,.ref 0 0),(1,ab inCase1),(4,.ref 1 0),(5,.ref 2 0),(6,ai kind25)] (by kernel_rfl) (by kernel_rfl) (by kernel_rfl) ?_ [(0,.ref 0 0),(1,ab inCase1),(4,.ref 1 0),(5,.ref 2 0)] [V2 x2 x3 x4 x32,V4 0 0 [],.var [ai kind25,ai r8.at_,as_ [],.nils,.nils,.full (List.map Cmd.pv [Cmd.mk x17 r8.at_ x18 x19 x20 x21,r31])]] ⟨rfl,rfl,rfl,rfl,trivial⟩ rfl ?_
  ·repeat'(first|exact Facts.nil|refine Facts.cons rfl rfl rfl ?_ ?_)
   all_goals exact dv1 (ap0 167 hpf e38)
  exact⟨(m24,(x32,kind25,[],([]:List Word),([]:List Redir),[Cmd.mk x17 r8.at_ x18 x19 x20 x21,r31])),h,(Weak.trans (Weak.cellPV (σ:=⟨sl [(0,.ref 0 0),(1,ab inCase1),(4,.ref 1 0),(5,.ref 2 0)],28,[V2 x2 x3 x4 x32,V4 0 0 [],.var [ai kind25,ai r8.at_,as_ [],.nils,.nils,.full (List.map Cmd.pv [Cmd.mk x17 r8.at_ x18 x19 x20 x21,r31])]]⟩) 2 3 (cs:=[ai kind25,ai r8.at_,as_ [],.nils,.nils,.full (List.map Cmd.pv [Cmd.mk x17 r8.at_ x18 x19 x20 x21,r31])]) (a:=.nils) (p:=.slice (List.map Word.pv ([]:List Word))) rfl rfl (by first|rfl|simp only[toPV,List.getElem?_cons_zero,List.getElem?_cons_succ,List.length_map,if_true,List.map_nil,List.map_cons,P23_eq,Word.pv_eq,P33_eq,Redir.pv_eq,P34_eq,Cmd.pv_eq,Token.pv_eq,Shape.pv_eq])) (Weak.trans (Weak.of_eq (σ':=⟨sl [(0,.ref 0 0),(1,ab inCase1),(4,.ref 1 0),(5,.ref 2 0)],28,[V2 x2 x3 x4 x32,V4 0 0 [],.var [ai kind25,ai r8.at_,as_ [],vWo ([]:List Word),.nils,.full (List.map Cmd.pv [Cmd.mk x17 r8.at_ x18 x19 x20 x21,r31])]]⟩) (Weak.slots (L:=[(0,.ref 0 0),(1,ab inCase1),(4,.ref 1 0),(5,.ref 2 0)]) kp) (by first|rfl|(simp only[List.length_set,List.length_map];rfl))) (Weak.trans (Weak.cellPV (σ:=⟨sl [(0,.ref 0 0),(1,ab inCase1),(4,.ref 1 0),(5,.ref 2 0)],28,[V2 x2 x3 x4 x32,V4 0 0 [],.var [ai kind25,ai r8.at_,as_ [],vWo ([]:List Word),.nils,.full (List.map Cmd.pv [Cmd.mk x17 r8.at_ x18 x19 x20 x21,r31])]]⟩) 2 4 (cs:=[ai kind25,ai r8.at_,as_ [],vWo ([]:List Word),.nils,.full (List.map Cmd.pv [Cmd.mk x17 r8.at_ x18 x19 x20 x21,r31])]) (a:=.nils) (p:=.slice (List.map Redir.pv ([]:List Redir))) rfl rfl (by first|rfl|simp only[toPV,List.getElem?_cons_zero,List.getElem?_cons_succ,List.length_map,if_true,List.map_nil,List.map_cons,P23_eq,Word.pv_eq,P33_eq,Redir.pv_eq,P34_eq,Cmd.pv_eq,Token.pv_eq,Shape.pv_eq])) (Weak.trans (Weak.of_eq (σ':=⟨sl [(0,.ref 0 0),(1,ab inCase1),(4,.ref 1 0),(5,.ref 2 0)],28,[V2 x2 x3 x4 x32,V4 0 0 [],.var [ai kind25,ai r8.at_,as_ [],vWo ([]:List Word),vRe ([]:List Redir),.full (List.map Cmd.pv [Cmd.mk x17 r8.at_ x18 x19 x20 x21,r31])]]⟩) (Weak.slots (L:=[(0,.ref 0 0),(1,ab inCase1),(4,.ref 1 0),(5,.ref 2 0)]) kp) (by first|rfl|(simp only[List.length_set,List.length_map];rfl))) (Weak.trans (Weak.cellPV (σ:=⟨sl [(0,.ref 0 0),(1,ab inCase1),(4,.ref 1 0),(5,.ref 2 0)],28,[V2 x2 x3 x4 x32,V4 0 0 [],.var [ai kind25,ai r8.at_,as_ [],vWo ([]:List Word),vRe ([]:List Redir),.full (List.map Cmd.pv [Cmd.mk x17 r8.at_ x18 x19 x20 x21,r31])]]⟩) 2 5 (cs:=[ai kind25,ai r8.at_,as_ [],vWo ([]:List Word),vRe ([]:List Redir),.full (List.map Cmd.pv [Cmd.mk x17 r8.at_ x18 x19 x20 x21,r31])]) (a:=.full (List.map Cmd.pv [Cmd.mk x17 r8.at_ x18 x19 x20 x21,r31])) (p:=.slice (List.map Cmd.pv [Cmd.mk x17 r8.at_ x18 x19 x20 x21,r31])) rfl rfl (by first|rfl|simp only[toPV,List.getElem?_cons_zero,List.getElem?_cons_succ,List.length_map,if_true,List.map_nil,List.map_cons,P23_eq,Word.pv_eq,P33_eq,Redir.pv_eq,P34_eq,Cmd.pv_eq,Token.pv_eq,Shape.pv_eq])) (Weak.trans (Weak.of_eq (σ':=⟨sl [(0,.ref 0 0),(1,ab inCase1),(4,.ref 1 0),(5,.ref 2 0)],28,[V2 x2 x3 x4 x32,V4 0 0 [],V5 kind25 r8.at_ [] ([]:List Word) ([]:List Redir) [Cmd.mk x17 r8.at_ x18 x19 x20 x21,r31]]⟩) (Weak.slots (L:=[(0,.ref 0 0),(1,ab inCase1),(4,.ref 1 0),(5,.ref 2 0)]) kp) (by first|rfl|(simp only[List.length_set,List.length_map];rfl))) (Weak.norm (m:=3) (Nat.le_of_ble_eq_true rfl) kp hq rfl rfl))))))),Nat.lt_succ_self _⟩
 refine block ?_
 refine seq ?_
 obtain⟨⟨r39,x40⟩,q41,h⟩:=obs h
 dsimp only at h
 have f42:=(hk 1 132 rfl).ret (([38,38]:Str),x2,x3,x4,x16) q41 rfl rfl
 try simp only[PVE]at f42
 have e43:=ecall0 f42 rfl rfl rfl rfl
 refine rg hS [0,1,4,5,11] (di1 (ap0 132 hpf e43)) ?_
 refine ifs h (fun hb44 h=>?_) fun hb44 h=>?_
 ·refine rg hS [0,1,4,5,6] di ?_
  exact⟨(5,x40),h,(Weak.norm (m:=3) (Nat.le_of_ble_eq_true rfl) kp hq rfl rfl)⟩
 ·refine seq ?_
  obtain⟨⟨r45,x46⟩,q47,h⟩:=obs h
  dsimp only at h
  have f48:=(hk 1 132 rfl).ret (([124,124]:Str),x2,x3,x4,x40) q47 rfl rfl
  try simp only[PVE]at f48
  have e49:=ecall0 f48 rfl rfl rfl rfl
  refine rg hS [0,1,4,5,14] (di1 (ap0 132 hpf e49)) ?_
  refine ifs h (fun hb50 h=>?_) fun hb50 h=>?_
  ·refine rg hS [0,1,4,5,6] di ?_
   exact⟨(6,x46),h,(Weak.norm (m:=3) (Nat.le_of_ble_eq_true rfl) kp hq rfl rfl)⟩
  ·refine srg hS [4] di ?_
   cases h;exact ret fin
theorem g_F82{w200:Y0}(c:AllG env [(S131 (F131 w200)),(S132 F132)]):GoodH env (S82 (F82 w200)):=by
 obtain⟨O,X,hS,hX,hpf,hk⟩:=orp c
 refine gh fn_82 17 ?_
 rintro⟨inCase1,x2,x3,x4,x5⟩ (r:Int ⊕ (Cmd×Int)) h m em
 refine ghs em ?_;clear em m
 replace h:F82 w200 inCase1 x2 x3 x4 x5=some r:=h
 rw[F82]at h
 refine srg hS [0,1,4] di ?_
 refine seq ?_
 rcases bindX_some h with⟨n12,q10,rfl⟩|⟨⟨r8,x9⟩,q10,h⟩
 ·have f13:=(hk 0 131 rfl).boom (inCase1,x2,x3,x4,x5) q10 rfl rfl
  have e14:=xcall0 f13 rfl rfl
  apply regS hS hX 2 rfl
  ·exact dp1 e14
  exact boomR rfl rfl rfl
 dsimp only at h
 have f11:=(hk 0 131 rfl).ret (inCase1,x2,x3,x4,x5) q10 rfl rfl
 have e15:=ecall0 f11 rfl rfl rfl rfl
 refine rg hS [0,4,5] (di1 (ap0 131 hpf e15)) ?_
 refine seq ?_
 refine seq ?_
 obtain⟨⟨r16,x17⟩,q18,h⟩:=obs h
 dsimp only at h
 have f19:=(hk 1 132 rfl).ret (([38]:Str),x2,x3,x4,x9) q18 rfl rfl
 try simp only[PVE]at f19
 have e20:=ecall0 f19 rfl rfl rfl rfl
 refine rg hS [4,5,10] (di1 (ap0 132 hpf e20)) ?_
 refine ifk h (fun hb21 h=>?_) fun hb21 h=>?_
 ·refine seq ?_
  refine reg hS [(4,.ref 1 0)] [V2 x2 x3 x4 x17,.var [ai 14,ai r8.at_,as_ [],.nils,.nils,.full [V9 r8]],V6 r8] dk ?_
  cases h;exact ret fin
 ·refine srg hS [4] di ?_
  cases h;exact ret fin
theorem g_F48(c:AllG env []):GoodH env (S48 F48):=by
 obtain⟨O,X,hS,hX,hpf,hk⟩:=orp c
 refine gh fn_48 30 ?_
 rintro⟨x1,x2,x3,x4⟩ (r:Int ⊕ Unit) h m em
 refine ghs em ?_;clear em m
 replace h:F48 x1 x2 x3 x4=some r:=h
 rw[F48]at h
 refine seq ?_
 refine seq ?_
 apply dgk mixed hS [0,11] (ordp hpf (by kernel_rfl))
 ·exact di
 refine ifk h (fun hb5 h=>?_) fun hb5 h=>?_
 ·obtain⟨u6,q7,h⟩:=obs h
  have f8:=lidx_f q7
  cases h
  refine dregS mixed hS hX 12 [0,1,2,3,4,5,6,7,8,9,10,11] [.ref 0 0,.ref 0 0,.ref 0 1,vTo x2,.ref 0 0,.ref 0 0,.ref 0 3,ai x4,.pptr [.int .i64 u6.kind_,.int .i64 u6.at_,.str u6.text_,.str u6.quoted_],.pptr [.int .i64 u6.at_,.str u6.text_,.str u6.quoted_],ai u6.at_,.ifc 73 (.int .i64 u6.at_),.any] [(12,.ref 0 0),(13,.ref 0 0),(14,.ref 0 1),(15,vTo x2),(16,.ref 0 0),(17,.ref 0 0),(18,.ref 0 3),(19,ai x4),(20,.pptr [.int .i64 u6.kind_,.int .i64 u6.at_,.str u6.text_,.str u6.quoted_]),(21,.pptr [.int .i64 u6.at_,.str u6.text_,.str u6.quoted_]),(22,ai u6.at_),(23,.ifc 73 (.int .i64 u6.at_)),(0,.ref 0 0),(11,ab (decide (x4<(x2.length:Int))))] rfl (by kernel_rfl) rfl (H':=[V2 x1 x2 x3 x4]) ?_ ?_ (boomR rfl rfl rfl)
  ·repeat'(first|exact Facts.nil|refine Facts.cons rfl rfl rfl ?_ ?_)
   all_goals exact dv1 (an f8.1 f8.2.1)
  ·exact Stops.panic rfl rfl rfl
 ·cases h
  apply regS hS hX 6 rfl
  ·exact dp
  exact boomR rfl rfl rfl
theorem g_F47{w200:Y0}(c:AllG env [(S80 F80),(S81 F81),(S82 (F82 w200)),(S84 F84),(S83 F83),(S48 F48)]):GoodH env (S47 (F47 w200)):=by
 obtain⟨O,X,hS,hX,hpf,hk⟩:=orp c
 have pf_84:O.pf 84=false:=pft hpf 84 rfl
 refine gh fn_47 36 ?_
 rintro⟨inCase1,x2,x3,x4,x5⟩ (r:Int ⊕ ((List Cmd)×Int)) h m em
 refine ghs em ?_;clear em m
 replace h:F47 w200 inCase1 x2 x3 x4 x5=some r:=h
 rw[F47]at h
 refine srg hS [0,1] di ?_
 refine seq ?_
 refine reg hS [(0,.ref 0 0),(1,ab inCase1),(5,.nils)] [V2 x2 x3 x4 x5] dk ?_
 refine weak (Weak.own 5 36 6 (by decide) rfl) ?_
 refine weak (Weak.slots (L:=[(0,.ref 0 0),(1,ab inCase1),(5,.vec 1 (List.length ([]:List Cmd)))]) ⟨rfl,rfl,rfl,trivial⟩) ?_
 refine seq ?_
 obtain⟨⟨r8,x9⟩,q10,h⟩:=obs h
 dsimp only at h
 have f11:=(hk 0 80 rfl).ret (x2,x3,x4,x5) q10 rfl rfl
 have e12:=ecall0 f11 rfl rfl rfl rfl
 refine rg hS [0,1,5] (di1 (ap0 80 hpf e12)) ?_
 refine seq ?_
 refine block ?_
 refine lp (α:=Nat×Int×(List Cmd)) (fun(_,x13,l14)=>⟨sl [(0,.ref 0 0),(1,ab inCase1),(5,.vec 1 (List.length l14))],36,[V2 x2 x3 x4 x13,rCm l14]⟩) (fun x=>iter (F47_b1 inCase1 x2 x3 x4 w200) x.1 x.2=some r) (fun x=>x.1) (BIG,(x9,([]:List Cmd))) (Weak.slots kp) h ?_
 clear h
 intro⟨n54,x13,l14⟩ h
 replace h:=iter_some h;obtain⟨m17,rfl,h⟩:=h
 rw[F47_b1]at h
 try dsimp only at h
 refine AW.st ?_
 refine seq ?_
 refine seq ?_
 obtain⟨r18,q19,h⟩:=obs h
 have f20:=(hk 1 81 rfl).ret (inCase1,x2,x3,x4,x13) q19 rfl rfl
 have e21:=ecall0 f20 rfl rfl rfl rfl
 refine rg hS [0,1,5,11] (di1 (ap0 81 hpf e21)) ?_
 refine ifs h (fun hb22 h=>?_) fun hb22 h=>?_
 ·refine skip ?_
  refine block ?_
  refine seq ?_
  rcases bindX_some h with⟨n27,q25,rfl⟩|⟨⟨r23,x24⟩,q25,h⟩
  ·have f28:=(hk 2 82 rfl).boom (inCase1,x2,x3,x4,x13) q25 rfl rfl
   have e29:=xcall0 f28 rfl rfl
   apply regS hS hX 2 rfl
   ·exact dp1 e29
   exact boomR rfl rfl rfl
  dsimp only at h
  have f26:=(hk 2 82 rfl).ret (inCase1,x2,x3,x4,x13) q25 rfl rfl
  have e30:=ecall0 f26 rfl rfl rfl rfl
  refine rg hS [0,1,5,6] (di1 (ap0 82 hpf e30)) ?_
  refine seq ?_
  obtain⟨out31,q32,h⟩:=obs h
  have f33:=appO_f q32
  try simp only[LNS,List.length_replicate,Nat.reduceAdd,Nat.reduceLeDiff,Nat.add_zero,Nat.reduceMul]at f33
  have f33m:=appO_m Cmd.pv q32
  try simp only[PVE,List.nil_append]at f33m
  have f33n:=appO_n q32
  try simp only[LNS]at f33n
  refine reg hS [(0,.ref 0 0),(1,ab inCase1),(5,.vec 1 (List.length out31)),(6,.ref 2 0)] [V2 x2 x3 x4 x24,rCm out31,V6 r23] (dk1 (an f33.1 (an f33m f33n))) ?_
  clear f33
  clear f33m
  clear f33n
  refine seq ?_
  refine seq ?_
  obtain⟨⟨r34,x35⟩,q36,h⟩:=obs h
  dsimp only at h
  have f37:=(hk 0 80 rfl).ret (x2,x3,x4,x24) q36 rfl rfl
  have e38:=ecall0 f37 rfl rfl rfl rfl
  refine reg hS [(0,.ref 0 0),(1,ab inCase1),(5,.vec 1 (List.length out31)),(25,ab (r34||decide (r23.kind_=14)))] [V2 x2 x3 x4 x35,rCm out31,V6 r23] ?_ ?_
  ·clear h hk hS hX c
   exact dh1 (ap0 80 hpf e38)
  refine ifk h (fun hb39 h=>?_) fun hb39 h=>?_
  ·refine exit ?_
   exact⟨(m17,(x35,out31)),h,(Weak.norm (m:=2) (Nat.le_of_ble_eq_true rfl) kp hq rfl rfl),Nat.lt_succ_self _⟩
  ·refine seq ?_
   refine seq ?_
   refine AW.cases (inCase1) (fun hsp19=>?_) (fun hsp19=>?_)
   ·replace h:=bif_t hsp19 h
    obtain⟨r40,q41,h⟩:=obs h
    have f42:=(hk 3 84 rfl).ret (0,x2,x3,x4,x35) q41 rfl rfl
    have e43:=ecall0 f42 rfl rfl rfl rfl
    obtain⟨r44,q45,h⟩:=obs h
    have f46:=(hk 4 83 rfl).ret r40 q45 rfl rfl
    refine reg hS [(0,.ref 0 0),(5,.vec 1 (List.length out31)),(32,ab (decide (r44=[99,97,115,101])))] [V2 x2 x3 x4 x35,rCm out31,V6 r23] (dk1 (an hsp19 (an pf_84 (an e43 (ap1 83 hpf f46))))) ?_
    refine ifk h (fun hb47 h=>?_) fun hb47 h=>?_
    ·rcases bindX_some h with⟨n50,q48,rfl⟩|⟨_,q48,h⟩
     ·have f51:=(hk 5 48 rfl).boom (x2,x3,x4,x35) q48 rfl rfl
      have e52:=xcall0 f51 rfl rfl
      apply regS hS hX 1 rfl
      ·exact dp1 e52
      exact boomR rfl rfl rfl
     have f49:=(hk 5 48 rfl).ret (x2,x3,x4,x35) q48 rfl rfl
     have e53:=ecall0 f49 rfl rfl rfl rfl
     refine rg hS [5] (di1 (ap0 48 hpf e53)) ?_
     refine exit ?_
     refine srg hS [4] di ?_
     cases h;exact ret fin
    ·refine exit ?_
     refine srg hS [4] di ?_
     cases h;exact ret fin
   ·replace h:=bif_f hsp19 h
    refine reg hS [(0,.ref 0 0),(5,.vec 1 (List.length out31)),(32,ab false)] [V2 x2 x3 x4 x35,rCm out31,V6 r23] (dk1 hsp19) ?_
    refine cond (b:=false) rfl (fun hb=>absurd hb (by decide)) (fun _=>?_)
    refine skip ?_
    refine exit ?_
    refine srg hS [4] di ?_
    cases h;exact ret fin
 ·refine exit ?_
  refine srg hS [4] di ?_
  cases h;exact ret fin
theorem g_F144(c:AllG env []):GoodH env (S144 F144):=by
 obtain⟨O,X,hS,hX,hpf,hk⟩:=orp c
 refine gh fn_144 46 ?_
 rintro(s1:Str) (r:Bool) h m em
 refine ghs em ?_;clear em m
 replace h:F144 s1=some r:=h
 rw[F144]at h
 refine srg hS [0] di ?_
 refine seq ?_
 refine srg hS [0,6,7] di ?_
 refine block ?_
 refine lp (α:=Nat×Int) (fun(_,i3)=>⟨sl [(0,as_ s1),(6,ai (s1.length:Int)),(7,ai i3)],46,[]⟩) (fun x=>iter (F144_b1 s1) x.1 x.2=some r) (fun x=>x.1) (BIG,0) (Weak.slots kp) h ?_
 clear h
 intro⟨n12,i3⟩ h
 replace h:=iter_some h;obtain⟨m6,rfl,h⟩:=h
 rw[F144_b1]at h
 try dsimp only at h
 refine AW.st ?_
 refine srg hS [0,6,7,8] di ?_
 refine seq ?_
 refine ifs h (fun hb7 h=>?_) fun hb7 h=>?_
 ·refine skip ?_
  refine seq ?_
  refine block ?_
  refine srg hS [0,3,6,7] di ?_
  refine seq ?_
  obtain⟨c8,q9,h⟩:=obs h
  have f10:=sidx_f q9
  refine rg hS [0,4,6,7] (di1 (an f10.1 (an f10.2.1 f10.2.2))) ?_
  refine seq ?_
  refine reg hS [(0,as_ s1),(6,ai (s1.length:Int)),(7,ai i3),(42,ab (((((decide (c8<97)||decide (122<c8))&&(decide (c8<65)||decide (90<c8)))&&(decide (c8<48)||decide (57<c8)))&&!decide (c8=95))&&!decide (c8=42)))] [] ?_ ?_
  ·clear h hk hS hX c
   exact dh
  refine ifk h (fun hb11 h=>?_) fun hb11 h=>?_
  ·refine srg hS [2] di ?_
   cases h;exact ret fin
  ·refine rg hS [0,6,7] di ?_
   exact⟨(m6,IntKind.wrap .i64 (i3+1)),h,(Weak.norm (m:=0) (Nat.le_of_ble_eq_true rfl) kp hq rfl rfl),Nat.lt_succ_self _⟩
 ·refine exit ?_
  refine srg hS [2] di ?_
  cases h;exact ret fin
theorem g_F223{w200:Y0}{w252:Y1}(c:AllG env [(S84 F84),(S252 w252),(S81 F81),(S200 w200)]):GoodH env (S223 (F223 w200 w252)):=by
 obtain⟨O,X,hS,hX,hpf,hk⟩:=orp c
 have pf_84:O.pf 84=false:=pft hpf 84 rfl
 refine gh fn_223 32 ?_
 rintro⟨inCase1,x2,x3,x4,x5⟩ (r:Int ⊕ (Cmd×Int)) h m em
 refine ghs em ?_;clear em m
 replace h:F223 w200 w252 inCase1 x2 x3 x4 x5=some r:=h
 rw[F223]at h
 refine srg hS [0,1,4] di ?_
 refine seq ?_
 obtain⟨r8,q9,h⟩:=obs h
 have f10:=(hk 0 84 rfl).ret (0,x2,x3,x4,x5) q9 rfl rfl
 have e11:=ecall0 f10 rfl rfl rfl rfl
 have e12:=ecall0 f10 rfl rfl rfl rfl
 refine rg hS [0,1,4,5] (di1 (an pf_84 (an e11 e12))) ?_
 refine srg hS [0,1,4,5] di ?_
 refine seq ?_
 rcases bindX_some h with⟨n17,q15,rfl⟩|⟨⟨r13,r14⟩,q15,h⟩
 ·have f18:=(hk 1 252 rfl).boom (x2,x3,x4,IntKind.wrap .i64 (x5+2)) q15 rfl rfl
  have e19:=xcall0 f18 rfl rfl
  apply regS hS hX 1 rfl
  ·exact dp1 e19
  exact boomR rfl rfl rfl
 dsimp only at h
 have f16:=(hk 1 252 rfl).ret (x2,x3,x4,IntKind.wrap .i64 (x5+2)) q15 rfl rfl
 have e20:=ecall0 f16 rfl rfl rfl rfl
 refine reg hS [(0,.ref 0 0),(1,ab inCase1),(4,.ref 1 0),(5,.ref 2 0)] [V2 x2 x3 x4 r14,V4 0 0 [],.var [ai 2,ai r8.at_,as_ r8.text_,.full [V10 r13],.nils,.nils]] (dk1 (ap0 252 hpf e20)) ?_
 refine seq ?_
 refine seq ?_
 obtain⟨r21,q22,h⟩:=obs h
 have f23:=(hk 2 81 rfl).ret (false,x2,x3,x4,r14) q22 rfl rfl
 have e24:=ecall0 f23 rfl rfl rfl rfl
 refine rg hS [0,1,4,5,25] (di1 (ap0 81 hpf e24)) ?_
 refine ifk h (fun hb25 h=>?_) fun hb25 h=>?_
 ·rcases bindX_some h with⟨n30,q28,rfl⟩|⟨⟨r26,r27⟩,q28,h⟩
  ·have f31:=(hk 3 200 rfl).boom (inCase1,x2,x3,x4,r14) q28 rfl rfl
   have e32:=xcall0 f31 rfl rfl
   apply regS hS hX 2 rfl
   ·exact dp1 e32
   exact boomR rfl rfl rfl
  dsimp only at h
  have f29:=(hk 3 200 rfl).ret (inCase1,x2,x3,x4,r14) q28 rfl rfl
  have e33:=ecall0 f29 rfl rfl rfl rfl
  refine reg hS [(4,.ref 1 0),(5,.ref 2 0)] [V2 x2 x3 x4 r27,V4 0 0 [],.var [ai 2,ai r8.at_,as_ r8.text_,.full [V10 r13],.nils,.full [V9 r26]]] (dk1 (ap0 200 hpf e33)) ?_
  refine srg hS [4] di ?_
  cases h;exact ret fin
 ·refine srg hS [4] di ?_
  cases h;exact ret fin
theorem g_F224{w200:Y0}(c:AllG env [(S84 F84),(S168 F168),(S200 w200)]):GoodH env (S224 (F224 w200)):=by
 obtain⟨O,X,hS,hX,hpf,hk⟩:=orp c
 refine gh fn_224 33 ?_
 rintro⟨kind1,tokens2,inCase3,x4,x5,x6,x7⟩ (r:Int ⊕ (Cmd×Int)) h m em
 refine ghs em ?_;clear em m
 replace h:F224 w200 kind1 tokens2 inCase3 x4 x5 x6 x7=some r:=h
 rw[F224]at h
 refine srg hS [0,1,2,3,8] di ?_
 refine seq ?_
 obtain⟨r10,q11,h⟩:=obs h
 have f12:=(hk 0 84 rfl).ret (0,x4,x5,x6,x7) q11 rfl rfl
 have e13:=ecall0 f12 rfl rfl rfl rfl
 refine rg hS [0,1,2,3,8,9] (di1 (ap0 84 hpf e13)) ?_
 refine srg hS [0,1,3,8,9] di ?_
 refine seqJ (α:=Int) (fun x14=>⟨sl [(0,.ref 0 0),(3,ab inCase3),(8,.ref 1 0),(9,.ref 2 0)],33,[V2 x4 x5 x6 x14,V4 0 0 [],V4 kind1 r10.at_ []]⟩) (fun x=>F224_j1 w200 inCase3 x4 x5 x6 kind1 r10 x=some r) ?_ ?_
 ·intro x14 h
  rw[F224_j1]at h
  try dsimp only at h
  refine AW.st ?_
  refine seq ?_
  rcases bindX_some h with⟨n19,q17,rfl⟩|⟨⟨r15,r16⟩,q17,h⟩
  ·have f20:=(hk 2 200 rfl).boom (inCase3,x4,x5,x6,x14) q17 rfl rfl
   have e21:=xcall0 f20 rfl rfl
   apply regS hS hX 2 rfl
   ·exact dp1 e21
   exact boomR rfl rfl rfl
  dsimp only at h
  have f18:=(hk 2 200 rfl).ret (inCase3,x4,x5,x6,x14) q17 rfl rfl
  have e22:=ecall0 f18 rfl rfl rfl rfl
  refine reg hS [(8,.ref 1 0),(9,.ref 2 0)] [V2 x4 x5 x6 r16,V4 0 0 [],.var [ai kind1,ai r10.at_,as_ [],.nils,.nils,.full [V9 r15]]] (dk1 (ap0 200 hpf e22)) ?_
  refine srg hS [8] di ?_
  cases h;exact ret fin
 refine srg hS [0,3,8,9,24] di ?_
 refine ifk h (fun hb23 h=>?_) fun hb23 h=>?_
 ·obtain⟨x24,q25,h⟩:=obs h
  have f26:=(hk 1 168 rfl).ret (x4,x5,x6,IntKind.wrap .i64 (x7+tokens2)) q25 rfl rfl
  have e27:=ecall0 f26 rfl rfl rfl rfl
  refine rg hS [0,3,8,9] (di1 (ap0 168 hpf e27)) ?_
  exact⟨x24,h,(Weak.norm (m:=3) (Nat.le_of_ble_eq_true rfl) kp hq rfl rfl)⟩
 ·exact⟨IntKind.wrap .i64 (x7+tokens2),h,(Weak.norm (m:=3) (Nat.le_of_ble_eq_true rfl) kp hq rfl rfl)⟩
theorem g_F255(c:AllG env [(S84 F84),(S132 F132),(S48 F48)]):GoodH env (S255 F255):=by
 obtain⟨O,X,hS,hX,hpf,hk⟩:=orp c
 refine gh fn_255 16 ?_
 rintro⟨symbol1,x2,x3,x4,x5⟩ (r:Int ⊕ (Int×Int)) h m em
 refine ghs em ?_;clear em m
 replace h:F255 symbol1 x2 x3 x4 x5=some r:=h
 rw[F255]at h
 refine srg hS [0,1] di ?_
 refine seq ?_
 obtain⟨r8,q9,h⟩:=obs h
 have f10:=(hk 0 84 rfl).ret (0,x2,x3,x4,x5) q9 rfl rfl
 have e11:=ecall0 f10 rfl rfl rfl rfl
 refine rg hS [0,1,5] (di1 (ap0 84 hpf e11)) ?_
 refine seq ?_
 refine seq ?_
 obtain⟨⟨r12,x13⟩,q14,h⟩:=obs h
 dsimp only at h
 have f15:=(hk 1 132 rfl).ret (symbol1,x2,x3,x4,x5) q14 rfl rfl
 have e16:=ecall0 f15 rfl rfl rfl rfl
 refine rg hS [0,5,12] (di1 (ap0 132 hpf e16)) ?_
 refine ifk h (fun hb17 h=>?_) fun hb17 h=>?_
 ·rcases bindX_some h with⟨n20,q18,rfl⟩|⟨_,q18,h⟩
  ·have f21:=(hk 2 48 rfl).boom (x2,x3,x4,x13) q18 rfl rfl
   have e22:=xcall0 f21 rfl rfl
   apply regS hS hX 1 rfl
   ·exact dp1 e22
   exact boomR rfl rfl rfl
  have f19:=(hk 2 48 rfl).ret (x2,x3,x4,x13) q18 rfl rfl
  have e23:=ecall0 f19 rfl rfl rfl rfl
  refine rg hS [5] (di1 (ap0 48 hpf e23)) ?_
  refine srg hS [4] di ?_
  cases h;exact ret fin
 ·refine srg hS [4] di ?_
  cases h;exact ret fin
theorem g_F253{w200:Y0}(c:AllG env [(S255 F255),(S47 (F47 w200))]):GoodH env (S253 (F253 w200)):=by
 obtain⟨O,X,hS,hX,hpf,hk⟩:=orp c
 refine gh fn_253 11 ?_
 rintro⟨x1,x2,x3,x4⟩ (r:Int ⊕ ((List Cmd)×Int)) h m em
 refine ghs em ?_;clear em m
 replace h:F253 w200 x1 x2 x3 x4=some r:=h
 rw[F253]at h
 refine srg hS [0] di ?_
 refine seq ?_
 rcases bindX_some h with⟨n11,q9,rfl⟩|⟨⟨r7,x8⟩,q9,h⟩
 ·have f12:=(hk 0 255 rfl).boom (([123]:Str),x1,x2,x3,x4) q9 rfl rfl
  have e13:=xcall0 f12 rfl rfl
  apply regS hS hX 1 rfl
  ·exact dp1 e13
  exact boomR rfl rfl rfl
 dsimp only at h
 have f10:=(hk 0 255 rfl).ret (([123]:Str),x1,x2,x3,x4) q9 rfl rfl
 try simp only[PVE]at f10
 have e14:=ecall0 f10 rfl rfl rfl rfl
 refine rg hS [0] (di1 (ap0 255 hpf e14)) ?_
 refine seq ?_
 rcases bindX_some h with⟨n19,q17,rfl⟩|⟨⟨r15,x16⟩,q17,h⟩
 ·have f20:=(hk 1 47 rfl).boom (false,x1,x2,x3,x8) q17 rfl rfl
  have e21:=xcall0 f20 rfl rfl
  apply regS hS hX 1 rfl
  ·exact dp1 e21
  exact boomR rfl rfl rfl
 dsimp only at h
 have f18:=(hk 1 47 rfl).ret (false,x1,x2,x3,x8) q17 rfl rfl
 have e22:=ecall0 f18 rfl rfl rfl rfl
 refine rg hS [0,3] (di1 (ap0 47 hpf e22)) ?_
 refine seq ?_
 rcases bindX_some h with⟨n27,q25,rfl⟩|⟨⟨r23,x24⟩,q25,h⟩
 ·have f28:=(hk 0 255 rfl).boom (([125]:Str),x1,x2,x3,x16) q25 rfl rfl
  have e29:=xcall0 f28 rfl rfl
  apply regS hS hX 1 rfl
  ·exact dp1 e29
  exact boomR rfl rfl rfl
 dsimp only at h
 have f26:=(hk 0 255 rfl).ret (([125]:Str),x1,x2,x3,x16) q25 rfl rfl
 try simp only[PVE]at f26
 have e30:=ecall0 f26 rfl rfl rfl rfl
 refine rg hS [3] (di1 (ap0 255 hpf e30)) ?_
 refine srg hS [2] di ?_
 cases h;exact ret fin
theorem g_F288(c:AllG env [(S74 F74)]):GoodH env (S288 F288):=by
 obtain⟨O,X,hS,hX,hpf,hk⟩:=orp c
 refine gh fn_288 13 ?_
 rintro⟨s1,prefix2⟩ (r:Str) h m em
 refine ghs em ?_;clear em m
 replace h:F288 s1 prefix2=some r:=h
 rw[F288]at h
 refine srg hS [0,1] di ?_
 refine seq ?_
 refine seq ?_
 obtain⟨r4,q5,h⟩:=obs h
 have f6:=(hk 0 74 rfl).ret (s1,prefix2) q5 rfl rfl
 refine rg hS [0,1,7] (di1 (ap1 74 hpf f6)) ?_
 refine ifk h (fun hb7 h=>?_) fun hb7 h=>?_
 ·refine seq ?_
  obtain⟨t8,q9,h⟩:=obs h
  have f10:=sslice_f q9
  try simp only[NRM,Int.reduceToNat]at f10
  have f10e:=f10.2.2.2.2
  try simp only[NRM,Int.reduceToNat]at f10e
  have f10l:=f10.2.2.1
  try simp only[NRM,Int.reduceToNat]at f10l
  refine rg hS [4] (di1 (an f10.1 (an f10.2.1 (an f10l (an f10.2.2.2.1 f10e))))) ?_
  cases h;exact ret fin
 ·refine srg hS [4] di ?_
  cases h;exact ret fin
theorem g_F276(c:AllG env [(S288 F288)]):GoodH env (S276 F276):=by
 obtain⟨O,X,hS,hX,hpf,hk⟩:=orp c
 refine gh fn_276 8 ?_
 rintro⟨s1,prefix2⟩ (r:Str) h m em
 refine ghs em ?_;clear em m
 replace h:F276 s1 prefix2=some r:=h
 rw[F276]at h
 refine srg hS [0,1] di ?_
 refine seq ?_
 obtain⟨r4,q5,h⟩:=obs h
 have f6:=(hk 0 288 rfl).ret (s1,prefix2) q5 rfl rfl
 refine rg hS [4] (di1 (ap1 288 hpf f6)) ?_
 cases h;exact ret fin
theorem g_F155(c:AllG env []):GoodH env (S155 F155):=by
 obtain⟨O,X,hS,hX,hpf,hk⟩:=orp c
 refine gh fn_155 21 ?_
 rintro⟨s1,suffix2⟩ (r:Bool) h m em
 refine ghs em ?_;clear em m
 replace h:F155 s1 suffix2=some r:=h
 rw[F155]at h
 refine srg hS [0,1] di ?_
 refine seq ?_
 obtain⟨t4,q5,h⟩:=obs h
 have f6:=sslice_g (guardO_t q5)
 try simp only[NRM,Int.reduceToNat]at f6
 have f6e:=f6.2.2.2.2
 try simp only[NRM,Int.reduceToNat]at f6e
 have f6l:=f6.2.2.1
 try simp only[NRM,Int.reduceToNat]at f6l
 refine reg hS [(4,ab (decide ((suffix2.length:Int)≤(s1.length:Int))&&decide (t4=suffix2)))] [] ?_ ?_
 ·clear h hk hS hX c
  exact dh1 (an f6.1 (an f6.2.1 (an f6l (an f6.2.2.2.1 f6e))))
 cases h;exact ret fin
theorem g_F287(c:AllG env [(S155 F155)]):GoodH env (S287 F287):=by
 obtain⟨O,X,hS,hX,hpf,hk⟩:=orp c
 refine gh fn_287 16 ?_
 rintro⟨s1,suffix2⟩ (r:Str) h m em
 refine ghs em ?_;clear em m
 replace h:F287 s1 suffix2=some r:=h
 rw[F287]at h
 refine srg hS [0,1] di ?_
 refine seq ?_
 refine seq ?_
 obtain⟨r4,q5,h⟩:=obs h
 have f6:=(hk 0 155 rfl).ret (s1,suffix2) q5 rfl rfl
 refine rg hS [0,1,7] (di1 (ap1 155 hpf f6)) ?_
 refine ifk h (fun hb7 h=>?_) fun hb7 h=>?_
 ·refine seq ?_
  obtain⟨t8,q9,h⟩:=obs h
  have f10:=sslice_f q9
  try simp only[NRM,Int.reduceToNat]at f10
  have f10e:=f10.2.2.2.2
  try simp only[NRM,Int.reduceToNat]at f10e
  have f10l:=f10.2.2.1
  try simp only[NRM,Int.reduceToNat]at f10l
  refine rg hS [4] (di1 (an f10.1 (an f10.2.1 (an f10l (an f10.2.2.2.1 f10e))))) ?_
  cases h;exact ret fin
 ·refine srg hS [4] di ?_
  cases h;exact ret fin
theorem g_F275(c:AllG env [(S287 F287)]):GoodH env (S275 F275):=by
 obtain⟨O,X,hS,hX,hpf,hk⟩:=orp c
 refine gh fn_275 8 ?_
 rintro⟨s1,suffix2⟩ (r:Str) h m em
 refine ghs em ?_;clear em m
 replace h:F275 s1 suffix2=some r:=h
 rw[F275]at h
 refine srg hS [0,1] di ?_
 refine seq ?_
 obtain⟨r4,q5,h⟩:=obs h
 have f6:=(hk 0 287 rfl).ret (s1,suffix2) q5 rfl rfl
 refine rg hS [4] (di1 (ap1 287 hpf f6)) ?_
 cases h;exact ret fin
theorem g_F277(c:AllG env [SL_Atoi]):GoodH env (S277 F277):=by
 obtain⟨O,X,hS,hX,hpf,hk⟩:=orp c
 refine gh fn_277 11 ?_
 rintro(s1:Str) (r:Int) h m em
 refine ghs em ?_;clear em m
 replace h:F277 s1=some r:=h
 rw[F277]at h
 refine srg hS [0] di ?_
 refine seq ?_
 obtain⟨⟨n3,bad4⟩,q5,h⟩:=obs h
 dsimp only at h
 have f6:=(hk 0 199 rfl).ret s1 q5 rfl rfl
 refine rg hS [3] (di1 (ap1 199 hpf f6)) ?_
 refine srg hS [2] di ?_
 cases h;exact ret fin
theorem g_F254{w252:Y1}(c:AllG env [(S84 F84),SL_Repeat,SL_IndexByte,(S42 F42),(S276 F276),(S275 F275),SL_Cut,(S277 F277),(S252 w252)]):GoodH env (S254 (F254 w252)):=by
 obtain⟨O,X,hS,hX,hpf,hk⟩:=orp c
 have pf_276:O.pf 276=true:=pft hpf 276 rfl
 refine gh fn_254 102 ?_
 rintro⟨x1,x2,x3,x4⟩ (r:Int ⊕ (Redir×Int)) h m em
 refine ghs em ?_;clear em m
 replace h:F254 w252 x1 x2 x3 x4=some r:=h
 rw[F254]at h
 refine srg hS [0,2] di ?_
 refine seq ?_
 obtain⟨r7,q8,h⟩:=obs h
 have f9:=(hk 0 84 rfl).ret (0,x1,x2,x3,x4) q8 rfl rfl
 have e10:=ecall0 f9 rfl rfl rfl rfl
 refine rg hS [0,2,3] (di1 (ap0 84 hpf e10)) ?_
 refine seq ?_
 refine srg hS [0,2,3,16] di ?_
 refine ifk h (fun hb11 h=>?_) fun hb11 h=>?_
 ·refine seq ?_
  obtain⟨w12,q13,h⟩:=obs h
  have f14:=lidx_f q13
  apply dgk mixed hS [0,2,3,4] (ordp hpf (by kernel_rfl))
  ·exact di1 (an f14.1 f14.2.1)
  refine srg hS [2,3,4] di ?_
  refine seq ?_
  obtain⟨t15,q16,h⟩:=obs h
  have f17:=(hk 1 124 rfl).ret (([48]:Str),(w12.length:Int)) q16 rfl rfl
  try simp only[PVE]at f17
  refine rg hS [2,3,5] (di1 (ap1 124 hpf f17)) ?_
  refine seq ?_
  obtain⟨n18,q19,h⟩:=obs h
  have f20:=(hk 2 40 rfl).ret (r7.quoted_,49) q19 rfl rfl
  apply dgB mixed hS [(2,some 1),(3,some 2),(5,some 3),(40,some 2)] [2] rfl (ordB hpf (B:=[(2,some 1),(3,some 2),(5,some 3),(40,some 2)]) (by kernel_rfl))
  ·exact di1 (ap1 40 hpf f20)
  cases h;exact ret fin
 ·refine srg hS [0,2,3] di ?_
  refine srg hS [0,2,3,6] di ?_
  refine seq ?_
  obtain⟨t21,q22,h⟩:=obs h
  have f23:=sslice_f q22
  try simp only[NRM,Int.reduceToNat]at f23
  have f23e:=f23.2.2.2.2
  try simp only[NRM,Int.reduceToNat]at f23e
  have f23l:=f23.2.2.1
  try simp only[NRM,Int.reduceToNat]at f23l
  refine rg hS [0,2,3,6,7] (di1 (an f23.1 (an f23.2.1 (an f23l (an f23.2.2.2.1 f23e))))) ?_
  refine seqJ (α:=Str×Int×Int) (fun(rest24,x25,x26)=>⟨sl [(0,.ref 0 0),(2,.ref 1 0),(6,.ref 3 0),(7,as_ rest24)],102,[V2 x1 x2 x3 (IntKind.wrap .i64 (x4+1)),.var [ai 0,ai 0,ai 0,ai 0,as_ [],as_ [],.nils,.nils,ab false],V1 r7,.var [ai x25,ai x26,ai 0,ai 0,as_ [],as_ [],vWo [],vC [],ab false]]⟩) (fun x=>F254_j1 x4 w252 x1 x2 x3 x=some r) ?_ ?_
  ·intro⟨rest24,x25,x26⟩ h
   rw[F254_j1]at h
   try dsimp only at h
   refine AW.st ?_
   refine seqJ (α:=Int) (fun x27=>⟨sl [(0,.ref 0 0),(2,.ref 1 0),(6,.ref 3 0)],102,[V2 x1 x2 x3 (IntKind.wrap .i64 (x4+1)),.var [ai 0,ai 0,ai 0,ai 0,as_ [],as_ [],.nils,.nils,ab false],V1 r7,.var [ai x25,ai x27,ai 0,ai 0,as_ [],as_ [],vWo [],vC [],ab false]]⟩) (fun x=>F254_j2 w252 x1 x2 x3 x4 x25 x=some r) ?_ ?_
   ·intro x27 h
    rw[F254_j2]at h
    try dsimp only at h
    refine AW.st ?_
    refine seq ?_
    rcases bindX_some h with⟨n32,q30,rfl⟩|⟨⟨r28,r29⟩,q30,h⟩
    ·have f33:=(hk 8 252 rfl).boom (x1,x2,x3,IntKind.wrap .i64 (x4+1)) q30 rfl rfl
     have e34:=xcall0 f33 rfl rfl
     apply regS hS hX 1 rfl
     ·exact dp1 e34
     exact boomR rfl rfl rfl
    dsimp only at h
    have f31:=(hk 8 252 rfl).ret (x1,x2,x3,IntKind.wrap .i64 (x4+1)) q30 rfl rfl
    have e35:=ecall0 f31 rfl rfl rfl rfl
    refine rg hS [2,6] (di1 (ap0 252 hpf e35)) ?_
    refine srg hS [2] di ?_
    cases h;exact ret fin
   refine srg hS [0,2,6,7,69] di ?_
   refine ifk h (fun hb36 h=>?_) fun hb36 h=>?_
   ·refine seq ?_
    obtain⟨r37,q38,h⟩:=obs h
    have f39:=(hk 4 276 rfl).ret (rest24,([91]:Str)) q38 rfl rfl
    try simp only[PVE]at f39
    obtain⟨r40,q41,h⟩:=obs h
    have f42:=(hk 5 275 rfl).ret (r37,([93]:Str)) q41 rfl rfl
    try simp only[PVE]at f42
    refine rg hS [0,2,6,8] (di1 (an pf_276 (an f39 (ap1 275 hpf f42)))) ?_
    refine seq ?_
    obtain⟨⟨a43,b44,ok45⟩,q46,h⟩:=obs h
    dsimp only at h
    have f47:=(hk 6 161 rfl).ret (r40,([61]:Str)) q46 rfl rfl
    try simp only[PVE]at f47
    refine rg hS [0,2,6,9,10,11] (di1 (ap1 161 hpf f47)) ?_
    refine seq ?_
    obtain⟨r48,q49,h⟩:=obs h
    have f50:=(hk 7 277 rfl).ret a43 q49 rfl rfl
    refine rg hS [0,2,6,10,11] (di1 (ap1 277 hpf f50)) ?_
    refine block ?_
    refine seq ?_
    refine reg hS [(0,.ref 0 0),(2,.ref 1 0),(6,.ref 3 0),(10,as_ b44),(11,ab ok45),(82,ab (ok45&&decide (b44=[])))] [V2 x1 x2 x3 (IntKind.wrap .i64 (x4+1)),.var [ai 0,ai 0,ai 0,ai 0,as_ [],as_ [],.nils,.nils,ab false],V1 r7,.var [ai x25,ai r48,ai 0,ai 0,as_ [],as_ [],vWo [],vC [],ab false]] ?_ ?_
    ·clear h hk hS hX c
     exact dh
    refine ifs h (fun hb51 h=>?_) fun hb51 h=>?_
    ·refine srg hS [2] di ?_
     cases h;exact ret fin
    ·refine srg hS [0,2,6,10,91] di ?_
     refine ifk h (fun hb52 h=>?_) fun hb52 h=>?_
     ·refine seq ?_
      obtain⟨r53,q54,h⟩:=obs h
      have f55:=(hk 7 277 rfl).ret b44 q54 rfl rfl
      apply dgB mixed hS [(2,some 1),(6,some 3),(93,some 3)] [2] rfl (ordB hpf (B:=[(2,some 1),(6,some 3),(93,some 3)]) (by kernel_rfl))
      ·exact di1 (ap1 277 hpf f55)
      cases h;exact ret fin
     ·exact⟨r48,h,(Weak.norm (m:=4) (Nat.le_of_ble_eq_true rfl) kp hq rfl rfl)⟩
   ·exact⟨x26,h,(Weak.norm (m:=4) (Nat.le_of_ble_eq_true rfl) kp hq rfl rfl)⟩
  refine block ?_
  refine seq ?_
  obtain⟨c56,q57,h⟩:=obs h
  have f58:=sidx_f q57
  try simp only[NRM,Int.reduceToNat]at f58
  refine rg hS [0,2,6,7,56] (di1 (an f58.1 (an f58.2.1 f58.2.2))) ?_
  refine ifs h (fun hb59 h=>?_) fun hb59 h=>?_
  ·refine rg hS [0,2,6,7] di ?_
   exact⟨(t21,1,0),h,(Weak.norm (m:=4) (Nat.le_of_ble_eq_true rfl) kp hq rfl rfl)⟩
  ·refine seq ?_
   obtain⟨r60,q61,h⟩:=obs h
   have f62:=(hk 3 42 rfl).ret (t21,([62]:Str)) q61 rfl rfl
   try simp only[PVE]at f62
   refine rg hS [0,2,6,7,62] (di1 (ap1 42 hpf f62)) ?_
   refine ifk h (fun hb63 h=>?_) fun hb63 h=>?_
   ·refine srg hS [0,2,6,7] di ?_
    obtain⟨t64,q65,h⟩:=obs h
    have f66:=sslice_f q65
    try simp only[NRM,Int.reduceToNat]at f66
    have f66e:=f66.2.2.2.2
    try simp only[NRM,Int.reduceToNat]at f66e
    have f66l:=f66.2.2.1
    try simp only[NRM,Int.reduceToNat]at f66l
    refine rg hS [0,2,6,7] (di1 (an f66.1 (an f66.2.1 (an f66l (an f66.2.2.2.1 f66e))))) ?_
    exact⟨(t64,3,1),h,(Weak.norm (m:=4) (Nat.le_of_ble_eq_true rfl) kp hq rfl rfl)⟩
   ·exact⟨(t21,2,1),h,(Weak.norm (m:=4) (Nat.le_of_ble_eq_true rfl) kp hq rfl rfl)⟩
theorem g_F225{w200:Y0}{w252:Y1}(c:AllG env [(S84 F84),(S253 (F253 w200)),(S130 F130),(S254 (F254 w252))]):GoodH env (S225 (F225 w200 w252)):=by
 obtain⟨O,X,hS,hX,hpf,hk⟩:=orp c
 have pf_84:O.pf 84=false:=pft hpf 84 rfl
 have pf_254:O.pf 254=false:=pft hpf 254 rfl
 refine gh fn_225 21 ?_
 rintro⟨x1,x2,x3,x4⟩ (r:Int ⊕ (Cmd×Int)) h m em
 refine ghs em ?_;clear em m
 replace h:F225 w200 w252 x1 x2 x3 x4=some r:=h
 rw[F225]at h
 refine srg hS [0,2] di ?_
 refine seq ?_
 obtain⟨r7,q8,h⟩:=obs h
 have f9:=(hk 0 84 rfl).ret (0,x1,x2,x3,x4) q8 rfl rfl
 have e10:=ecall0 f9 rfl rfl rfl rfl
 rcases bindX_some h with⟨n15,q13,rfl⟩|⟨⟨r11,x12⟩,q13,h⟩
 ·have f16:=(hk 1 253 rfl).boom (x1,x2,x3,x4) q13 rfl rfl
  have e17:=xcall0 f16 rfl rfl
  apply regS hS hX 4 rfl
  ·exact dp1 (an pf_84 (an e10 e17))
  exact boomR rfl rfl rfl
 dsimp only at h
 have f14:=(hk 1 253 rfl).ret (x1,x2,x3,x4) q13 rfl rfl
 have e18:=ecall0 f14 rfl rfl rfl rfl
 refine AW.after ?_
 refine reg hS [(0,.ref 0 0),(2,.ref 1 0),(3,.ref 2 0)] [V2 x1 x2 x3 x12,V4 0 0 [],V7 12 r7.at_ [] r11] (dk1 (an pf_84 (an e10 (ap0 253 hpf e18)))) ?_
 refine⟨⟨sl [(0,.ref 0 0),(2,.ref 1 0),(3,.ref 2 0)],21,[V2 x1 x2 x3 x12,V4 0 0 [],V8 12 r7.at_ [] (List.length ([]:List Redir)) r11,.row 51 9 (List.map Redir.pv ([]:List Redir)) true]⟩,(Weak.trans (Weak.ownC (σ:=⟨sl [(0,.ref 0 0),(2,.ref 1 0),(3,.ref 2 0)],21,[V2 x1 x2 x3 x12,V4 0 0 [],V7 12 r7.at_ [] r11]⟩) 2 4 51 9 (by decide) (cs:=[ai 12,ai r7.at_,as_ [],.nils,.nils,vC r11]) rfl rfl) (Weak.slots (L:=[(0,.ref 0 0),(2,.ref 1 0),(3,.ref 2 0)]) ⟨rfl,rfl,rfl,trivial⟩)),?_⟩
 refine seq ?_
 refine block ?_
 refine lp (α:=Nat×Int×(List Redir)) (fun(_,x19,l20)=>⟨sl [(0,.ref 0 0),(2,.ref 1 0),(3,.ref 2 0)],21,[V2 x1 x2 x3 x19,V4 0 0 [],V8 12 r7.at_ [] l20.length r11,rRe l20]⟩) (fun x=>iter (F225_b1 x1 x2 x3 w252 r7 r11) x.1 x.2=some r) (fun x=>x.1) (BIG,(x12,([]:List Redir))) (Weak.slots kp) h ?_
 clear h
 intro⟨n43,x19,l20⟩ h
 replace h:=iter_some h;obtain⟨m23,rfl,h⟩:=h
 rw[F225_b1]at h
 try dsimp only at h
 refine AW.st ?_
 refine seq ?_
 refine seq ?_
 obtain⟨r24,q25,h⟩:=obs h
 have f26:=(hk 0 84 rfl).ret (0,x1,x2,x3,x19) q25 rfl rfl
 have e27:=ecall0 f26 rfl rfl rfl rfl
 obtain⟨r28,q29,h⟩:=obs h
 have f30:=(hk 2 130 rfl).ret r24 q29 rfl rfl
 refine rg hS [0,2,3,12] (di1 (an pf_84 (an e27 (ap1 130 hpf f30)))) ?_
 refine ifs h (fun hb31 h=>?_) fun hb31 h=>?_
 ·refine skip ?_
  refine block ?_
  rcases bindX_some h with⟨n36,q34,rfl⟩|⟨⟨r32,x33⟩,q34,h⟩
  ·have f37:=(hk 3 254 rfl).boom (x1,x2,x3,x19) q34 rfl rfl
   have e38:=xcall0 f37 rfl rfl
   refine dregS mixed hS hX 3 [0,1,2] [.ref 2 4,.vec 3 (List.length l20),.ref 0 0,.any,.any,.any,.any,.any] [(13,.ref 2 4),(14,.vec 3 (List.length l20)),(15,.ref 0 0),(16,.any),(17,.any),(18,.any),(19,.any),(0,.ref 0 0),(2,.ref 1 0),(3,.ref 2 0),(12,ab r28)] rfl (by kernel_rfl) rfl (H':=[.gone,V4 0 0 [],V8 12 r7.at_ [] l20.length r11,rRe l20]) ?_ ?_ (boomR rfl rfl rfl)
   ·repeat'(first|exact Facts.nil|refine Facts.cons rfl rfl rfl ?_ ?_)
    all_goals exact dv
   ·exact Stops.call rfl rfl (by simp -implicitDefEqProofs only[RUNS,qindex,Nat.reduceAdd,Nat.reduceLeDiff,Nat.reduceSub,reduceIte,Nat.reduceEqDiff,Nat.reduceLT,reduceCtorEq,Nat.reduceMul,Nat.reduceBEq,Int.reduceEq,Int.reduceToNat,Int.toNat_zero,Nat.sub_zero,if_true,if_false,eq_self,ne_eq,TYS,e38]<;>rfl)
  dsimp only at h
  have f35:=(hk 3 254 rfl).ret (x1,x2,x3,x19) q34 rfl rfl
  have e39:=ecall0 f35 rfl rfl rfl rfl
  obtain⟨out40,q41,h⟩:=obs h
  have f42:=appO_f q41
  try simp only[LNS,List.length_replicate,Nat.reduceAdd,Nat.reduceLeDiff,Nat.add_zero,Nat.reduceMul]at f42
  have f42m:=appO_m Redir.pv q41
  try simp only[PVE,List.nil_append]at f42m
  have f42n:=appO_n q41
  try simp only[LNS]at f42n
  refine dregV mixed hS [3,5,7] [(0,0),(0,1),(1,0),(1,1),(2,0),(3,0),(4,1),(5,1),(6,2),(7,2)] [.ref 2 4,.vec 3 (List.length l20),.ref 0 0,.pv (V11 r32),.full [V11 r32],.vec 3 (List.length out40),.ref 2 4,.any] [[V2 x1 x2 x3 x19,V4 0 0 [],V8 12 r7.at_ [] l20.length r11,rRe l20],[V2 x1 x2 x3 x33,V4 0 0 [],V8 12 r7.at_ [] l20.length r11,rRe l20],[V2 x1 x2 x3 x33,V4 0 0 [],V8 12 r7.at_ [] l20.length r11,rRe out40],[V2 x1 x2 x3 x33,V4 0 0 [],V8 12 r7.at_ [] out40.length r11,rRe out40]] [(13,.ref 2 4),(14,.vec 3 (List.length l20)),(15,.ref 0 0),(16,.pv (V11 r32)),(17,.full [V11 r32]),(18,.vec 3 (List.length out40)),(19,.ref 2 4),(0,.ref 0 0),(2,.ref 1 0),(3,.ref 2 0),(12,ab r28)] (by kernel_rfl) (by kernel_rfl) (by kernel_rfl) ?_ [(0,.ref 0 0),(2,.ref 1 0),(3,.ref 2 0)] [V2 x1 x2 x3 x33,V4 0 0 [],V8 12 r7.at_ [] out40.length r11,rRe out40] ⟨rfl,rfl,rfl,trivial⟩ rfl ?_
  ·repeat'(first|exact Facts.nil|refine Facts.cons rfl rfl rfl ?_ ?_)
   all_goals exact dv1 (an pf_254 (an e39 (an f42.1 (an f42m f42n))))
  clear f42
  clear f42m
  clear f42n
  exact⟨(m23,(x33,out40)),h,(Weak.norm (m:=4) (Nat.le_of_ble_eq_true rfl) kp hq rfl rfl),Nat.lt_succ_self _⟩
 ·refine exit ?_
  refine srg hS [2] di ?_
  cases h;exact ret fin
end Go.Abs.U48
