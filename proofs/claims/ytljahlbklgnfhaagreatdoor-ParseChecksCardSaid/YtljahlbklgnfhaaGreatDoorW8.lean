import Derived.Test.YtljahlbklgnfhaaGreatDoorD1
set_option linter.unusedVariables false
set_option linter.unusedSimpArgs false
set_option linter.defProp false
set_option maxRecDepth 8000
set_option maxHeartbeats 4000000
namespace Go.Abs.U48
open Go.RowKit Go.Proofs AW
theorem g_F153{w152:Y2}(c:AllG env [(S103 F103),(S152 w152)]):GoodH env (S153 (F153 w152)):=by
 obtain⟨O,X,hS,hX,hpf,hk⟩:=orp c
 refine gh fn_153 19 ?_
 rintro⟨l1,b2,l3⟩ (r:Str×(List Redir)) h m em
 refine ghs em ?_;clear em m
 replace h:F153 w152 l1 b2 l3=some r:=h
 rw[F153]at h
 refine srg hS [0,6,7,8] di ?_
 refine block ?_
 refine lp (α:=Nat×Int×Str×(List Redir)) (fun(_,i6,l7,m8)=>⟨sl [(0,.ref 0 0),(6,vWo l1),(7,ai (l1.length:Int)),(8,ai i6)],19,[.prn 5 l7 51 9 (List.map Redir.pv m8)]⟩) (fun x=>iter (F153_b1 l1 w152) x.1 x.2=some r) (fun x=>x.1) (BIG,(0,b2,l3)) (Weak.slots kp) h ?_
 clear h
 intro⟨n25,i6,l7,m8⟩ h
 replace h:=iter_some h;obtain⟨m11,rfl,h⟩:=h
 rw[F153_b1]at h
 try dsimp only at h
 refine AW.st ?_
 refine srg hS [0,6,7,8,9] di ?_
 refine seq ?_
 refine ifs h (fun hb12 h=>?_) fun hb12 h=>?_
 ·refine skip ?_
  refine seq ?_
  refine block ?_
  refine seq ?_
  obtain⟨u13,q14,h⟩:=obs h
  have f15:=lidx_f q14
  refine rg hS [0,5,6,7,8] (di1 (an f15.1 f15.2.1)) ?_
  refine seq ?_
  obtain⟨o16,q17,h⟩:=obs h
  have f18:=(hk 0 103 rfl).ret (([[32]]:List Str),l7,m8) q17 rfl rfl
  try simp only[PVE]at f18
  have e19:ecall O [.prn 5 l7 51 9 (List.map Redir.pv m8),V17 u13] 103 [.ref 0 0,.full (List.map PV.str [[32]])]=some (retAV [],[.prn 5 o16 51 9 (List.map Redir.pv m8),V17 u13]):=ecall_eq rfl rfl rfl f18 rfl rfl rfl
  try simp only[PVE]at e19
  refine rg hS [0,5,6,7,8] (di1 (ap0 103 hpf e19)) ?_
  obtain⟨⟨r20,r21⟩,q22,h⟩:=obs h
  dsimp only at h
  have f23:=(hk 1 152 rfl).ret (u13,o16,m8) q22 rfl rfl
  have e24:ecall O [.prn 5 o16 51 9 (List.map Redir.pv m8),V17 u13] 152 [.ref 0 0,.pv (V10 u13)]=some (retAV [],[.prn 5 r20 51 9 (List.map Redir.pv r21),V17 u13]):=ecall_eq rfl rfl rfl f23 rfl rfl rfl
  refine rg hS [0,6,7,8] (di1 (ap0 152 hpf e24)) ?_
  refine rg hS [0,6,7,8] di ?_
  exact⟨(m11,(IntKind.wrap .i64 (i6+1),r20,r21)),h,(Weak.norm (m:=1) (Nat.le_of_ble_eq_true rfl) kp hq rfl rfl),Nat.lt_succ_self _⟩
 ·refine exit ?_
  cases h
  exact fin
theorem g_F154{w66:Y5}{w152:Y2}(c:AllG env [(S103 F103),(S153 (F153 w152)),(S67 F67),(S35 (F35 w66))]):GoodH env (S154 (F154 w66 w152)):=by
 obtain⟨O,X,hS,hX,hpf,hk⟩:=orp c
 refine gh fn_154 42 ?_
 rintro⟨c1,b2,l3⟩ (r:Str×(List Redir)) h m em
 refine ghs em ?_;clear em m
 replace h:F154 w66 w152 c1 b2 l3=some r:=h
 rw[F154]at h
 refine srg hS [0,3] di ?_
 refine seq ?_
 obtain⟨o6,q7,h⟩:=obs h
 have f8:=(hk 0 103 rfl).ret (([[115,119,105,116,99,104]]:List Str),b2,l3) q7 rfl rfl
 try simp only[PVE]at f8
 have e9:ecall O [.prn 5 b2 51 9 (List.map Redir.pv l3),V6 c1] 103 [.ref 0 0,.full (List.map PV.str [[115,119,105,116,99,104]])]=some (retAV [],[.prn 5 o6 51 9 (List.map Redir.pv l3),V6 c1]):=ecall_eq rfl rfl rfl f8 rfl rfl rfl
 try simp only[PVE]at e9
 refine rg hS [0,3] (di1 (ap0 103 hpf e9)) ?_
 refine seq ?_
 obtain⟨⟨o10,m11⟩,q12,h⟩:=obs h
 dsimp only at h
 have f13:=(hk 1 153 rfl).ret (c1.words_,o6,l3) q12 rfl rfl
 have e14:ecall O [.prn 5 o6 51 9 (List.map Redir.pv l3),V6 c1] 153 [.ref 0 0,vWo c1.words_]=some (retAV [],[.prn 5 o10 51 9 (List.map Redir.pv m11),V6 c1]):=ecall_eq rfl rfl rfl f13 rfl rfl rfl
 refine rg hS [0,3] (di1 (ap0 153 hpf e14)) ?_
 refine seq ?_
 obtain⟨o15,q16,h⟩:=obs h
 have f17:=(hk 0 103 rfl).ret (([[32,123]]:List Str),o10,m11) q16 rfl rfl
 try simp only[PVE]at f17
 have e18:ecall O [.prn 5 o10 51 9 (List.map Redir.pv m11),V6 c1] 103 [.ref 0 0,.full (List.map PV.str [[32,123]])]=some (retAV [],[.prn 5 o15 51 9 (List.map Redir.pv m11),V6 c1]):=ecall_eq rfl rfl rfl f17 rfl rfl rfl
 try simp only[PVE]at e18
 refine rg hS [0,3] (di1 (ap0 103 hpf e18)) ?_
 refine seq ?_
 obtain⟨⟨o19,m20⟩,q21,h⟩:=obs h
 dsimp only at h
 have f22:=(hk 2 67 rfl).ret (o15,m11) q21 rfl rfl
 have e23:ecall O [.prn 5 o15 51 9 (List.map Redir.pv m11),V6 c1] 67 [.ref 0 0]=some (retAV [],[.prn 5 o19 51 9 (List.map Redir.pv m20),V6 c1]):=ecall_eq rfl rfl rfl f22 rfl rfl rfl
 refine rg hS [0,3] (di1 (ap0 67 hpf e23)) ?_
 refine seq ?_
 refine srg hS [0,19,20,21] di ?_
 refine block ?_
 refine lp (α:=Nat×Int×Str×(List Redir)) (fun(_,i24,l25,m26)=>⟨sl [(0,.ref 0 0),(19,vC c1.kids_),(20,ai (c1.kids_.length:Int)),(21,ai i24)],42,[.prn 5 l25 51 9 (List.map Redir.pv m26),V6 c1]⟩) (fun x=>iter (F154_b1 c1 w152 w66) x.1 x.2=some r) (fun x=>x.1) (BIG,(0,o19,m20)) (Weak.slots kp) h ?_
 clear h
 intro⟨n57,i24,l25,m26⟩ h
 replace h:=iter_some h;obtain⟨m29,rfl,h⟩:=h
 rw[F154_b1]at h
 try dsimp only at h
 refine AW.st ?_
 refine srg hS [0,19,20,21,22] di ?_
 refine seq ?_
 refine ifs h (fun hb30 h=>?_) fun hb30 h=>?_
 ·refine skip ?_
  refine seq ?_
  refine block ?_
  refine seq ?_
  obtain⟨u31,q32,h⟩:=obs h
  have f33:=lidx_f q32
  refine rg hS [0,5,19,20,21] (di1 (an f33.1 f33.2.1)) ?_
  refine seq ?_
  obtain⟨o34,q35,h⟩:=obs h
  have f36:=(hk 0 103 rfl).ret (([[99,97,115,101]]:List Str),l25,m26) q35 rfl rfl
  try simp only[PVE]at f36
  have e37:ecall O [.prn 5 l25 51 9 (List.map Redir.pv m26),V6 c1,V6 u31] 103 [.ref 0 0,.full (List.map PV.str [[99,97,115,101]])]=some (retAV [],[.prn 5 o34 51 9 (List.map Redir.pv m26),V6 c1,V6 u31]):=ecall_eq rfl rfl rfl f36 rfl rfl rfl
  try simp only[PVE]at e37
  refine rg hS [0,5,19,20,21] (di1 (ap0 103 hpf e37)) ?_
  refine seq ?_
  obtain⟨⟨o38,m39⟩,q40,h⟩:=obs h
  dsimp only at h
  have f41:=(hk 1 153 rfl).ret (u31.words_,o34,m26) q40 rfl rfl
  have e42:ecall O [.prn 5 o34 51 9 (List.map Redir.pv m26),V6 c1,V6 u31] 153 [.ref 0 0,vWo u31.words_]=some (retAV [],[.prn 5 o38 51 9 (List.map Redir.pv m39),V6 c1,V6 u31]):=ecall_eq rfl rfl rfl f41 rfl rfl rfl
  refine rg hS [0,5,19,20,21] (di1 (ap0 153 hpf e42)) ?_
  refine seq ?_
  obtain⟨⟨o43,m44⟩,q45,h⟩:=obs h
  dsimp only at h
  have f46:=(hk 2 67 rfl).ret (o38,m39) q45 rfl rfl
  have e47:ecall O [.prn 5 o38 51 9 (List.map Redir.pv m39),V6 c1,V6 u31] 67 [.ref 0 0]=some (retAV [],[.prn 5 o43 51 9 (List.map Redir.pv m44),V6 c1,V6 u31]):=ecall_eq rfl rfl rfl f46 rfl rfl rfl
  refine rg hS [0,5,19,20,21] (di1 (ap0 67 hpf e47)) ?_
  obtain⟨⟨o48,m49⟩,q50,h⟩:=obs h
  dsimp only at h
  have f51:=(hk 3 35 rfl).ret (u31.kids_,o43,m44) q50 rfl rfl
  have e52:ecall O [.prn 5 o43 51 9 (List.map Redir.pv m44),V6 c1,V6 u31] 35 [.ref 0 0,vC u31.kids_]=some (retAV [],[.prn 5 o48 51 9 (List.map Redir.pv m49),V6 c1,V6 u31]):=ecall_eq rfl rfl rfl f51 rfl rfl rfl
  refine rg hS [0,19,20,21] (di1 (ap0 35 hpf e52)) ?_
  refine rg hS [0,19,20,21] di ?_
  exact⟨(m29,(IntKind.wrap .i64 (i24+1),o48,m49)),h,(Weak.norm (m:=2) (Nat.le_of_ble_eq_true rfl) kp hq rfl rfl),Nat.lt_succ_self _⟩
 ·refine exit ?_
  obtain⟨o53,q54,h⟩:=obs h
  have f55:=(hk 0 103 rfl).ret (([[125]]:List Str),l25,m26) q54 rfl rfl
  try simp only[PVE]at f55
  have e56:ecall O [.prn 5 l25 51 9 (List.map Redir.pv m26),V6 c1] 103 [.ref 0 0,.full (List.map PV.str [[125]])]=some (retAV [],[.prn 5 o53 51 9 (List.map Redir.pv m26),V6 c1]):=ecall_eq rfl rfl rfl f55 rfl rfl rfl
  try simp only[PVE]at e56
  refine rg hS [] (di1 (ap0 103 hpf e56)) ?_
  cases h
  exact fin
theorem g_F107{w66:Y5}{w152:Y2}(c:AllG env [(S103 F103),(S152 w152),(S102 (F102 w66)),(S104 (F104 w66)),(S66 w66),(S153 (F153 w152)),(S154 (F154 w66 w152))]):GoodH env (S107 (F107 w66 w152)):=by
 obtain⟨O,X,hS,hX,hpf,hk⟩:=orp c
 refine gh fn_107 107 ?_
 rintro⟨c1,b2,l3⟩ (r:Str×(List Redir)) h m em
 refine ghs em ?_;clear em m
 replace h:F107 w66 w152 c1 b2 l3=some r:=h
 rw[F107]at h
 refine srg hS [0,3] di ?_
 refine srg hS [0,3,5] di ?_
 refine block ?_
 refine srg hS [0,3,5,6] di ?_
 refine ifs h (fun hb6 h=>?_) fun hb6 h=>?_
 ·refine seq ?_
  obtain⟨o7,q8,h⟩:=obs h
  have f9:=(hk 0 103 rfl).ret (([c1.name_,[61]]:List Str),b2,l3) q8 rfl rfl
  try simp only[PVE]at f9
  have e10:ecall O [.prn 5 b2 51 9 (List.map Redir.pv l3),V6 c1] 103 [.ref 0 0,.full (List.map PV.str [c1.name_,[61]])]=some (retAV [],[.prn 5 o7 51 9 (List.map Redir.pv l3),V6 c1]):=ecall_eq rfl rfl rfl f9 rfl rfl rfl
  try simp only[PVE]at e10
  refine rg hS [0,3] (di1 (ap0 103 hpf e10)) ?_
  refine seq ?_
  obtain⟨u11,q12,h⟩:=obs h
  have f13:=lidx_f q12
  try simp only[NRM,Int.reduceToNat]at f13
  obtain⟨⟨r14,r15⟩,q16,h⟩:=obs h
  dsimp only at h
  have f17:=(hk 1 152 rfl).ret (u11,o7,l3) q16 rfl rfl
  have e18:ecall O [.prn 5 o7 51 9 (List.map Redir.pv l3),V6 c1] 152 [.ref 0 0,.pv (V10 u11)]=some (retAV [],[.prn 5 r14 51 9 (List.map Redir.pv r15),V6 c1]):=ecall_eq rfl rfl rfl f17 rfl rfl rfl
  refine rg hS [0,3] (di1 (an f13.1 (an f13.2.1 (ap0 152 hpf e18)))) ?_
  refine seq ?_
  refine srg hS [0,3,22] di ?_
  refine ifk h (fun hb19 h=>?_) fun hb19 h=>?_
  ·obtain⟨o20,q21,h⟩:=obs h
   have f22:=(hk 0 103 rfl).ret (([[32]]:List Str),r14,r15) q21 rfl rfl
   try simp only[PVE]at f22
   have e23:ecall O [.prn 5 r14 51 9 (List.map Redir.pv r15),V6 c1] 103 [.ref 0 0,.full (List.map PV.str [[32]])]=some (retAV [],[.prn 5 o20 51 9 (List.map Redir.pv r15),V6 c1]):=ecall_eq rfl rfl rfl f22 rfl rfl rfl
   try simp only[PVE]at e23
   refine rg hS [0,3] (di1 (ap0 103 hpf e23)) ?_
   obtain⟨⟨o24,m25⟩,q26,h⟩:=obs h
   dsimp only at h
   have f27:=(hk 2 102 rfl).ret (c1.kids_,([]:Str),o20,r15) q26 rfl rfl
   have e28:ecall O [.prn 5 o20 51 9 (List.map Redir.pv r15),V6 c1] 102 [.ref 0 0,vC c1.kids_,as_ []]=some (retAV [],[.prn 5 o24 51 9 (List.map Redir.pv m25),V6 c1]):=ecall_eq rfl rfl rfl f27 rfl rfl rfl
   refine rg hS [] (di1 (ap0 102 hpf e28)) ?_
   cases h
   exact fin
  ·obtain⟨⟨o29,m30⟩,q31,h⟩:=obs h
   dsimp only at h
   have f32:=(hk 2 102 rfl).ret (c1.kids_,([]:Str),r14,r15) q31 rfl rfl
   have e33:ecall O [.prn 5 r14 51 9 (List.map Redir.pv r15),V6 c1] 102 [.ref 0 0,vC c1.kids_,as_ []]=some (retAV [],[.prn 5 o29 51 9 (List.map Redir.pv m30),V6 c1]):=ecall_eq rfl rfl rfl f32 rfl rfl rfl
   refine rg hS [] (di1 (ap0 102 hpf e33)) ?_
   cases h
   exact fin
 ·refine srg hS [0,3,5,30] di ?_
  refine ifs h (fun hb34 h=>?_) fun hb34 h=>?_
  ·refine seq ?_
   obtain⟨u35,q36,h⟩:=obs h
   have f37:=lidx_f q36
   try simp only[NRM,Int.reduceToNat]at f37
   obtain⟨⟨o38,m39⟩,q40,h⟩:=obs h
   dsimp only at h
   have f41:=(hk 3 104 rfl).ret (([105,102,40]:Str),u35.kids_,([41,32]:Str),b2,l3) q40 rfl rfl
   try simp only[PVE]at f41
   have e42:ecall O [.prn 5 b2 51 9 (List.map Redir.pv l3),V6 c1] 104 [.ref 0 0,as_ [105,102,40],vC u35.kids_,as_ [41,32]]=some (retAV [],[.prn 5 o38 51 9 (List.map Redir.pv m39),V6 c1]):=ecall_eq rfl rfl rfl f41 rfl rfl rfl
   refine rg hS [0,3] (di1 (an f37.1 (an f37.2.1 (ap0 104 hpf e42)))) ?_
   obtain⟨u43,q44,h⟩:=obs h
   have f45:=lidx_f q44
   try simp only[NRM,Int.reduceToNat]at f45
   obtain⟨⟨r46,r47⟩,q48,h⟩:=obs h
   dsimp only at h
   have f49:=(hk 4 66 rfl).ret (u43,o38,m39) q48 rfl rfl
   have e50:ecall O [.prn 5 o38 51 9 (List.map Redir.pv m39),V6 c1] 66 [.ref 0 0,.pv (V9 u43)]=some (retAV [],[.prn 5 r46 51 9 (List.map Redir.pv r47),V6 c1]):=ecall_eq rfl rfl rfl f49 rfl rfl rfl
   refine rg hS [] (di1 (an f45.1 (an f45.2.1 (ap0 66 hpf e50)))) ?_
   cases h
   exact fin
  ·refine srg hS [0,3,5,45] di ?_
   refine ifs h (fun hb51 h=>?_) fun hb51 h=>?_
   ·refine seq ?_
    obtain⟨u52,q53,h⟩:=obs h
    have f54:=lidx_f q53
    try simp only[NRM,Int.reduceToNat]at f54
    obtain⟨⟨o55,m56⟩,q57,h⟩:=obs h
    dsimp only at h
    have f58:=(hk 3 104 rfl).ret (([119,104,105,108,101,40]:Str),u52.kids_,([41,32]:Str),b2,l3) q57 rfl rfl
    try simp only[PVE]at f58
    have e59:ecall O [.prn 5 b2 51 9 (List.map Redir.pv l3),V6 c1] 104 [.ref 0 0,as_ [119,104,105,108,101,40],vC u52.kids_,as_ [41,32]]=some (retAV [],[.prn 5 o55 51 9 (List.map Redir.pv m56),V6 c1]):=ecall_eq rfl rfl rfl f58 rfl rfl rfl
    refine rg hS [0,3] (di1 (an f54.1 (an f54.2.1 (ap0 104 hpf e59)))) ?_
    obtain⟨u60,q61,h⟩:=obs h
    have f62:=lidx_f q61
    try simp only[NRM,Int.reduceToNat]at f62
    obtain⟨⟨r63,r64⟩,q65,h⟩:=obs h
    dsimp only at h
    have f66:=(hk 4 66 rfl).ret (u60,o55,m56) q65 rfl rfl
    have e67:ecall O [.prn 5 o55 51 9 (List.map Redir.pv m56),V6 c1] 66 [.ref 0 0,.pv (V9 u60)]=some (retAV [],[.prn 5 r63 51 9 (List.map Redir.pv r64),V6 c1]):=ecall_eq rfl rfl rfl f66 rfl rfl rfl
    refine rg hS [] (di1 (an f62.1 (an f62.2.1 (ap0 66 hpf e67)))) ?_
    cases h
    exact fin
   ·refine srg hS [0,3,5,60] di ?_
    refine ifs h (fun hb68 h=>?_) fun hb68 h=>?_
    ·refine seq ?_
     obtain⟨o69,q70,h⟩:=obs h
     have f71:=(hk 0 103 rfl).ret (([[102,111,114,40],c1.name_,[32,105,110]]:List Str),b2,l3) q70 rfl rfl
     try simp only[PVE]at f71
     have e72:ecall O [.prn 5 b2 51 9 (List.map Redir.pv l3),V6 c1] 103 [.ref 0 0,.full (List.map PV.str [[102,111,114,40],c1.name_,[32,105,110]])]=some (retAV [],[.prn 5 o69 51 9 (List.map Redir.pv l3),V6 c1]):=ecall_eq rfl rfl rfl f71 rfl rfl rfl
     try simp only[PVE]at e72
     refine rg hS [0,3] (di1 (ap0 103 hpf e72)) ?_
     refine seq ?_
     obtain⟨⟨o73,m74⟩,q75,h⟩:=obs h
     dsimp only at h
     have f76:=(hk 5 153 rfl).ret (c1.words_,o69,l3) q75 rfl rfl
     have e77:ecall O [.prn 5 o69 51 9 (List.map Redir.pv l3),V6 c1] 153 [.ref 0 0,vWo c1.words_]=some (retAV [],[.prn 5 o73 51 9 (List.map Redir.pv m74),V6 c1]):=ecall_eq rfl rfl rfl f76 rfl rfl rfl
     refine rg hS [0,3] (di1 (ap0 153 hpf e77)) ?_
     refine seq ?_
     obtain⟨o78,q79,h⟩:=obs h
     have f80:=(hk 0 103 rfl).ret (([[41,32]]:List Str),o73,m74) q79 rfl rfl
     try simp only[PVE]at f80
     have e81:ecall O [.prn 5 o73 51 9 (List.map Redir.pv m74),V6 c1] 103 [.ref 0 0,.full (List.map PV.str [[41,32]])]=some (retAV [],[.prn 5 o78 51 9 (List.map Redir.pv m74),V6 c1]):=ecall_eq rfl rfl rfl f80 rfl rfl rfl
     try simp only[PVE]at e81
     refine rg hS [0,3] (di1 (ap0 103 hpf e81)) ?_
     obtain⟨⟨o82,m83⟩,q84,h⟩:=obs h
     dsimp only at h
     have f85:=(hk 2 102 rfl).ret (c1.kids_,([]:Str),o78,m74) q84 rfl rfl
     have e86:ecall O [.prn 5 o78 51 9 (List.map Redir.pv m74),V6 c1] 102 [.ref 0 0,vC c1.kids_,as_ []]=some (retAV [],[.prn 5 o82 51 9 (List.map Redir.pv m83),V6 c1]):=ecall_eq rfl rfl rfl f85 rfl rfl rfl
     refine rg hS [] (di1 (ap0 102 hpf e86)) ?_
     cases h
     exact fin
    ·refine srg hS [0,3,5,78] di ?_
     refine ifs h (fun hb87 h=>?_) fun hb87 h=>?_
     ·obtain⟨⟨o88,m89⟩,q90,h⟩:=obs h
      dsimp only at h
      have f91:=(hk 6 154 rfl).ret (c1,b2,l3) q90 rfl rfl
      have e92:ecall O [.prn 5 b2 51 9 (List.map Redir.pv l3),V6 c1] 154 [.ref 0 0,.pv (V9 c1)]=some (retAV [],[.prn 5 o88 51 9 (List.map Redir.pv m89),V6 c1]):=ecall_eq rfl rfl rfl f91 rfl rfl rfl
      refine rg hS [] (di1 (ap0 154 hpf e92)) ?_
      cases h
      exact fin
     ·refine srg hS [0,3,5,83] di ?_
      refine ifs h (fun hb93 h=>?_) fun hb93 h=>?_
      ·refine seq ?_
       obtain⟨o94,q95,h⟩:=obs h
       have f96:=(hk 0 103 rfl).ret (([[102,110,32],c1.name_]:List Str),b2,l3) q95 rfl rfl
       try simp only[PVE]at f96
       have e97:ecall O [.prn 5 b2 51 9 (List.map Redir.pv l3),V6 c1] 103 [.ref 0 0,.full (List.map PV.str [[102,110,32],c1.name_])]=some (retAV [],[.prn 5 o94 51 9 (List.map Redir.pv l3),V6 c1]):=ecall_eq rfl rfl rfl f96 rfl rfl rfl
       try simp only[PVE]at e97
       refine rg hS [0,3] (di1 (ap0 103 hpf e97)) ?_
       refine srg hS [0,3,93] di ?_
       refine ifk h (fun hb98 h=>?_) fun hb98 h=>?_
       ·obtain⟨⟨o99,m100⟩,q101,h⟩:=obs h
        dsimp only at h
        have f102:=(hk 3 104 rfl).ret (([32,123]:Str),c1.kids_,([125]:Str),o94,l3) q101 rfl rfl
        try simp only[PVE]at f102
        have e103:ecall O [.prn 5 o94 51 9 (List.map Redir.pv l3),V6 c1] 104 [.ref 0 0,as_ [32,123],vC c1.kids_,as_ [125]]=some (retAV [],[.prn 5 o99 51 9 (List.map Redir.pv m100),V6 c1]):=ecall_eq rfl rfl rfl f102 rfl rfl rfl
        refine rg hS [] (di1 (ap0 104 hpf e103)) ?_
        cases h
        exact fin
       ·cases h
        exact fin
      ·refine srg hS [0,3,98] di ?_
       refine ifk h (fun hb104 h=>?_) fun hb104 h=>?_
       ·refine seq ?_
        obtain⟨o105,q106,h⟩:=obs h
        have f107:=(hk 0 103 rfl).ret (([[126]]:List Str),b2,l3) q106 rfl rfl
        try simp only[PVE]at f107
        have e108:ecall O [.prn 5 b2 51 9 (List.map Redir.pv l3),V6 c1] 103 [.ref 0 0,.full (List.map PV.str [[126]])]=some (retAV [],[.prn 5 o105 51 9 (List.map Redir.pv l3),V6 c1]):=ecall_eq rfl rfl rfl f107 rfl rfl rfl
        try simp only[PVE]at e108
        refine rg hS [0,3] (di1 (ap0 103 hpf e108)) ?_
        obtain⟨⟨o109,m110⟩,q111,h⟩:=obs h
        dsimp only at h
        have f112:=(hk 5 153 rfl).ret (c1.words_,o105,l3) q111 rfl rfl
        have e113:ecall O [.prn 5 o105 51 9 (List.map Redir.pv l3),V6 c1] 153 [.ref 0 0,vWo c1.words_]=some (retAV [],[.prn 5 o109 51 9 (List.map Redir.pv m110),V6 c1]):=ecall_eq rfl rfl rfl f112 rfl rfl rfl
        refine rg hS [] (di1 (ap0 153 hpf e113)) ?_
        cases h
        exact fin
       ·cases h
        exact fin
theorem g_F66{w66:Y5}{w152:Y2}(c:AllG env [(S102 (F102 w66)),(S103 F103),(S104 (F104 w66)),(S105 (F105 w152)),(S106 (F106 w152)),(S107 (F107 w66 w152))]):GoodH env (S66 (F66 w66 w152)):=by
 obtain⟨O,X,hS,hX,hpf,hk⟩:=orp c
 refine gh fn_66 78 ?_
 rintro⟨c1,b2,l3⟩ (r:Str×(List Redir)) h m em
 refine ghs em ?_;clear em m
 replace h:F66 w66 w152 c1 b2 l3=some r:=h
 rw[F66]at h
 refine srg hS [0,3] di ?_
 refine srg hS [0,3,5] di ?_
 refine block ?_
 refine srg hS [0,3,5,9] di ?_
 refine ifs h (fun hb6 h=>?_) fun hb6 h=>?_
 ·refine seq ?_
  obtain⟨⟨o7,m8⟩,q9,h⟩:=obs h
  dsimp only at h
  have f10:=(hk 0 102 rfl).ret (c1.kids_,([]:Str),b2,l3) q9 rfl rfl
  have e11:ecall O [.prn 5 b2 51 9 (List.map Redir.pv l3),V6 c1] 102 [.ref 0 0,vC c1.kids_,as_ []]=some (retAV [],[.prn 5 o7 51 9 (List.map Redir.pv m8),V6 c1]):=ecall_eq rfl rfl rfl f10 rfl rfl rfl
  refine rg hS [0] (di1 (ap0 102 hpf e11)) ?_
  obtain⟨o12,q13,h⟩:=obs h
  have f14:=(hk 1 103 rfl).ret (([[32,38]]:List Str),o7,m8) q13 rfl rfl
  try simp only[PVE]at f14
  have e15:ecall O [.prn 5 o7 51 9 (List.map Redir.pv m8),V6 c1] 103 [.ref 0 0,.full (List.map PV.str [[32,38]])]=some (retAV [],[.prn 5 o12 51 9 (List.map Redir.pv m8),V6 c1]):=ecall_eq rfl rfl rfl f14 rfl rfl rfl
  try simp only[PVE]at e15
  refine rg hS [] (di1 (ap0 103 hpf e15)) ?_
  cases h
  exact fin
 ·refine srg hS [0,3,5,18] di ?_
  refine ifs h (fun hb16 h=>?_) fun hb16 h=>?_
  ·obtain⟨⟨o17,m18⟩,q19,h⟩:=obs h
   dsimp only at h
   have f20:=(hk 0 102 rfl).ret (c1.kids_,([32,38,38,32]:Str),b2,l3) q19 rfl rfl
   try simp only[PVE]at f20
   have e21:ecall O [.prn 5 b2 51 9 (List.map Redir.pv l3),V6 c1] 102 [.ref 0 0,vC c1.kids_,as_ [32,38,38,32]]=some (retAV [],[.prn 5 o17 51 9 (List.map Redir.pv m18),V6 c1]):=ecall_eq rfl rfl rfl f20 rfl rfl rfl
   refine rg hS [] (di1 (ap0 102 hpf e21)) ?_
   cases h
   exact fin
  ·refine srg hS [0,3,5,24] di ?_
   refine ifs h (fun hb22 h=>?_) fun hb22 h=>?_
   ·obtain⟨⟨o23,m24⟩,q25,h⟩:=obs h
    dsimp only at h
    have f26:=(hk 0 102 rfl).ret (c1.kids_,([32,124,124,32]:Str),b2,l3) q25 rfl rfl
    try simp only[PVE]at f26
    have e27:ecall O [.prn 5 b2 51 9 (List.map Redir.pv l3),V6 c1] 102 [.ref 0 0,vC c1.kids_,as_ [32,124,124,32]]=some (retAV [],[.prn 5 o23 51 9 (List.map Redir.pv m24),V6 c1]):=ecall_eq rfl rfl rfl f26 rfl rfl rfl
    refine rg hS [] (di1 (ap0 102 hpf e27)) ?_
    cases h
    exact fin
   ·refine srg hS [0,3,5,30] di ?_
    refine ifs h (fun hb28 h=>?_) fun hb28 h=>?_
    ·obtain⟨⟨o29,m30⟩,q31,h⟩:=obs h
     dsimp only at h
     have f32:=(hk 0 102 rfl).ret (c1.kids_,([32,124,32]:Str),b2,l3) q31 rfl rfl
     try simp only[PVE]at f32
     have e33:ecall O [.prn 5 b2 51 9 (List.map Redir.pv l3),V6 c1] 102 [.ref 0 0,vC c1.kids_,as_ [32,124,32]]=some (retAV [],[.prn 5 o29 51 9 (List.map Redir.pv m30),V6 c1]):=ecall_eq rfl rfl rfl f32 rfl rfl rfl
     refine rg hS [] (di1 (ap0 102 hpf e33)) ?_
     cases h
     exact fin
    ·refine srg hS [0,3,5,36] di ?_
     refine ifs h (fun hb34 h=>?_) fun hb34 h=>?_
     ·refine seq ?_
      obtain⟨o35,q36,h⟩:=obs h
      have f37:=(hk 1 103 rfl).ret (([[33,32]]:List Str),b2,l3) q36 rfl rfl
      try simp only[PVE]at f37
      have e38:ecall O [.prn 5 b2 51 9 (List.map Redir.pv l3),V6 c1] 103 [.ref 0 0,.full (List.map PV.str [[33,32]])]=some (retAV [],[.prn 5 o35 51 9 (List.map Redir.pv l3),V6 c1]):=ecall_eq rfl rfl rfl f37 rfl rfl rfl
      try simp only[PVE]at e38
      refine rg hS [0,3] (di1 (ap0 103 hpf e38)) ?_
      obtain⟨⟨o39,m40⟩,q41,h⟩:=obs h
      dsimp only at h
      have f42:=(hk 0 102 rfl).ret (c1.kids_,([]:Str),o35,l3) q41 rfl rfl
      have e43:ecall O [.prn 5 o35 51 9 (List.map Redir.pv l3),V6 c1] 102 [.ref 0 0,vC c1.kids_,as_ []]=some (retAV [],[.prn 5 o39 51 9 (List.map Redir.pv m40),V6 c1]):=ecall_eq rfl rfl rfl f42 rfl rfl rfl
      refine rg hS [] (di1 (ap0 102 hpf e43)) ?_
      cases h
      exact fin
     ·refine srg hS [0,3,5,45] di ?_
      refine ifs h (fun hb44 h=>?_) fun hb44 h=>?_
      ·refine seq ?_
       obtain⟨o45,q46,h⟩:=obs h
       have f47:=(hk 1 103 rfl).ret (([[64,32]]:List Str),b2,l3) q46 rfl rfl
       try simp only[PVE]at f47
       have e48:ecall O [.prn 5 b2 51 9 (List.map Redir.pv l3),V6 c1] 103 [.ref 0 0,.full (List.map PV.str [[64,32]])]=some (retAV [],[.prn 5 o45 51 9 (List.map Redir.pv l3),V6 c1]):=ecall_eq rfl rfl rfl f47 rfl rfl rfl
       try simp only[PVE]at e48
       refine rg hS [0,3] (di1 (ap0 103 hpf e48)) ?_
       obtain⟨⟨o49,m50⟩,q51,h⟩:=obs h
       dsimp only at h
       have f52:=(hk 0 102 rfl).ret (c1.kids_,([]:Str),o45,l3) q51 rfl rfl
       have e53:ecall O [.prn 5 o45 51 9 (List.map Redir.pv l3),V6 c1] 102 [.ref 0 0,vC c1.kids_,as_ []]=some (retAV [],[.prn 5 o49 51 9 (List.map Redir.pv m50),V6 c1]):=ecall_eq rfl rfl rfl f52 rfl rfl rfl
       refine rg hS [] (di1 (ap0 102 hpf e53)) ?_
       cases h
       exact fin
      ·refine srg hS [0,3,5,54] di ?_
       refine ifs h (fun hb54 h=>?_) fun hb54 h=>?_
       ·refine seq ?_
        obtain⟨o55,q56,h⟩:=obs h
        have f57:=(hk 1 103 rfl).ret (([[105,102,32,110,111,116,32]]:List Str),b2,l3) q56 rfl rfl
        try simp only[PVE]at f57
        have e58:ecall O [.prn 5 b2 51 9 (List.map Redir.pv l3),V6 c1] 103 [.ref 0 0,.full (List.map PV.str [[105,102,32,110,111,116,32]])]=some (retAV [],[.prn 5 o55 51 9 (List.map Redir.pv l3),V6 c1]):=ecall_eq rfl rfl rfl f57 rfl rfl rfl
        try simp only[PVE]at e58
        refine rg hS [0,3] (di1 (ap0 103 hpf e58)) ?_
        obtain⟨⟨o59,m60⟩,q61,h⟩:=obs h
        dsimp only at h
        have f62:=(hk 0 102 rfl).ret (c1.kids_,([]:Str),o55,l3) q61 rfl rfl
        have e63:ecall O [.prn 5 o55 51 9 (List.map Redir.pv l3),V6 c1] 102 [.ref 0 0,vC c1.kids_,as_ []]=some (retAV [],[.prn 5 o59 51 9 (List.map Redir.pv m60),V6 c1]):=ecall_eq rfl rfl rfl f62 rfl rfl rfl
        refine rg hS [] (di1 (ap0 102 hpf e63)) ?_
        cases h
        exact fin
       ·refine srg hS [0,3,5,63] di ?_
        refine ifs h (fun hb64 h=>?_) fun hb64 h=>?_
        ·refine seq ?_
         obtain⟨⟨o65,m66⟩,q67,h⟩:=obs h
         dsimp only at h
         have f68:=(hk 2 104 rfl).ret (([123]:Str),c1.kids_,([125]:Str),b2,l3) q67 rfl rfl
         try simp only[PVE]at f68
         have e69:ecall O [.prn 5 b2 51 9 (List.map Redir.pv l3),V6 c1] 104 [.ref 0 0,as_ [123],vC c1.kids_,as_ [125]]=some (retAV [],[.prn 5 o65 51 9 (List.map Redir.pv m66),V6 c1]):=ecall_eq rfl rfl rfl f68 rfl rfl rfl
         refine rg hS [0,3] (di1 (ap0 104 hpf e69)) ?_
         obtain⟨⟨o70,m71⟩,q72,h⟩:=obs h
         dsimp only at h
         have f73:=(hk 3 105 rfl).ret (c1.redirs_,o65,m66) q72 rfl rfl
         have e74:ecall O [.prn 5 o65 51 9 (List.map Redir.pv m66),V6 c1] 105 [.ref 0 0,vRe c1.redirs_]=some (retAV [],[.prn 5 o70 51 9 (List.map Redir.pv m71),V6 c1]):=ecall_eq rfl rfl rfl f73 rfl rfl rfl
         refine rg hS [] (di1 (ap0 105 hpf e74)) ?_
         cases h
         exact fin
        ·refine srg hS [0,3,73] di ?_
         refine ifs h (fun hb75 h=>?_) fun hb75 h=>?_
         ·obtain⟨⟨o76,m77⟩,q78,h⟩:=obs h
          dsimp only at h
          have f79:=(hk 4 106 rfl).ret (c1,b2,l3) q78 rfl rfl
          have e80:ecall O [.prn 5 b2 51 9 (List.map Redir.pv l3),V6 c1] 106 [.ref 0 0,.pv (V9 c1)]=some (retAV [],[.prn 5 o76 51 9 (List.map Redir.pv m77),V6 c1]):=ecall_eq rfl rfl rfl f79 rfl rfl rfl
          refine rg hS [] (di1 (ap0 106 hpf e80)) ?_
          cases h
          exact fin
         ·obtain⟨⟨o81,m82⟩,q83,h⟩:=obs h
          dsimp only at h
          have f84:=(hk 5 107 rfl).ret (c1,b2,l3) q83 rfl rfl
          have e85:ecall O [.prn 5 b2 51 9 (List.map Redir.pv l3),V6 c1] 107 [.ref 0 0,.pv (V9 c1)]=some (retAV [],[.prn 5 o81 51 9 (List.map Redir.pv m82),V6 c1]):=ecall_eq rfl rfl rfl f84 rfl rfl rfl
          refine rg hS [] (di1 (ap0 107 hpf e85)) ?_
          cases h
          exact fin
theorem g_F190(c:AllG env [(S103 F103),SL_ReplaceAll]):GoodH env (S190 F190):=by
 obtain⟨O,X,hS,hX,hpf,hk⟩:=orp c
 have pf_216:O.pf 216=true:=pft hpf 216 rfl
 refine gh fn_190 56 ?_
 rintro⟨w1,b2,l3⟩ (r:Str) h m em
 refine ghs em ?_;clear em m
 replace h:F190 w1 b2 l3=some r:=h
 rw[F190]at h
 refine srg hS [0,3] di ?_
 refine seqJ (α:=Str) (fun l5=>⟨sl [(0,.ref 0 0),(3,.ref 1 0)],56,[.prn 5 l5 51 9 (List.map Redir.pv l3),V17 w1]⟩) (fun x=>F190_j1 w1 l3 x=some r) ?_ ?_
 ·intro l5 h
  rw[F190_j1]at h
  try dsimp only at h
  refine AW.st ?_
  refine srg hS [0,3,4] di ?_
  refine block ?_
  refine lp (α:=Nat×Int×Str) (fun(_,i6,l7)=>⟨sl [(0,.ref 0 0),(3,.ref 1 0),(4,ai i6)],56,[.prn 5 l7 51 9 (List.map Redir.pv l3),V17 w1]⟩) (fun x=>iter (F190_b3 w1 l3) x.1 x.2=some r) (fun x=>x.1) (BIG,(0,l5)) (Weak.slots kp) h ?_
  clear h
  intro⟨n48,i6,l7⟩ h
  replace h:=iter_some h;obtain⟨m10,rfl,h⟩:=h
  rw[F190_b3]at h
  try dsimp only at h
  refine AW.st ?_
  refine seq ?_
  refine srg hS [0,3,4,17] di ?_
  refine ifs h (fun hb11 h=>?_) fun hb11 h=>?_
  ·refine skip ?_
   refine block ?_
   refine srg hS [0,3,4,5] di ?_
   refine seq ?_
   refine block ?_
   refine lp (α:=Nat×Int) (fun(_,end12)=>⟨sl [(0,.ref 0 0),(3,.ref 1 0),(4,ai i6),(5,ai end12)],56,[.prn 5 l7 51 9 (List.map Redir.pv l3),V17 w1]⟩) (fun x=>iter (F190_b4 w1 i6 l7 l3 (iter (F190_b3 w1 l3) m10)) x.1 x.2=some r) (fun x=>x.1) (BIG,i6) (Weak.slots kp) h ?_
   clear h
   intro⟨n47,end12⟩ h
   replace h:=iter_some h;obtain⟨m15,rfl,h⟩:=h
   rw[F190_b4]at h
   try dsimp only at h
   refine AW.st ?_
   refine seq ?_
   refine seq ?_
   obtain⟨c16,q17,h⟩:=obs h
   have f18:=sidx_g (guardO_t q17)
   obtain⟨c19,q20,h⟩:=obs h
   have f21:=sidx_g (guardO_t q20)
   refine dreg mixed hS (ordp hpf (by kernel_rfl)) [(0,.ref 0 0),(3,.ref 1 0),(4,ai i6),(5,ai end12),(34,ab (decide (end12<(w1.text_.length:Int))&&decide (c16=c19)))] [.prn 5 l7 51 9 (List.map Redir.pv l3),V17 w1] ?_ ?_
   ·clear h hk hS hX c
    exact dh1 (an f18.1 (an f18.2.1 (an f18.2.2 (an f21.1 (an f21.2.1 f21.2.2)))))
   refine ifs h (fun hb22 h=>?_) fun hb22 h=>?_
   ·refine skip ?_
    refine block ?_
    refine rg hS [0,3,4,5] di ?_
    exact⟨(m15,IntKind.wrap .i64 (end12+1)),h,(Weak.norm (m:=2) (Nat.le_of_ble_eq_true rfl) kp hq rfl rfl),Nat.lt_succ_self _⟩
   ·refine exit ?_
    refine seq ?_
    obtain⟨t23,q24,h⟩:=obs h
    have f25:=sslice_f q24
    try simp only[NRM,Int.reduceToNat]at f25
    have f25e:=f25.2.2.2.2
    try simp only[NRM,Int.reduceToNat]at f25e
    have f25l:=f25.2.2.1
    try simp only[NRM,Int.reduceToNat]at f25l
    refine rg hS [0,3,4,5,6] (di1 (an f25.1 (an f25.2.1 (an f25l (an f25.2.2.2.1 f25e))))) ?_
    refine seq ?_
    refine seq ?_
    obtain⟨c26,q27,h⟩:=obs h
    have f28:=sidx_f q27
    refine rg hS [0,3,5,6,46] (di1 (an f28.1 (an f28.2.1 f28.2.2))) ?_
    refine ifk h (fun hb29 h=>?_) fun hb29 h=>?_
    ·obtain⟨t30,q31,h⟩:=obs h
     have f32:=(hk 1 216 rfl).ret (t23,([39]:Str),([39,39]:Str)) q31 rfl rfl
     try simp only[PVE]at f32
     obtain⟨s33,q34,h⟩:=obs h
     have f35:=catO_f q34
     try simp only[LNS,List.length_replicate,Nat.reduceAdd,Nat.reduceLeDiff,Nat.add_zero,Nat.reduceMul]at f35
     obtain⟨s36,q37,h⟩:=obs h
     have f38:=catO_f q37
     try simp only[LNS,List.length_replicate,Nat.reduceAdd,Nat.reduceLeDiff,Nat.add_zero,Nat.reduceMul]at f38
     refine rg hS [0,3,5,6] (di1 (an pf_216 (an f32 (an f35.1 (an f35.2 (an f38.1 f38.2)))))) ?_
     refine seq ?_
     obtain⟨o39,q40,h⟩:=obs h
     have f41:=(hk 0 103 rfl).ret (([s36]:List Str),l7,l3) q40 rfl rfl
     try simp only[PVE]at f41
     have e42:ecall O [.prn 5 l7 51 9 (List.map Redir.pv l3),V17 w1] 103 [.ref 0 0,.full (List.map PV.str [s36])]=some (retAV [],[.prn 5 o39 51 9 (List.map Redir.pv l3),V17 w1]):=ecall_eq rfl rfl rfl f41 rfl rfl rfl
     try simp only[PVE]at e42
     refine rg hS [0,3,5] (di1 (ap0 103 hpf e42)) ?_
     refine rg hS [0,3,4] di ?_
     exact⟨(m10,(end12,o39)),h,(Weak.norm (m:=2) (Nat.le_of_ble_eq_true rfl) kp hq rfl rfl),Nat.lt_succ_self _⟩
    ·refine seq ?_
     obtain⟨o43,q44,h⟩:=obs h
     have f45:=(hk 0 103 rfl).ret (([t23]:List Str),l7,l3) q44 rfl rfl
     try simp only[PVE]at f45
     have e46:ecall O [.prn 5 l7 51 9 (List.map Redir.pv l3),V17 w1] 103 [.ref 0 0,.full (List.map PV.str [t23])]=some (retAV [],[.prn 5 o43 51 9 (List.map Redir.pv l3),V17 w1]):=ecall_eq rfl rfl rfl f45 rfl rfl rfl
     try simp only[PVE]at e46
     refine rg hS [0,3,5] (di1 (ap0 103 hpf e46)) ?_
     refine rg hS [0,3,4] di ?_
     exact⟨(m10,(end12,o43)),h,(Weak.norm (m:=2) (Nat.le_of_ble_eq_true rfl) kp hq rfl rfl),Nat.lt_succ_self _⟩
  ·refine exit ?_
   cases h
   exact fin
 refine srg hS [0,3,9] di ?_
 refine ifk h (fun hb49 h=>?_) fun hb49 h=>?_
 ·obtain⟨o50,q51,h⟩:=obs h
  have f52:=(hk 0 103 rfl).ret (([[39,39]]:List Str),b2,l3) q51 rfl rfl
  try simp only[PVE]at f52
  have e53:ecall O [.prn 5 b2 51 9 (List.map Redir.pv l3),V17 w1] 103 [.ref 0 0,.full (List.map PV.str [[39,39]])]=some (retAV [],[.prn 5 o50 51 9 (List.map Redir.pv l3),V17 w1]):=ecall_eq rfl rfl rfl f52 rfl rfl rfl
  try simp only[PVE]at e53
  refine rg hS [0,3] (di1 (ap0 103 hpf e53)) ?_
  exact⟨o50,h,(Weak.norm (m:=2) (Nat.le_of_ble_eq_true rfl) kp hq rfl rfl)⟩
 ·exact⟨b2,h,(Weak.norm (m:=2) (Nat.le_of_ble_eq_true rfl) kp hq rfl rfl)⟩
theorem g_F191{w152:Y2}(c:AllG env [(S103 F103),(S152 w152)]):GoodH env (S191 (F191 w152)):=by
 obtain⟨O,X,hS,hX,hpf,hk⟩:=orp c
 refine gh fn_191 37 ?_
 rintro⟨open1,l2,between3,closing4,b5,l6⟩ (r:Str×(List Redir)) h m em
 refine ghs em ?_;clear em m
 replace h:F191 w152 open1 l2 between3 closing4 b5 l6=some r:=h
 rw[F191]at h
 refine seq ?_
 obtain⟨o9,q10,h⟩:=obs h
 have f11:=(hk 0 103 rfl).ret (([open1]:List Str),b5,l6) q10 rfl rfl
 try simp only[PVE]at f11
 have e12:ecall O [.prn 5 b5 51 9 (List.map Redir.pv l6)] 103 [.ref 0 0,.full (List.map PV.str [open1])]=some (retAV [],[.prn 5 o9 51 9 (List.map Redir.pv l6)]):=ecall_eq rfl rfl rfl f11 rfl rfl rfl
 try simp only[PVE]at e12
 refine rg hS [0,2,3,4] (di1 (ap0 103 hpf e12)) ?_
 refine seq ?_
 refine srg hS [0,3,4,16,17,18] di ?_
 refine block ?_
 refine lp (α:=Nat×Int×Str×(List Redir)) (fun(_,i13,l14,m15)=>⟨sl [(0,.ref 0 0),(3,as_ between3),(4,as_ closing4),(16,vWo l2),(17,ai (l2.length:Int)),(18,ai i13)],37,[.prn 5 l14 51 9 (List.map Redir.pv m15)]⟩) (fun x=>iter (F191_b1 l2 between3 w152 closing4) x.1 x.2=some r) (fun x=>x.1) (BIG,(0,o9,l6)) (Weak.slots kp) h ?_
 clear h
 intro⟨n42,i13,l14,m15⟩ h
 replace h:=iter_some h;obtain⟨m18,rfl,h⟩:=h
 rw[F191_b1]at h
 try dsimp only at h
 refine AW.st ?_
 refine srg hS [0,3,4,16,17,18,19] di ?_
 refine seq ?_
 refine ifs h (fun hb19 h=>?_) fun hb19 h=>?_
 ·refine skip ?_
  refine seq ?_
  refine block ?_
  refine seq ?_
  obtain⟨u20,q21,h⟩:=obs h
  have f22:=lidx_f q21
  refine rg hS [0,3,4,10,11,16,17,18] (di1 (an f22.1 f22.2.1)) ?_
  refine seq ?_
  refine srg hS [0,3,4,11,16,17,18,24] di ?_
  refine ifk h (fun hb23 h=>?_) fun hb23 h=>?_
  ·obtain⟨o24,q25,h⟩:=obs h
   have f26:=(hk 0 103 rfl).ret (([between3]:List Str),l14,m15) q25 rfl rfl
   try simp only[PVE]at f26
   have e27:ecall O [.prn 5 l14 51 9 (List.map Redir.pv m15),V17 u20] 103 [.ref 0 0,.full (List.map PV.str [between3])]=some (retAV [],[.prn 5 o24 51 9 (List.map Redir.pv m15),V17 u20]):=ecall_eq rfl rfl rfl f26 rfl rfl rfl
   try simp only[PVE]at e27
   refine rg hS [0,3,4,11,16,17,18] (di1 (ap0 103 hpf e27)) ?_
   obtain⟨⟨r28,r29⟩,q30,h⟩:=obs h
   dsimp only at h
   have f31:=(hk 1 152 rfl).ret (u20,o24,m15) q30 rfl rfl
   have e32:ecall O [.prn 5 o24 51 9 (List.map Redir.pv m15),V17 u20] 152 [.ref 0 0,.pv (V10 u20)]=some (retAV [],[.prn 5 r28 51 9 (List.map Redir.pv r29),V17 u20]):=ecall_eq rfl rfl rfl f31 rfl rfl rfl
   refine rg hS [0,3,4,16,17,18] (di1 (ap0 152 hpf e32)) ?_
   refine rg hS [0,3,4,16,17,18] di ?_
   exact⟨(m18,(IntKind.wrap .i64 (i13+1),r28,r29)),h,(Weak.norm (m:=1) (Nat.le_of_ble_eq_true rfl) kp hq rfl rfl),Nat.lt_succ_self _⟩
  ·obtain⟨⟨r33,r34⟩,q35,h⟩:=obs h
   dsimp only at h
   have f36:=(hk 1 152 rfl).ret (u20,l14,m15) q35 rfl rfl
   have e37:ecall O [.prn 5 l14 51 9 (List.map Redir.pv m15),V17 u20] 152 [.ref 0 0,.pv (V10 u20)]=some (retAV [],[.prn 5 r33 51 9 (List.map Redir.pv r34),V17 u20]):=ecall_eq rfl rfl rfl f36 rfl rfl rfl
   refine rg hS [0,3,4,16,17,18] (di1 (ap0 152 hpf e37)) ?_
   refine rg hS [0,3,4,16,17,18] di ?_
   exact⟨(m18,(IntKind.wrap .i64 (i13+1),r33,r34)),h,(Weak.norm (m:=1) (Nat.le_of_ble_eq_true rfl) kp hq rfl rfl),Nat.lt_succ_self _⟩
 ·refine exit ?_
  obtain⟨o38,q39,h⟩:=obs h
  have f40:=(hk 0 103 rfl).ret (([closing4]:List Str),l14,m15) q39 rfl rfl
  try simp only[PVE]at f40
  have e41:ecall O [.prn 5 l14 51 9 (List.map Redir.pv m15)] 103 [.ref 0 0,.full (List.map PV.str [closing4])]=some (retAV [],[.prn 5 o38 51 9 (List.map Redir.pv m15)]):=ecall_eq rfl rfl rfl f40 rfl rfl rfl
  try simp only[PVE]at e41
  refine rg hS [] (di1 (ap0 103 hpf e41)) ?_
  cases h
  exact fin
end Go.Abs.U48
