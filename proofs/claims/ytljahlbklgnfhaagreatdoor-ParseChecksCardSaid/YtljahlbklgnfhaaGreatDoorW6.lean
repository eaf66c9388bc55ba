import Derived.Test.YtljahlbklgnfhaaGreatDoorD1
set_option linter.unusedVariables false
set_option linter.unusedSimpArgs false
set_option linter.defProp false
set_option maxRecDepth 8000
set_option maxHeartbeats 4000000
namespace Go.Abs.U48
open Go.RowKit Go.Proofs AW
theorem g_F49(c:AllG env [(S85 F85)]):GoodH env (S49 F49):=by
 obtain⟨O,X,hS,hX,hpf,hk⟩:=orp c
 refine gh fn_49 9 ?_
 rintro(s1:(List Cmd)) (r:Bool) h m em
 refine ghs em ?_;clear em m
 replace h:F49 s1=some r:=h
 rw[F49]at h
 refine srg hS [0,1] di ?_
 refine seq ?_
 obtain⟨r3,q4,h⟩:=obs h
 have f5:=(hk 0 85 rfl).ret s1 q4 rfl rfl
 have e6:ecall O [] 85 [vC s1,.fn 50 []]=some (retAV [ai r3],[]):=ecall_eq rfl rfl rfl f5 rfl rfl rfl
 refine rg hS [4] (di1 (ap0 85 hpf e6)) ?_
 cases h;exact ret fin
theorem g_F21(c:AllG env [(S15 (K15 BIG)),(S49 F49)]):GoodH env (S21 F21):=by
 obtain⟨O,X,hS,hX,hpf,hk⟩:=orp c
 have pf_15:O.pf 15=true:=pft hpf 15 rfl
 refine gh fn_21 11 ?_
 rintro(l1:(List Cmd)) (r:Bool) h m em
 refine ghs em ?_;clear em m
 replace h:F21 l1=some r:=h
 rw[F21]at h
 refine srg hS [0] di ?_
 refine seq ?_
 obtain⟨r3,q4,h⟩:=obs h
 have f5:=hk 0 15 rfl
 replace f5:=f5.ret l1 q4 rfl rfl
 refine AW.cases (decide (r3≤1024)) (fun hsp23=>?_) (fun hsp23=>?_)
 ·replace h:=bif_t hsp23 h
  obtain⟨r6,q7,h⟩:=obs h
  have f8:=(hk 1 49 rfl).ret l1 q7 rfl rfl
  have e9:ecall O [] 49 [vC l1,.fn 50 []]=some (retAV [ab r6],[]):=ecall_eq rfl rfl rfl f8 rfl rfl rfl
  refine reg hS [(2,ab (!r6))] [] (dk1 (an pf_15 (an f5 (an hsp23 (ap0 49 hpf e9))))) ?_
  cases h;exact ret fin
 ·replace h:=bif_f hsp23 h
  refine reg hS [(2,ab false)] [] (dk1 (an pf_15 (an f5 hsp23))) ?_
  cases h;exact ret fin
theorem g_F8(c:AllG env [(S19 F19),(S20 F20),(S21 F21)]):GoodH env (S8 F8):=by
 obtain⟨O,X,hS,hX,hpf,hk⟩:=orp c
 refine gh fn_8 34 ?_
 rintro(s1:Str) (r:(List Cmd)×Int×Int) h m em
 refine ghs em ?_;clear em m
 replace h:F8 s1=some r:=h
 rw[F8]at h
 refine srg hS [0] di ?_
 refine seq ?_
 obtain⟨⟨r5,r6,r7⟩,q8,h⟩:=obs h
 dsimp only at h
 have f9:=(hk 0 19 rfl).ret s1 q8 rfl rfl
 refine rg hS [0,5,6,7] (di1 (ap1 19 hpf f9)) ?_
 refine seq ?_
 refine srg hS [0,5,6,7,16] di ?_
 refine ifk h (fun hb10 h=>?_) fun hb10 h=>?_
 ·refine srg hS [2,3,4] di ?_
  cases h;exact ret fin
 ·refine seq ?_
  obtain⟨⟨r11,r12,r13⟩,q14,h⟩:=obs h
  dsimp only at h
  have f15:=(hk 1 20 rfl).ret (s1,r5) q14 rfl rfl
  refine rg hS [6,7,8] (di1 (ap1 20 hpf f15)) ?_
  refine seq ?_
  refine srg hS [6,7,8,27] di ?_
  refine ifk h (fun hb16 h=>?_) fun hb16 h=>?_
  ·refine srg hS [2,3,4] di ?_
   cases h;exact ret fin
  ·refine seq ?_
   refine seq ?_
   obtain⟨r17,q18,h⟩:=obs h
   have f19:=(hk 2 21 rfl).ret r11 q18 rfl rfl
   refine rg hS [8,32] (di1 (ap1 21 hpf f19)) ?_
   refine ifk h (fun hb20 h=>?_) fun hb20 h=>?_
   ·refine srg hS [2,3,4] di ?_
    cases h;exact ret fin
   ·refine srg hS [2,3,4] di ?_
    cases h;exact ret fin
theorem g_F99(c:AllG env [(S144 F144)]):GoodH env (S99 F99):=by
 obtain⟨O,X,hS,hX,hpf,hk⟩:=orp c
 refine gh fn_99 39 ?_
 rintro⟨c1,s2⟩ (r:Bool) h m em
 refine ghs em ?_;clear em m
 replace h:F99 c1 s2=some r:=h
 rw[F99]at h
 refine srg hS [2,3] di ?_
 refine seq ?_
 refine seq ?_
 obtain⟨r4,q5,h⟩:=obs h
 have f6:=(hk 0 144 rfl).ret c1.name_ q5 rfl rfl
 refine dreg mixed hS (ordp hpf (by kernel_rfl)) [(2,.ref 0 0),(3,.ref 1 0),(20,ab (!(s2.name_==r4)||(!s2.name_&&!decide (c1.name_=[]))))] [V6 c1,.var [ab s2.name_,ab s2.words_,ab s2.redirs_]] ?_ ?_
 ·clear h hk hS hX c
  exact dh1 (ap1 144 hpf f6)
 refine ifk h (fun hb7 h=>?_) fun hb7 h=>?_
 ·refine srg hS [4] di ?_
  cases h;exact ret fin
 ·refine seq ?_
  refine reg hS [(4,ab ((s2.words_||decide ((c1.words_.length:Int)=0))&&(s2.redirs_||decide ((c1.redirs_.length:Int)=0))))] [V6 c1,.var [ab s2.name_,ab s2.words_,ab s2.redirs_]] ?_ ?_
  ·clear h hk hS hX c
   exact dh
  cases h;exact ret fin
theorem g_F64{w98:Y4}(c:AllG env [(S98 w98),(S99 F99)]):GoodH env (S64 (F64 w98)):=by
 obtain⟨O,X,hS,hX,hpf,hk⟩:=orp c
 have pf_99:O.pf 99=true:=pft hpf 99 rfl
 refine gh fn_64 24 ?_
 rintro(c1:Cmd) (r:Bool) h m em
 refine ghs em ?_;clear em m
 replace h:F64 w98 c1=some r:=h
 rw[F64]at h
 refine srg hS [1] di ?_
 refine seq ?_
 refine srg hS [1,5] di ?_
 refine ifk h (fun hb3 h=>?_) fun hb3 h=>?_
 ·refine seq ?_
  obtain⟨r4,q5,h⟩:=obs h
  have f6:=(hk 0 98 rfl).ret c1 q5 rfl rfl
  refine rg hS [2] (di1 (ap1 98 hpf f6)) ?_
  cases h;exact ret fin
 ·refine seq ?_
  obtain⟨r7,q8,h⟩:=obs h
  have f9:=(hk 1 99 rfl).ret (c1,Shape.mk false false false) q8 rfl rfl
  obtain⟨u10,q11,h⟩:=obs h
  have f12:=lidx_g (guardO_t q11)
  try simp only[NRM,Int.reduceToNat]at f12
  obtain⟨r13,q14,h⟩:=obs h
  replace q14:=guardO_t q14
  have f15:=fun hg=>(hk 0 98 rfl).ret u10 (q14 hg) rfl rfl
  refine reg hS [(2,ab ((r7&&decide ((c1.kids_.length:Int)=1))&&r13))] [V6 c1] ?_ ?_
  ·clear h hk hS hX c
   exact dh1 (an pf_99 (an f9 (an f12.1 (an f12.2.1 (ap1 98 hpf f15)))))
  cases h;exact ret fin
theorem g_F63{w98:Y4}(c:AllG env [(S64 (F64 w98))]):GoodH env (S63 (F63 w98)):=by
 obtain⟨O,X,hS,hX,hpf,hk⟩:=orp c
 refine gh fn_63 6 ?_
 rintro(c1:Cmd) (r:Bool) h m em
 refine ghs em ?_;clear em m
 replace h:F63 w98 c1=some r:=h
 rw[F63]at h
 refine srg hS [1] di ?_
 refine seq ?_
 obtain⟨r3,q4,h⟩:=obs h
 have f5:=(hk 0 64 rfl).ret c1 q4 rfl rfl
 refine rg hS [2] (di1 (ap1 64 hpf f5)) ?_
 cases h;exact ret fin
theorem g_F85x1{w98:Y4}(c:AllG env [(S63 (F63 w98))]):GoodH env (S85x1 (F85x1 w98)):=by
 obtain⟨O,X,hS,hX,hpf,hk⟩:=orp c
 refine gh fn_85 19 ?_
 rintro(s1:(List Cmd)) (r:Int) h m em
 refine ghs em ?_;clear em m
 replace h:F85x1 w98 s1=some r:=h
 rw[F85x1]at h
 refine srg hS [0,1] di ?_
 refine seq ?_
 refine srg hS [0,1,7,8] di ?_
 refine block ?_
 refine lp (α:=Nat×Int) (fun(_,i3)=>⟨sl [(0,vC s1),(1,.fn 63 []),(7,ai (s1.length:Int)),(8,ai i3)],19,[]⟩) (fun x=>iter (F85x1_b1 s1 w98) x.1 x.2=some r) (fun x=>x.1) (BIG,0) (Weak.slots kp) h ?_
 clear h
 intro⟨n15,i3⟩ h
 replace h:=iter_some h;obtain⟨m6,rfl,h⟩:=h
 rw[F85x1_b1]at h
 try dsimp only at h
 refine AW.st ?_
 refine srg hS [0,1,7,8,9] di ?_
 refine seq ?_
 refine ifs h (fun hb7 h=>?_) fun hb7 h=>?_
 ·refine skip ?_
  refine seq ?_
  refine block ?_
  refine srg hS [0,1,5,7,8] di ?_
  refine seq ?_
  obtain⟨u8,q9,h⟩:=obs h
  have f10:=lidx_f q9
  obtain⟨r11,q12,h⟩:=obs h
  have f13:=(hk 0 63 rfl).ret u8 q12 rfl rfl
  refine rg hS [0,1,5,7,8,16] (di1 (an f10.1 (an f10.2.1 (ap1 63 hpf f13)))) ?_
  refine ifk h (fun hb14 h=>?_) fun hb14 h=>?_
  ·refine srg hS [4] di ?_
   cases h;exact ret fin
  ·refine rg hS [0,1,7,8] di ?_
   exact⟨(m6,IntKind.wrap .i64 (i3+1)),h,(Weak.norm (m:=0) (Nat.le_of_ble_eq_true rfl) kp hq rfl rfl),Nat.lt_succ_self _⟩
 ·refine exit ?_
  refine srg hS [4] di ?_
  cases h;exact ret fin
theorem g_F49x1{w98:Y4}(c:AllG env [(S85x1 (F85x1 w98))]):GoodH env (S49x1 (F49x1 w98)):=by
 obtain⟨O,X,hS,hX,hpf,hk⟩:=orp c
 refine gh fn_49 9 ?_
 rintro(s1:(List Cmd)) (r:Bool) h m em
 refine ghs em ?_;clear em m
 replace h:F49x1 w98 s1=some r:=h
 rw[F49x1]at h
 refine srg hS [0,1] di ?_
 refine seq ?_
 obtain⟨r3,q4,h⟩:=obs h
 have f5:=(hk 0 85 rfl).ret s1 q4 rfl rfl
 have e6:ecall O [] 85 [vC s1,.fn 63 []]=some (retAV [ai r3],[]):=ecall_eq rfl rfl rfl f5 rfl rfl rfl
 refine rg hS [4] (di1 (ap0 85 hpf e6)) ?_
 cases h;exact ret fin
theorem g_F29{w98:Y4}(c:AllG env [(S49x1 (F49x1 w98))]):GoodH env (S29 (F29 w98)):=by
 obtain⟨O,X,hS,hX,hpf,hk⟩:=orp c
 refine gh fn_29 6 ?_
 rintro(l1:(List Cmd)) (r:Bool) h m em
 refine ghs em ?_;clear em m
 replace h:F29 w98 l1=some r:=h
 rw[F29]at h
 refine srg hS [0] di ?_
 refine seq ?_
 obtain⟨r3,q4,h⟩:=obs h
 have f5:=(hk 0 49 rfl).ret l1 q4 rfl rfl
 have e6:ecall O [] 49 [vC l1,.fn 63 []]=some (retAV [ab r3],[]):=ecall_eq rfl rfl rfl f5 rfl rfl rfl
 refine rg hS [2] (di1 (ap0 49 hpf e6)) ?_
 cases h;exact ret fin
theorem g_F183{w182:Y4}(c:AllG env [(S182 w182)]):GoodH env (S183 (F183 w182)):=by
 obtain⟨O,X,hS,hX,hpf,hk⟩:=orp c
 refine gh fn_183 6 ?_
 rintro(k1:Cmd) (r:Bool) h m em
 refine ghs em ?_;clear em m
 replace h:F183 w182 k1=some r:=h
 rw[F183]at h
 refine srg hS [1] di ?_
 refine seq ?_
 obtain⟨r3,q4,h⟩:=obs h
 have f5:=(hk 0 182 rfl).ret k1 q4 rfl rfl
 refine rg hS [2] (di1 (ap1 182 hpf f5)) ?_
 cases h;exact ret fin
theorem g_F85x2{w182:Y4}(c:AllG env [(S183 (F183 w182))]):GoodH env (S85x2 (F85x2 w182)):=by
 obtain⟨O,X,hS,hX,hpf,hk⟩:=orp c
 refine gh fn_85 19 ?_
 rintro(s1:(List Cmd)) (r:Int) h m em
 refine ghs em ?_;clear em m
 replace h:F85x2 w182 s1=some r:=h
 rw[F85x2]at h
 refine srg hS [0,1] di ?_
 refine seq ?_
 refine srg hS [0,1,7,8] di ?_
 refine block ?_
 refine lp (α:=Nat×Int) (fun(_,i3)=>⟨sl [(0,vC s1),(1,.fn 183 []),(7,ai (s1.length:Int)),(8,ai i3)],19,[]⟩) (fun x=>iter (F85x2_b1 s1 w182) x.1 x.2=some r) (fun x=>x.1) (BIG,0) (Weak.slots kp) h ?_
 clear h
 intro⟨n15,i3⟩ h
 replace h:=iter_some h;obtain⟨m6,rfl,h⟩:=h
 rw[F85x2_b1]at h
 try dsimp only at h
 refine AW.st ?_
 refine srg hS [0,1,7,8,9] di ?_
 refine seq ?_
 refine ifs h (fun hb7 h=>?_) fun hb7 h=>?_
 ·refine skip ?_
  refine seq ?_
  refine block ?_
  refine srg hS [0,1,5,7,8] di ?_
  refine seq ?_
  obtain⟨u8,q9,h⟩:=obs h
  have f10:=lidx_f q9
  obtain⟨r11,q12,h⟩:=obs h
  have f13:=(hk 0 183 rfl).ret u8 q12 rfl rfl
  refine rg hS [0,1,5,7,8,16] (di1 (an f10.1 (an f10.2.1 (ap1 183 hpf f13)))) ?_
  refine ifk h (fun hb14 h=>?_) fun hb14 h=>?_
  ·refine srg hS [4] di ?_
   cases h;exact ret fin
  ·refine rg hS [0,1,7,8] di ?_
   exact⟨(m6,IntKind.wrap .i64 (i3+1)),h,(Weak.norm (m:=0) (Nat.le_of_ble_eq_true rfl) kp hq rfl rfl),Nat.lt_succ_self _⟩
 ·refine exit ?_
  refine srg hS [4] di ?_
  cases h;exact ret fin
theorem g_F49x2{w182:Y4}(c:AllG env [(S85x2 (F85x2 w182))]):GoodH env (S49x2 (F49x2 w182)):=by
 obtain⟨O,X,hS,hX,hpf,hk⟩:=orp c
 refine gh fn_49 9 ?_
 rintro(s1:(List Cmd)) (r:Bool) h m em
 refine ghs em ?_;clear em m
 replace h:F49x2 w182 s1=some r:=h
 rw[F49x2]at h
 refine srg hS [0,1] di ?_
 refine seq ?_
 obtain⟨r3,q4,h⟩:=obs h
 have f5:=(hk 0 85 rfl).ret s1 q4 rfl rfl
 have e6:ecall O [] 85 [vC s1,.fn 183 []]=some (retAV [ai r3],[]):=ecall_eq rfl rfl rfl f5 rfl rfl rfl
 refine rg hS [4] (di1 (ap0 85 hpf e6)) ?_
 cases h;exact ret fin
theorem g_F143{w182:Y4}(c:AllG env [(S182 w182),(S99 F99),(S49x2 (F49x2 w182))]):GoodH env (S143 (F143 w182)):=by
 obtain⟨O,X,hS,hX,hpf,hk⟩:=orp c
 have pf_99:O.pf 99=true:=pft hpf 99 rfl
 refine gh fn_143 23 ?_
 rintro(c1:Cmd) (r:Bool) h m em
 refine ghs em ?_;clear em m
 replace h:F143 w182 c1=some r:=h
 rw[F143]at h
 refine srg hS [1] di ?_
 refine seq ?_
 refine srg hS [1,5] di ?_
 refine ifk h (fun hb3 h=>?_) fun hb3 h=>?_
 ·refine seq ?_
  obtain⟨r4,q5,h⟩:=obs h
  have f6:=(hk 0 182 rfl).ret c1 q5 rfl rfl
  refine rg hS [2] (di1 (ap1 182 hpf f6)) ?_
  cases h;exact ret fin
 ·refine seq ?_
  obtain⟨r7,q8,h⟩:=obs h
  have f9:=(hk 1 99 rfl).ret (c1,Shape.mk false false false) q8 rfl rfl
  refine AW.cases ((r7&&decide (2≤(c1.kids_.length:Int)))) (fun hsp25=>?_) (fun hsp25=>?_)
  ·replace h:=bif_t hsp25 h
   try simp only[Bool.and_eq_true,Bool.or_eq_false_iff]at hsp25
   obtain⟨r10,q11,h⟩:=obs h
   have f12:=(hk 2 49 rfl).ret c1.kids_ q11 rfl rfl
   have e13:ecall O [V6 c1] 49 [vC c1.kids_,.fn 183 []]=some (retAV [ab r10],[V6 c1]):=ecall_eq rfl rfl rfl f12 rfl rfl rfl
   refine reg hS [(2,ab (!r10))] [V6 c1] ?_ ?_
   ·clear h hk hS hX c
    exact dh1 (an pf_99 (an f9 (an hsp25 (ap0 49 hpf e13))))
   cases h;exact ret fin
  ·replace h:=bif_f hsp25 h
   try simp only[Bool.and_eq_true,Bool.or_eq_false_iff]at hsp25
   refine reg hS [(2,ab false)] [V6 c1] ?_ ?_
   ·clear h hk hS hX c
    exact dh1 (an pf_99 (an f9 hsp25))
   cases h;exact ret fin
theorem g_F98{w98:Y4}{w182:Y4}(c:AllG env [(S143 (F143 w182)),(S99 F99),(S98 w98)]):GoodH env (S98 (F98 w98 w182)):=by
 obtain⟨O,X,hS,hX,hpf,hk⟩:=orp c
 have pf_98:O.pf 98=true:=pft hpf 98 rfl
 have pf_99:O.pf 99=true:=pft hpf 99 rfl
 refine gh fn_98 36 ?_
 rintro(c1:Cmd) (r:Bool) h m em
 refine ghs em ?_;clear em m
 replace h:F98 w98 w182 c1=some r:=h
 rw[F98]at h
 refine srg hS [1] di ?_
 refine seq ?_
 refine seq ?_
 refine reg hS [(1,.ref 0 0),(10,ab (!decide (c1.kind_=5)&&!decide (c1.kind_=6)))] [V6 c1] ?_ ?_
 ·clear h hk hS hX c
  exact dh
 refine ifk h (fun hb3 h=>?_) fun hb3 h=>?_
 ·refine seq ?_
  obtain⟨r4,q5,h⟩:=obs h
  have f6:=(hk 0 143 rfl).ret c1 q5 rfl rfl
  refine rg hS [2] (di1 (ap1 143 hpf f6)) ?_
  cases h;exact ret fin
 ·refine seq ?_
  obtain⟨r7,q8,h⟩:=obs h
  have f9:=(hk 1 99 rfl).ret (c1,Shape.mk false false false) q8 rfl rfl
  obtain⟨u10,q11,h⟩:=obs h
  have f12:=lidx_g (guardO_t q11)
  try simp only[NRM,Int.reduceToNat]at f12
  obtain⟨r13,q14,h⟩:=obs h
  replace q14:=guardO_t q14
  have f15:=fun hg=>(hk 2 98 rfl).ret u10 (q14 hg) rfl rfl
  obtain⟨u16,q17,h⟩:=obs h
  have f18:=lidx_g (guardO_t q17)
  try simp only[NRM,Int.reduceToNat]at f18
  obtain⟨r19,q20,h⟩:=obs h
  replace q20:=guardO_t q20
  have f21:=fun hg=>(hk 0 143 rfl).ret u16 (q20 hg) rfl rfl
  refine reg hS [(2,ab (((r7&&decide ((c1.kids_.length:Int)=2))&&r13)&&r19))] [V6 c1] ?_ ?_
  ·clear h hk hS hX c
   exact dh1 (an pf_99 (an f9 (an f12.1 (an f12.2.1 (an pf_98 (an f15 (an f18.1 (an f18.2.1 (ap1 143 hpf f21)))))))))
  cases h;exact ret fin
theorem g_F261{w260:Y3}(c:AllG env [(S260 w260)]):GoodH env (S261 (F261 w260)):=by
 obtain⟨O,X,hS,hX,hpf,hk⟩:=orp c
 refine gh fn_261 6 ?_
 rintro(x1:Word) (r:Bool) h m em
 refine ghs em ?_;clear em m
 replace h:F261 w260 x1=some r:=h
 rw[F261]at h
 refine srg hS [1] di ?_
 refine seq ?_
 obtain⟨r3,q4,h⟩:=obs h
 have f5:=(hk 0 260 rfl).ret x1 q4 rfl rfl
 refine rg hS [2] (di1 (ap1 260 hpf f5)) ?_
 cases h;exact ret fin
theorem g_F259x1{w260:Y3}(c:AllG env [(S261 (F261 w260))]):GoodH env (S259x1 (F259x1 w260)):=by
 obtain⟨O,X,hS,hX,hpf,hk⟩:=orp c
 refine gh fn_259 19 ?_
 rintro(s1:(List Word)) (r:Int) h m em
 refine ghs em ?_;clear em m
 replace h:F259x1 w260 s1=some r:=h
 rw[F259x1]at h
 refine srg hS [0,1] di ?_
 refine seq ?_
 refine srg hS [0,1,7,8] di ?_
 refine block ?_
 refine lp (α:=Nat×Int) (fun(_,i3)=>⟨sl [(0,vWo s1),(1,.fn 261 []),(7,ai (s1.length:Int)),(8,ai i3)],19,[]⟩) (fun x=>iter (F259x1_b1 s1 w260) x.1 x.2=some r) (fun x=>x.1) (BIG,0) (Weak.slots kp) h ?_
 clear h
 intro⟨n15,i3⟩ h
 replace h:=iter_some h;obtain⟨m6,rfl,h⟩:=h
 rw[F259x1_b1]at h
 try dsimp only at h
 refine AW.st ?_
 refine srg hS [0,1,7,8,9] di ?_
 refine seq ?_
 refine ifs h (fun hb7 h=>?_) fun hb7 h=>?_
 ·refine skip ?_
  refine seq ?_
  refine block ?_
  refine srg hS [0,1,5,7,8] di ?_
  refine seq ?_
  obtain⟨u8,q9,h⟩:=obs h
  have f10:=lidx_f q9
  obtain⟨r11,q12,h⟩:=obs h
  have f13:=(hk 0 261 rfl).ret u8 q12 rfl rfl
  refine rg hS [0,1,5,7,8,16] (di1 (an f10.1 (an f10.2.1 (ap1 261 hpf f13)))) ?_
  refine ifk h (fun hb14 h=>?_) fun hb14 h=>?_
  ·refine srg hS [4] di ?_
   cases h;exact ret fin
  ·refine rg hS [0,1,7,8] di ?_
   exact⟨(m6,IntKind.wrap .i64 (i3+1)),h,(Weak.norm (m:=0) (Nat.le_of_ble_eq_true rfl) kp hq rfl rfl),Nat.lt_succ_self _⟩
 ·refine exit ?_
  refine srg hS [4] di ?_
  cases h;exact ret fin
theorem g_F232x1{w260:Y3}(c:AllG env [(S259x1 (F259x1 w260))]):GoodH env (S232x1 (F232x1 w260)):=by
 obtain⟨O,X,hS,hX,hpf,hk⟩:=orp c
 refine gh fn_232 9 ?_
 rintro(s1:(List Word)) (r:Bool) h m em
 refine ghs em ?_;clear em m
 replace h:F232x1 w260 s1=some r:=h
 rw[F232x1]at h
 refine srg hS [0,1] di ?_
 refine seq ?_
 obtain⟨r3,q4,h⟩:=obs h
 have f5:=(hk 0 259 rfl).ret s1 q4 rfl rfl
 have e6:ecall O [] 259 [vWo s1,.fn 261 []]=some (retAV [ai r3],[]):=ecall_eq rfl rfl rfl f5 rfl rfl rfl
 refine rg hS [4] (di1 (ap0 259 hpf e6)) ?_
 cases h;exact ret fin
theorem g_F234{w260:Y3}(c:AllG env [(S260 w260),(S232x1 (F232x1 w260))]):GoodH env (S234 (F234 w260)):=by
 obtain⟨O,X,hS,hX,hpf,hk⟩:=orp c
 refine gh fn_234 34 ?_
 rintro(w1:Word) (r:Bool) h m em
 refine ghs em ?_;clear em m
 replace h:F234 w260 w1=some r:=h
 rw[F234]at h
 refine srg hS [1] di ?_
 refine seq ?_
 refine srg hS [1,5] di ?_
 refine ifk h (fun hb3 h=>?_) fun hb3 h=>?_
 ·refine seq ?_
  obtain⟨r4,q5,h⟩:=obs h
  have f6:=(hk 0 260 rfl).ret w1 q5 rfl rfl
  refine rg hS [2] (di1 (ap1 260 hpf f6)) ?_
  cases h;exact ret fin
 ·refine seq ?_
  refine AW.cases ((((decide (w1.text_=[])&&decide (w1.quoted_=[]))&&decide ((w1.cmd_.length:Int)=0))&&decide (2≤(w1.words_.length:Int)))) (fun hsp27=>?_) (fun hsp27=>?_)
  ·replace h:=bif_t hsp27 h
   try simp only[Bool.and_eq_true,Bool.or_eq_false_iff]at hsp27
   obtain⟨r7,q8,h⟩:=obs h
   have f9:=(hk 1 232 rfl).ret w1.words_ q8 rfl rfl
   have e10:ecall O [V17 w1] 232 [vWo w1.words_,.fn 261 []]=some (retAV [ab r7],[V17 w1]):=ecall_eq rfl rfl rfl f9 rfl rfl rfl
   refine reg hS [(2,ab (!r7))] [V17 w1] ?_ ?_
   ·clear h hk hS hX c
    exact dh1 (an hsp27 (ap0 232 hpf e10))
   cases h;exact ret fin
  ·replace h:=bif_f hsp27 h
   try simp only[Bool.and_eq_true,Bool.or_eq_false_iff]at hsp27
   refine reg hS [(2,ab false)] [V17 w1] ?_ ?_
   ·clear h hk hS hX c
    exact dh1 hsp27
   cases h;exact ret fin
theorem g_F233{w260:Y3}(c:AllG env [(S234 (F234 w260))]):GoodH env (S233 (F233 w260)):=by
 obtain⟨O,X,hS,hX,hpf,hk⟩:=orp c
 refine gh fn_233 6 ?_
 rintro(w1:Word) (r:Bool) h m em
 refine ghs em ?_;clear em m
 replace h:F233 w260 w1=some r:=h
 rw[F233]at h
 refine srg hS [1] di ?_
 refine seq ?_
 obtain⟨r3,q4,h⟩:=obs h
 have f5:=(hk 0 234 rfl).ret w1 q4 rfl rfl
 refine rg hS [2] (di1 (ap1 234 hpf f5)) ?_
 cases h;exact ret fin
theorem g_F259{w260:Y3}(c:AllG env [(S233 (F233 w260))]):GoodH env (S259 (F259 w260)):=by
 obtain⟨O,X,hS,hX,hpf,hk⟩:=orp c
 refine gh fn_259 19 ?_
 rintro(s1:(List Word)) (r:Int) h m em
 refine ghs em ?_;clear em m
 replace h:F259 w260 s1=some r:=h
 rw[F259]at h
 refine srg hS [0,1] di ?_
 refine seq ?_
 refine srg hS [0,1,7,8] di ?_
 refine block ?_
 refine lp (α:=Nat×Int) (fun(_,i3)=>⟨sl [(0,vWo s1),(1,.fn 233 []),(7,ai (s1.length:Int)),(8,ai i3)],19,[]⟩) (fun x=>iter (F259_b1 s1 w260) x.1 x.2=some r) (fun x=>x.1) (BIG,0) (Weak.slots kp) h ?_
 clear h
 intro⟨n15,i3⟩ h
 replace h:=iter_some h;obtain⟨m6,rfl,h⟩:=h
 rw[F259_b1]at h
 try dsimp only at h
 refine AW.st ?_
 refine srg hS [0,1,7,8,9] di ?_
 refine seq ?_
 refine ifs h (fun hb7 h=>?_) fun hb7 h=>?_
 ·refine skip ?_
  refine seq ?_
  refine block ?_
  refine srg hS [0,1,5,7,8] di ?_
  refine seq ?_
  obtain⟨u8,q9,h⟩:=obs h
  have f10:=lidx_f q9
  obtain⟨r11,q12,h⟩:=obs h
  have f13:=(hk 0 233 rfl).ret u8 q12 rfl rfl
  refine rg hS [0,1,5,7,8,16] (di1 (an f10.1 (an f10.2.1 (ap1 233 hpf f13)))) ?_
  refine ifk h (fun hb14 h=>?_) fun hb14 h=>?_
  ·refine srg hS [4] di ?_
   cases h;exact ret fin
  ·refine rg hS [0,1,7,8] di ?_
   exact⟨(m6,IntKind.wrap .i64 (i3+1)),h,(Weak.norm (m:=0) (Nat.le_of_ble_eq_true rfl) kp hq rfl rfl),Nat.lt_succ_self _⟩
 ·refine exit ?_
  refine srg hS [4] di ?_
  cases h;exact ret fin
theorem g_F232{w260:Y3}(c:AllG env [(S259 (F259 w260))]):GoodH env (S232 (F232 w260)):=by
 obtain⟨O,X,hS,hX,hpf,hk⟩:=orp c
 refine gh fn_232 9 ?_
 rintro(s1:(List Word)) (r:Bool) h m em
 refine ghs em ?_;clear em m
 replace h:F232 w260 s1=some r:=h
 rw[F232]at h
 refine srg hS [0,1] di ?_
 refine seq ?_
 obtain⟨r3,q4,h⟩:=obs h
 have f5:=(hk 0 259 rfl).ret s1 q4 rfl rfl
 have e6:ecall O [] 259 [vWo s1,.fn 233 []]=some (retAV [ai r3],[]):=ecall_eq rfl rfl rfl f5 rfl rfl rfl
 refine rg hS [4] (di1 (ap0 259 hpf e6)) ?_
 cases h;exact ret fin
theorem g_F207{w260:Y3}(c:AllG env [(S232 (F232 w260))]):GoodH env (S207 (F207 w260)):=by
 obtain⟨O,X,hS,hX,hpf,hk⟩:=orp c
 refine gh fn_207 6 ?_
 rintro(l1:(List Word)) (r:Bool) h m em
 refine ghs em ?_;clear em m
 replace h:F207 w260 l1=some r:=h
 rw[F207]at h
 refine srg hS [0] di ?_
 refine seq ?_
 obtain⟨r3,q4,h⟩:=obs h
 have f5:=(hk 0 232 rfl).ret l1 q4 rfl rfl
 have e6:ecall O [] 232 [vWo l1,.fn 233 []]=some (retAV [ab r3],[]):=ecall_eq rfl rfl rfl f5 rfl rfl rfl
 refine rg hS [2] (di1 (ap0 232 hpf e6)) ?_
 cases h;exact ret fin
theorem g_F208{w182:Y4}(c:AllG env [(S182 w182)]):GoodH env (S208 (F208 w182)):=by
 obtain⟨O,X,hS,hX,hpf,hk⟩:=orp c
 refine gh fn_208 12 ?_
 rintro(l1:(List Cmd)) (r:Bool) h m em
 refine ghs em ?_;clear em m
 replace h:F208 w182 l1=some r:=h
 rw[F208]at h
 refine srg hS [0] di ?_
 refine seq ?_
 obtain⟨u3,q4,h⟩:=obs h
 have f5:=lidx_g (guardO_t q4)
 try simp only[NRM,Int.reduceToNat]at f5
 obtain⟨r6,q7,h⟩:=obs h
 replace q7:=guardO_t q7
 have f8:=fun hg=>(hk 0 182 rfl).ret u3 (q7 hg) rfl rfl
 refine reg hS [(2,ab (decide ((l1.length:Int)=1)&&r6))] [] ?_ ?_
 ·clear h hk hS hX c
  exact dh1 (an f5.1 (an f5.2.1 (ap1 182 hpf f8)))
 cases h;exact ret fin
theorem g_F108(c:AllG env [(S155 F155)]):GoodH env (S108 F108):=by
 obtain⟨O,X,hS,hX,hpf,hk⟩:=orp c
 refine gh fn_108 8 ?_
 rintro⟨s1,suffix2⟩ (r:Bool) h m em
 refine ghs em ?_;clear em m
 replace h:F108 s1 suffix2=some r:=h
 rw[F108]at h
 refine srg hS [0,1] di ?_
 refine seq ?_
 obtain⟨r4,q5,h⟩:=obs h
 have f6:=(hk 0 155 rfl).ret (s1,suffix2) q5 rfl rfl
 refine rg hS [4] (di1 (ap1 155 hpf f6)) ?_
 cases h;exact ret fin
theorem g_F263(c:AllG env []):GoodH env (S263 F263):=by
 obtain⟨O,X,hS,hX,hpf,hk⟩:=orp c
 refine gh fn_263 30 ?_
 rintro(w1:Word) (r:Bool) h m em
 refine ghs em ?_;clear em m
 replace h:F263 w1=some r:=h
 rw[F263]at h
 refine srg hS [1] di ?_
 refine seq ?_
 refine srg hS [1,10] di ?_
 refine ifk h (fun hb3 h=>?_) fun hb3 h=>?_
 ·refine srg hS [2] di ?_
  cases h;exact ret fin
 ·refine seq ?_
  refine srg hS [1,13,14] di ?_
  refine block ?_
  refine lp (α:=Nat×Int) (fun(_,i4)=>⟨sl [(1,.ref 0 0),(13,ai (w1.quoted_.length:Int)),(14,ai i4)],30,[V17 w1]⟩) (fun x=>iter (F263_b1 w1) x.1 x.2=some r) (fun x=>x.1) (BIG,0) (Weak.slots kp) h ?_
  clear h
  intro⟨n13,i4⟩ h
  replace h:=iter_some h;obtain⟨m7,rfl,h⟩:=h
  rw[F263_b1]at h
  try dsimp only at h
  refine AW.st ?_
  refine srg hS [1,13,14,15] di ?_
  refine seq ?_
  refine ifs h (fun hb8 h=>?_) fun hb8 h=>?_
  ·refine skip ?_
   refine seq ?_
   refine block ?_
   refine srg hS [1,3,13,14] di ?_
   refine seq ?_
   obtain⟨c9,q10,h⟩:=obs h
   have f11:=sidx_f q10
   refine reg hS [(1,.ref 0 0),(13,ai (w1.quoted_.length:Int)),(14,ai i4),(28,ab (!decide (c9=48)&&!decide (c9=49)))] [V17 w1] ?_ ?_
   ·clear h hk hS hX c
    exact dh1 (an f11.1 (an f11.2.1 f11.2.2))
   refine ifk h (fun hb12 h=>?_) fun hb12 h=>?_
   ·refine srg hS [2] di ?_
    cases h;exact ret fin
   ·refine rg hS [1,13,14] di ?_
    exact⟨(m7,IntKind.wrap .i64 (i4+1)),h,(Weak.norm (m:=1) (Nat.le_of_ble_eq_true rfl) kp hq rfl rfl),Nat.lt_succ_self _⟩
  ·refine exit ?_
   refine srg hS [2] di ?_
   cases h;exact ret fin
theorem g_F264(c:AllG env []):GoodH env (S264 F264):=by
 obtain⟨O,X,hS,hX,hpf,hk⟩:=orp c
 refine gh fn_264 28 ?_
 rintro(w1:Word) (r:Bool) h m em
 refine ghs em ?_;clear em m
 replace h:F264 w1=some r:=h
 rw[F264]at h
 refine srg hS [1] di ?_
 refine seq ?_
 refine reg hS [(2,ab ((((decide (w1.kind_=0)&&decide (w1.text_=[]))&&decide (w1.quoted_=[]))&&decide ((w1.words_.length:Int)=0))&&decide ((w1.cmd_.length:Int)=0)))] [V17 w1] ?_ ?_
 ·clear h hk hS hX c
  exact dh
 cases h;exact ret fin
theorem g_F237{w260:Y3}(c:AllG env [(S234 (F234 w260)),(S108 F108),(S263 F263),SL_IndexByte,(S264 F264)]):GoodH env (S237 (F237 w260)):=by
 obtain⟨O,X,hS,hX,hpf,hk⟩:=orp c
 have pf_263:O.pf 263=true:=pft hpf 263 rfl
 refine gh fn_237 102 ?_
 rintro(r1:Redir) (r:Bool) h m em
 refine ghs em ?_;clear em m
 replace h:F237 w260 r1=some r:=h
 rw[F237]at h
 refine srg hS [1] di ?_
 refine seq ?_
 refine seq ?_
 refine reg hS [(1,.ref 0 0),(41,ab (((((decide (r1.fd_<0)||decide (64≤r1.fd_))||decide (r1.from_<0))||decide (64≤r1.from_))||(!decide (r1.kind_=4)&&r1.raw_))||(!decide (r1.kind_=5)&&!decide (r1.from_=0))))] [V16 r1] ?_ ?_
 ·clear h hk hS hX c
  exact dh
 refine ifk h (fun hb3 h=>?_) fun hb3 h=>?_
 ·refine srg hS [2] di ?_
  cases h;exact ret fin
 ·refine seq ?_
  refine srg hS [1,43] di ?_
  refine block ?_
  refine seqM ⟨sl [(1,.ref 0 0),(43,ai r1.kind_),(44,ab (bif decide (r1.kind_=1)then decide (r1.kind_=1)else(bif decide (r1.kind_=2)then decide (r1.kind_=2)else decide (r1.kind_=3))))],102,[V16 r1]⟩ ?_ ?_
  ·refine srg hS [1,43,44] di ?_
   refine cond (b:=decide (r1.kind_=1)) rfl (fun hb4=>?_) (fun hb4=>?_)
   ·refine skip ?_
    exact Weak.of_eq (Weak.slots (L:=[(1,.ref 0 0),(43,ai r1.kind_),(44,ab (decide (r1.kind_=1)))]) kp) (wq hb4)
   ·refine srg hS [1,43,44] di ?_
    refine cond (b:=decide (r1.kind_=2)) rfl (fun hb5=>?_) (fun hb5=>?_)
    ·refine skip ?_
     exact Weak.of_eq (Weak.slots (L:=[(1,.ref 0 0),(43,ai r1.kind_),(44,ab (decide (r1.kind_=2)))]) kp) (by simp only[hb4,hb5,cond_true,cond_false,BOOLS,Bool.not_true,Bool.not_false]<;>rfl)
    ·refine rg hS [1,43,44] di ?_
     exact Weak.of_eq (Weak.slots (L:=[(1,.ref 0 0),(43,ai r1.kind_),(44,ab (decide (r1.kind_=3)))]) kp) (by simp only[hb4,hb5,cond_true,cond_false,BOOLS,Bool.not_true,Bool.not_false]<;>rfl)
  refine ifs h (fun hb6 h=>?_) fun hb6 h=>?_
  ·refine seq ?_
   obtain⟨r7,q8,h⟩:=obs h
   have f9:=(hk 0 234 rfl).ret r1.word_ q8 rfl rfl
   refine rg hS [2] (di1 (ap1 234 hpf f9)) ?_
   cases h;exact ret fin
  ·refine srg hS [1,43,51] di ?_
   refine ifs h (fun hb10 h=>?_) fun hb10 h=>?_
   ·refine srg hS [1,3] di ?_
    refine seq ?_
    obtain⟨r11,q12,h⟩:=obs h
    replace q12:=guardO_t q12
    have f13:=fun hg=>(hk 1 108 rfl).ret (r1.word_.text_,([10]:Str)) (q12 hg) rfl rfl
    try simp only[PVE]at f13
    refine reg hS [(1,.ref 0 0),(3,.ref 1 0),(4,ab (decide (r1.word_.text_=[])||r11))] [V16 r1,V18 r1] ?_ ?_
    ·clear h hk hS hX c
     exact dh1 (ap1 108 hpf f13)
    refine seq ?_
    obtain⟨r14,q15,h⟩:=obs h
    replace q15:=guardO_t q15
    have f16:=fun hg=>(hk 2 263 rfl).ret r1.word_ (q15 hg) rfl rfl
    obtain⟨n17,q18,h⟩:=obs h
    replace q18:=guardO_t q18
    have f19:=fun hg=>(hk 3 40 rfl).ret (r1.word_.quoted_,49) (q18 hg) rfl rfl
    refine reg hS [(2,ab ((((((decide (r1.fd_=0)&&decide (r1.word_.kind_=1))&&decide ((r1.word_.words_.length:Int)=0))&&decide ((r1.word_.cmd_.length:Int)=0))&&r14)&&decide (n17<0))&&(decide (r1.word_.text_=[])||r11)))] [V16 r1,V18 r1] ?_ ?_
    ·clear h hk hS hX c
     exact dh1 (an pf_263 (an f16 (ap1 40 hpf f19)))
    cases h;exact ret fin
   ·refine seqM ⟨sl [(1,.ref 0 0),(96,ab (bif decide (r1.kind_=5)then decide (r1.kind_=5)else decide (r1.kind_=6)))],102,[V16 r1]⟩ ?_ ?_
    ·refine srg hS [1,43,96] di ?_
     refine cond (b:=decide (r1.kind_=5)) rfl (fun hb20=>?_) (fun hb20=>?_)
     ·refine skip ?_
      exact Weak.of_eq (Weak.slots (L:=[(1,.ref 0 0),(96,ab (decide (r1.kind_=5)))]) kp) (wq hb20)
     ·refine rg hS [1,96] di ?_
      exact Weak.of_eq (Weak.slots (L:=[(1,.ref 0 0),(96,ab (decide (r1.kind_=6)))]) kp) (wq hb20)
    refine ifk h (fun hb21 h=>?_) fun hb21 h=>?_
    ·refine seq ?_
     obtain⟨r22,q23,h⟩:=obs h
     have f24:=(hk 4 264 rfl).ret r1.word_ q23 rfl rfl
     refine rg hS [2] (di1 (ap1 264 hpf f24)) ?_
     cases h;exact ret fin
    ·refine srg hS [2] di ?_
     cases h;exact ret fin
theorem g_F236{w260:Y3}(c:AllG env [(S237 (F237 w260))]):GoodH env (S236 (F236 w260)):=by
 obtain⟨O,X,hS,hX,hpf,hk⟩:=orp c
 refine gh fn_236 6 ?_
 rintro(r1:Redir) (r:Bool) h m em
 refine ghs em ?_;clear em m
 replace h:F236 w260 r1=some r:=h
 rw[F236]at h
 refine srg hS [1] di ?_
 refine seq ?_
 obtain⟨r3,q4,h⟩:=obs h
 have f5:=(hk 0 237 rfl).ret r1 q4 rfl rfl
 refine rg hS [2] (di1 (ap1 237 hpf f5)) ?_
 cases h;exact ret fin
theorem g_F262{w260:Y3}(c:AllG env [(S236 (F236 w260))]):GoodH env (S262 (F262 w260)):=by
 obtain⟨O,X,hS,hX,hpf,hk⟩:=orp c
 refine gh fn_262 19 ?_
 rintro(s1:(List Redir)) (r:Int) h m em
 refine ghs em ?_;clear em m
 replace h:F262 w260 s1=some r:=h
 rw[F262]at h
 refine srg hS [0,1] di ?_
 refine seq ?_
 refine srg hS [0,1,7,8] di ?_
 refine block ?_
 refine lp (α:=Nat×Int) (fun(_,i3)=>⟨sl [(0,vRe s1),(1,.fn 236 []),(7,ai (s1.length:Int)),(8,ai i3)],19,[]⟩) (fun x=>iter (F262_b1 s1 w260) x.1 x.2=some r) (fun x=>x.1) (BIG,0) (Weak.slots kp) h ?_
 clear h
 intro⟨n15,i3⟩ h
 replace h:=iter_some h;obtain⟨m6,rfl,h⟩:=h
 rw[F262_b1]at h
 try dsimp only at h
 refine AW.st ?_
 refine srg hS [0,1,7,8,9] di ?_
 refine seq ?_
 refine ifs h (fun hb7 h=>?_) fun hb7 h=>?_
 ·refine skip ?_
  refine seq ?_
  refine block ?_
  refine srg hS [0,1,5,7,8] di ?_
  refine seq ?_
  obtain⟨u8,q9,h⟩:=obs h
  have f10:=lidx_f q9
  obtain⟨r11,q12,h⟩:=obs h
  have f13:=(hk 0 236 rfl).ret u8 q12 rfl rfl
  refine rg hS [0,1,5,7,8,16] (di1 (an f10.1 (an f10.2.1 (ap1 236 hpf f13)))) ?_
  refine ifk h (fun hb14 h=>?_) fun hb14 h=>?_
  ·refine srg hS [4] di ?_
   cases h;exact ret fin
  ·refine rg hS [0,1,7,8] di ?_
   exact⟨(m6,IntKind.wrap .i64 (i3+1)),h,(Weak.norm (m:=0) (Nat.le_of_ble_eq_true rfl) kp hq rfl rfl),Nat.lt_succ_self _⟩
 ·refine exit ?_
  refine srg hS [4] di ?_
  cases h;exact ret fin
theorem g_F235{w260:Y3}(c:AllG env [(S262 (F262 w260))]):GoodH env (S235 (F235 w260)):=by
 obtain⟨O,X,hS,hX,hpf,hk⟩:=orp c
 refine gh fn_235 9 ?_
 rintro(s1:(List Redir)) (r:Bool) h m em
 refine ghs em ?_;clear em m
 replace h:F235 w260 s1=some r:=h
 rw[F235]at h
 refine srg hS [0,1] di ?_
 refine seq ?_
 obtain⟨r3,q4,h⟩:=obs h
 have f5:=(hk 0 262 rfl).ret s1 q4 rfl rfl
 have e6:ecall O [] 262 [vRe s1,.fn 236 []]=some (retAV [ai r3],[]):=ecall_eq rfl rfl rfl f5 rfl rfl rfl
 refine rg hS [4] (di1 (ap0 262 hpf e6)) ?_
 cases h;exact ret fin
theorem g_F209{w260:Y3}(c:AllG env [(S235 (F235 w260))]):GoodH env (S209 (F209 w260)):=by
 obtain⟨O,X,hS,hX,hpf,hk⟩:=orp c
 refine gh fn_209 6 ?_
 rintro(l1:(List Redir)) (r:Bool) h m em
 refine ghs em ?_;clear em m
 replace h:F209 w260 l1=some r:=h
 rw[F209]at h
 refine srg hS [0] di ?_
 refine seq ?_
 obtain⟨r3,q4,h⟩:=obs h
 have f5:=(hk 0 235 rfl).ret l1 q4 rfl rfl
 have e6:ecall O [] 235 [vRe l1,.fn 236 []]=some (retAV [ab r3],[]):=ecall_eq rfl rfl rfl f5 rfl rfl rfl
 refine rg hS [2] (di1 (ap0 235 hpf e6)) ?_
 cases h;exact ret fin
theorem g_F210{w98:Y4}(c:AllG env [(S99 F99),(S29 (F29 w98))]):GoodH env (S210 (F210 w98)):=by
 obtain⟨O,X,hS,hX,hpf,hk⟩:=orp c
 have pf_99:O.pf 99=true:=pft hpf 99 rfl
 refine gh fn_210 16 ?_
 rintro(c1:Cmd) (r:Bool) h m em
 refine ghs em ?_;clear em m
 replace h:F210 w98 c1=some r:=h
 rw[F210]at h
 refine srg hS [1] di ?_
 refine seq ?_
 obtain⟨r3,q4,h⟩:=obs h
 replace q4:=guardO_t q4
 have f5:=fun hg=>(hk 0 99 rfl).ret (c1,Shape.mk false false false) (q4 hg) rfl rfl
 obtain⟨r6,q7,h⟩:=obs h
 replace q7:=guardO_t q7
 have f8:=fun hg=>(hk 1 29 rfl).ret c1.kids_ (q7 hg) rfl rfl
 refine reg hS [(2,ab ((decide (c1.kind_=12)&&r3)&&r6))] [V6 c1] ?_ ?_
 ·clear h hk hS hX c
  exact dh1 (an pf_99 (an f5 (ap1 29 hpf f8)))
 cases h;exact ret fin
theorem g_F212{w98:Y4}{w260:Y3}(c:AllG env [(S99 F99),(S207 (F207 w260)),(S29 (F29 w98))]):GoodH env (S212 (F212 w98 w260)):=by
 obtain⟨O,X,hS,hX,hpf,hk⟩:=orp c
 have pf_99:O.pf 99=true:=pft hpf 99 rfl
 have pf_207:O.pf 207=true:=pft hpf 207 rfl
 refine gh fn_212 27 ?_
 rintro(c1:Cmd) (r:Bool) h m em
 refine ghs em ?_;clear em m
 replace h:F212 w98 w260 c1=some r:=h
 rw[F212]at h
 refine srg hS [1] di ?_
 refine seq ?_
 obtain⟨r3,q4,h⟩:=obs h
 replace q4:=guardO_t q4
 have f5:=fun hg=>(hk 0 99 rfl).ret (c1,Shape.mk false true false) (q4 hg) rfl rfl
 obtain⟨r6,q7,h⟩:=obs h
 replace q7:=guardO_t q7
 have f8:=fun hg=>(hk 1 207 rfl).ret c1.words_ (q7 hg) rfl rfl
 obtain⟨r9,q10,h⟩:=obs h
 replace q10:=guardO_t q10
 have f11:=fun hg=>(hk 2 29 rfl).ret c1.kids_ (q10 hg) rfl rfl
 refine reg hS [(2,ab ((((decide (c1.kind_=18)&&r3)&&decide (1≤(c1.words_.length:Int)))&&r6)&&r9))] [V6 c1] ?_ ?_
 ·clear h hk hS hX c
  exact dh1 (an pf_99 (an f5 (an pf_207 (an f8 (ap1 29 hpf f11)))))
 cases h;exact ret fin
theorem g_F211{w98:Y4}{w260:Y3}(c:AllG env [(S212 (F212 w98 w260))]):GoodH env (S211 (F211 w98 w260)):=by
 obtain⟨O,X,hS,hX,hpf,hk⟩:=orp c
 refine gh fn_211 6 ?_
 rintro(k1:Cmd) (r:Bool) h m em
 refine ghs em ?_;clear em m
 replace h:F211 w98 w260 k1=some r:=h
 rw[F211]at h
 refine srg hS [1] di ?_
 refine seq ?_
 obtain⟨r3,q4,h⟩:=obs h
 have f5:=(hk 0 212 rfl).ret k1 q4 rfl rfl
 refine rg hS [2] (di1 (ap1 212 hpf f5)) ?_
 cases h;exact ret fin
theorem g_F85x3{w98:Y4}{w260:Y3}(c:AllG env [(S211 (F211 w98 w260))]):GoodH env (S85x3 (F85x3 w98 w260)):=by
 obtain⟨O,X,hS,hX,hpf,hk⟩:=orp c
 refine gh fn_85 19 ?_
 rintro(s1:(List Cmd)) (r:Int) h m em
 refine ghs em ?_;clear em m
 replace h:F85x3 w98 w260 s1=some r:=h
 rw[F85x3]at h
 refine srg hS [0,1] di ?_
 refine seq ?_
 refine srg hS [0,1,7,8] di ?_
 refine block ?_
 refine lp (α:=Nat×Int) (fun(_,i3)=>⟨sl [(0,vC s1),(1,.fn 211 []),(7,ai (s1.length:Int)),(8,ai i3)],19,[]⟩) (fun x=>iter (F85x3_b1 s1 w98 w260) x.1 x.2=some r) (fun x=>x.1) (BIG,0) (Weak.slots kp) h ?_
 clear h
 intro⟨n15,i3⟩ h
 replace h:=iter_some h;obtain⟨m6,rfl,h⟩:=h
 rw[F85x3_b1]at h
 try dsimp only at h
 refine AW.st ?_
 refine srg hS [0,1,7,8,9] di ?_
 refine seq ?_
 refine ifs h (fun hb7 h=>?_) fun hb7 h=>?_
 ·refine skip ?_
  refine seq ?_
  refine block ?_
  refine srg hS [0,1,5,7,8] di ?_
  refine seq ?_
  obtain⟨u8,q9,h⟩:=obs h
  have f10:=lidx_f q9
  obtain⟨r11,q12,h⟩:=obs h
  have f13:=(hk 0 211 rfl).ret u8 q12 rfl rfl
  refine rg hS [0,1,5,7,8,16] (di1 (an f10.1 (an f10.2.1 (ap1 211 hpf f13)))) ?_
  refine ifk h (fun hb14 h=>?_) fun hb14 h=>?_
  ·refine srg hS [4] di ?_
   cases h;exact ret fin
  ·refine rg hS [0,1,7,8] di ?_
   exact⟨(m6,IntKind.wrap .i64 (i3+1)),h,(Weak.norm (m:=0) (Nat.le_of_ble_eq_true rfl) kp hq rfl rfl),Nat.lt_succ_self _⟩
 ·refine exit ?_
  refine srg hS [4] di ?_
  cases h;exact ret fin
theorem g_F49x3{w98:Y4}{w260:Y3}(c:AllG env [(S85x3 (F85x3 w98 w260))]):GoodH env (S49x3 (F49x3 w98 w260)):=by
 obtain⟨O,X,hS,hX,hpf,hk⟩:=orp c
 refine gh fn_49 9 ?_
 rintro(s1:(List Cmd)) (r:Bool) h m em
 refine ghs em ?_;clear em m
 replace h:F49x3 w98 w260 s1=some r:=h
 rw[F49x3]at h
 refine srg hS [0,1] di ?_
 refine seq ?_
 obtain⟨r3,q4,h⟩:=obs h
 have f5:=(hk 0 85 rfl).ret s1 q4 rfl rfl
 have e6:ecall O [] 85 [vC s1,.fn 211 []]=some (retAV [ai r3],[]):=ecall_eq rfl rfl rfl f5 rfl rfl rfl
 refine rg hS [4] (di1 (ap0 85 hpf e6)) ?_
 cases h;exact ret fin
theorem g_F213{w260:Y3}(c:AllG env [(S207 (F207 w260)),(S209 (F209 w260)),SL_IndexByte,(S134 F134)]):GoodH env (S213 (F213 w260)):=by
 obtain⟨O,X,hS,hX,hpf,hk⟩:=orp c
 have pf_40:O.pf 40=true:=pft hpf 40 rfl
 have pf_207:O.pf 207=true:=pft hpf 207 rfl
 refine gh fn_213 66 ?_
 rintro(c1:Cmd) (r:Bool) h m em
 refine ghs em ?_;clear em m
 replace h:F213 w260 c1=some r:=h
 rw[F213]at h
 refine srg hS [1] di ?_
 refine seq ?_
 refine seq ?_
 obtain⟨r3,q4,h⟩:=obs h
 replace q4:=guardO_t q4
 have f5:=fun hg=>(hk 0 207 rfl).ret c1.words_ (q4 hg) rfl rfl
 obtain⟨r6,q7,h⟩:=obs h
 replace q7:=guardO_t q7
 have f8:=fun hg=>(hk 1 209 rfl).ret c1.redirs_ (q7 hg) rfl rfl
 refine reg hS [(1,.ref 0 0),(24,ab ((decide (IntKind.wrap .i64 ((c1.words_.length:Int)+(c1.redirs_.length:Int))=0)||!r3)||!r6))] [V6 c1] ?_ ?_
 ·clear h hk hS hX c
  exact dh1 (an pf_207 (an f5 (ap1 209 hpf f8)))
 refine ifk h (fun hb9 h=>?_) fun hb9 h=>?_
 ·refine srg hS [2] di ?_
  cases h;exact ret fin
 ·refine seq ?_
  refine srg hS [1,28] di ?_
  refine ifk h (fun hb10 h=>?_) fun hb10 h=>?_
  ·refine srg hS [2] di ?_
   cases h;exact ret fin
  ·refine seq ?_
   obtain⟨u11,q12,h⟩:=obs h
   have f13:=lidx_f q12
   try simp only[NRM,Int.reduceToNat]at f13
   refine rg hS [3] (di1 (an f13.1 f13.2.1)) ?_
   refine seqJ (α:=Int×Str×Str×(List Word)×(List Cmd)) (fun(x14,x15,x16,x17,x18)=>⟨sl [(3,.ref 1 0)],66,[V6 c1,V15 x14 x15 x16 x17 x18]⟩) (fun x=>F213_j1 x=some r) ?_ ?_
   ·intro⟨x14,x15,x16,x17,x18⟩ h
    rw[F213_j1]at h
    try dsimp only at h
    refine AW.st ?_
    refine seq ?_
    obtain⟨n19,q20,h⟩:=obs h
    replace q20:=guardO_t q20
    have f21:=fun hg=>(hk 2 40 rfl).ret (x16,49) (q20 hg) rfl rfl
    obtain⟨r22,q23,h⟩:=obs h
    replace q23:=guardO_t q23
    have f24:=fun hg=>(hk 3 134 rfl).ret x15 (q23 hg) rfl rfl
    refine reg hS [(3,.ref 1 0),(4,ab ((decide (x14=1)&&decide (n19<0))&&r22))] [V6 c1,V15 x14 x15 x16 x17 x18] ?_ ?_
    ·clear h hk hS hX c
     exact dh1 (an pf_40 (an f21 (ap1 134 hpf f24)))
    refine seq ?_
    refine reg hS [(2,ab ((!((decide (x14=1)&&decide (n19<0))&&r22)||decide (x15=[110,111,116]))||decide (x15=[105,110])))] [V6 c1,V15 x14 x15 x16 x17 x18] ?_ ?_
    ·clear h hk hS hX c
     exact dh
    cases h;exact ret fin
   refine srg hS [3,35] di ?_
   refine ifk h (fun hb25 h=>?_) fun hb25 h=>?_
   ·obtain⟨u26,q27,h⟩:=obs h
    have f28:=lidx_f q27
    try simp only[NRM,Int.reduceToNat]at f28
    refine rg hS [3] (di1 (an f28.1 f28.2.1)) ?_
    exact⟨(u26.kind_,u26.text_,u26.quoted_,u26.words_,u26.cmd_),h,(Weak.norm (m:=2) (Nat.le_of_ble_eq_true rfl) kp hq rfl rfl)⟩
   ·exact⟨(u11.kind_,u11.text_,u11.quoted_,u11.words_,u11.cmd_),h,(Weak.norm (m:=2) (Nat.le_of_ble_eq_true rfl) kp hq rfl rfl)⟩
theorem g_F182{w98:Y4}{w182:Y4}{w260:Y3}(c:AllG env [(S99 F99),(S207 (F207 w260)),(S208 (F208 w182)),(S29 (F29 w98)),(S209 (F209 w260)),(S210 (F210 w98)),(S182 w182),(S49x3 (F49x3 w98 w260)),(S213 (F213 w260))]):GoodH env (S182 (F182 w98 w182 w260)):=by
 obtain⟨O,X,hS,hX,hpf,hk⟩:=orp c
 have pf_29:O.pf 29=true:=pft hpf 29 rfl
 have pf_99:O.pf 99=true:=pft hpf 99 rfl
 have pf_207:O.pf 207=true:=pft hpf 207 rfl
 have pf_210:O.pf 210=true:=pft hpf 210 rfl
 refine gh fn_182 169 ?_
 rintro(c1:Cmd) (r:Bool) h m em
 refine ghs em ?_;clear em m
 replace h:F182 w98 w182 w260 c1=some r:=h
 rw[F182]at h
 refine srg hS [1] di ?_
 refine seq ?_
 refine srg hS [1,4] di ?_
 refine block ?_
 refine srg hS [1,4,5] di ?_
 refine ifs h (fun hb3 h=>?_) fun hb3 h=>?_
 ·refine seq ?_
  obtain⟨r4,q5,h⟩:=obs h
  have f6:=(hk 0 99 rfl).ret (c1,Shape.mk true true false) q5 rfl rfl
  obtain⟨r7,q8,h⟩:=obs h
  replace q8:=guardO_t q8
  have f9:=fun hg=>(hk 1 207 rfl).ret c1.words_ (q8 hg) rfl rfl
  obtain⟨r10,q11,h⟩:=obs h
  replace q11:=guardO_t q11
  have f12:=fun hg=>(hk 2 208 rfl).ret c1.kids_ (q11 hg) rfl rfl
  refine reg hS [(2,ab (((r4&&decide ((c1.words_.length:Int)=1))&&r7)&&(decide ((c1.kids_.length:Int)=0)||r10)))] [V6 c1] ?_ ?_
  ·clear h hk hS hX c
   exact dh1 (an pf_99 (an f6 (an pf_207 (an f9 (ap1 208 hpf f12)))))
  cases h;exact ret fin
 ·refine seqM ⟨sl [(1,.ref 0 0),(4,ai c1.kind_),(32,ab (bif decide (c1.kind_=7)then decide (c1.kind_=7)else(bif decide (c1.kind_=13)then decide (c1.kind_=13)else decide (c1.kind_=9))))],169,[V6 c1]⟩ ?_ ?_
  ·refine srg hS [1,4,32] di ?_
   refine cond (b:=decide (c1.kind_=7)) rfl (fun hb13=>?_) (fun hb13=>?_)
   ·refine skip ?_
    exact Weak.of_eq (Weak.slots (L:=[(1,.ref 0 0),(4,ai c1.kind_),(32,ab (decide (c1.kind_=7)))]) kp) (wq hb13)
   ·refine srg hS [1,4,32] di ?_
    refine cond (b:=decide (c1.kind_=13)) rfl (fun hb14=>?_) (fun hb14=>?_)
    ·refine skip ?_
     exact Weak.of_eq (Weak.slots (L:=[(1,.ref 0 0),(4,ai c1.kind_),(32,ab (decide (c1.kind_=13)))]) kp) (by simp only[hb13,hb14,cond_true,cond_false,BOOLS,Bool.not_true,Bool.not_false]<;>rfl)
    ·refine rg hS [1,4,32] di ?_
     exact Weak.of_eq (Weak.slots (L:=[(1,.ref 0 0),(4,ai c1.kind_),(32,ab (decide (c1.kind_=9)))]) kp) (by simp only[hb13,hb14,cond_true,cond_false,BOOLS,Bool.not_true,Bool.not_false]<;>rfl)
  refine ifs h (fun hb15 h=>?_) fun hb15 h=>?_
  ·refine seq ?_
   obtain⟨r16,q17,h⟩:=obs h
   have f18:=(hk 0 99 rfl).ret (c1,Shape.mk false false false) q17 rfl rfl
   obtain⟨r19,q20,h⟩:=obs h
   replace q20:=guardO_t q20
   have f21:=fun hg=>(hk 2 208 rfl).ret c1.kids_ (q20 hg) rfl rfl
   refine reg hS [(2,ab (r16&&r19))] [V6 c1] ?_ ?_
   ·clear h hk hS hX c
    exact dh1 (an pf_99 (an f18 (ap1 208 hpf f21)))
   cases h;exact ret fin
  ·refine srg hS [1,4,44] di ?_
   refine ifs h (fun hb22 h=>?_) fun hb22 h=>?_
   ·refine seq ?_
    obtain⟨r23,q24,h⟩:=obs h
    have f25:=(hk 0 99 rfl).ret (c1,Shape.mk false false true) q24 rfl rfl
    obtain⟨r26,q27,h⟩:=obs h
    replace q27:=guardO_t q27
    have f28:=fun hg=>(hk 3 29 rfl).ret c1.kids_ (q27 hg) rfl rfl
    obtain⟨r29,q30,h⟩:=obs h
    replace q30:=guardO_t q30
    have f31:=fun hg=>(hk 4 209 rfl).ret c1.redirs_ (q30 hg) rfl rfl
    refine reg hS [(2,ab ((r23&&r26)&&r29))] [V6 c1] ?_ ?_
    ·clear h hk hS hX c
     exact dh1 (an pf_99 (an f25 (an pf_29 (an f28 (ap1 209 hpf f31)))))
    cases h;exact ret fin
   ·refine seqM ⟨sl [(1,.ref 0 0),(4,ai c1.kind_),(59,ab (bif decide (c1.kind_=8)then decide (c1.kind_=8)else decide (c1.kind_=11)))],169,[V6 c1]⟩ ?_ ?_
    ·refine srg hS [1,4,59] di ?_
     refine cond (b:=decide (c1.kind_=8)) rfl (fun hb32=>?_) (fun hb32=>?_)
     ·refine skip ?_
      exact Weak.of_eq (Weak.slots (L:=[(1,.ref 0 0),(4,ai c1.kind_),(59,ab (decide (c1.kind_=8)))]) kp) (wq hb32)
     ·refine rg hS [1,4,59] di ?_
      exact Weak.of_eq (Weak.slots (L:=[(1,.ref 0 0),(4,ai c1.kind_),(59,ab (decide (c1.kind_=11)))]) kp) (wq hb32)
    refine ifs h (fun hb33 h=>?_) fun hb33 h=>?_
    ·refine seq ?_
     obtain⟨r34,q35,h⟩:=obs h
     have f36:=(hk 0 99 rfl).ret (c1,Shape.mk false false false) q35 rfl rfl
     obtain⟨u37,q38,h⟩:=obs h
     have f39:=lidx_g (guardO_t q38)
     try simp only[NRM,Int.reduceToNat]at f39
     obtain⟨r40,q41,h⟩:=obs h
     replace q41:=guardO_t q41
     have f42:=fun hg=>(hk 5 210 rfl).ret u37 (q41 hg) rfl rfl
     obtain⟨u43,q44,h⟩:=obs h
     have f45:=lidx_g (guardO_t q44)
     try simp only[NRM,Int.reduceToNat]at f45
     obtain⟨r46,q47,h⟩:=obs h
     replace q47:=guardO_t q47
     have f48:=fun hg=>(hk 6 182 rfl).ret u43 (q47 hg) rfl rfl
     refine reg hS [(2,ab (((r34&&decide ((c1.kids_.length:Int)=2))&&r40)&&r46))] [V6 c1] ?_ ?_
     ·clear h hk hS hX c
      exact dh1 (an pf_99 (an f36 (an f39.1 (an f39.2.1 (an pf_210 (an f42 (an f45.1 (an f45.2.1 (ap1 182 hpf f48)))))))))
     cases h;exact ret fin
    ·refine srg hS [1,4,85] di ?_
     refine ifs h (fun hb49 h=>?_) fun hb49 h=>?_
     ·refine seq ?_
      obtain⟨r50,q51,h⟩:=obs h
      have f52:=(hk 0 99 rfl).ret (c1,Shape.mk true true false) q51 rfl rfl
      obtain⟨r53,q54,h⟩:=obs h
      replace q54:=guardO_t q54
      have f55:=fun hg=>(hk 1 207 rfl).ret c1.words_ (q54 hg) rfl rfl
      obtain⟨r56,q57,h⟩:=obs h
      replace q57:=guardO_t q57
      have f58:=fun hg=>(hk 2 208 rfl).ret c1.kids_ (q57 hg) rfl rfl
      refine reg hS [(2,ab ((r50&&r53)&&r56))] [V6 c1] ?_ ?_
      ·clear h hk hS hX c
       exact dh1 (an pf_99 (an f52 (an pf_207 (an f55 (ap1 208 hpf f58)))))
      cases h;exact ret fin
     ·refine srg hS [1,4,100] di ?_
      refine ifs h (fun hb59 h=>?_) fun hb59 h=>?_
      ·refine seq ?_
       obtain⟨r60,q61,h⟩:=obs h
       have f62:=(hk 0 99 rfl).ret (c1,Shape.mk false true false) q61 rfl rfl
       obtain⟨r63,q64,h⟩:=obs h
       replace q64:=guardO_t q64
       have f65:=fun hg=>(hk 1 207 rfl).ret c1.words_ (q64 hg) rfl rfl
       refine AW.cases (((r60&&decide ((c1.words_.length:Int)=1))&&r63)) (fun hsp29=>?_) (fun hsp29=>?_)
       ·replace h:=bif_t hsp29 h
        try simp only[Bool.and_eq_true,Bool.or_eq_false_iff]at hsp29
        obtain⟨r66,q67,h⟩:=obs h
        have f68:=(hk 7 49 rfl).ret c1.kids_ q67 rfl rfl
        have e69:ecall O [V6 c1] 49 [vC c1.kids_,.fn 211 []]=some (retAV [ab r66],[V6 c1]):=ecall_eq rfl rfl rfl f68 rfl rfl rfl
        refine reg hS [(2,ab (!r66))] [V6 c1] ?_ ?_
        ·clear h hk hS hX c
         exact dh1 (an pf_99 (an f62 (an pf_207 (an f65 (an hsp29 (ap0 49 hpf e69))))))
        cases h;exact ret fin
       ·replace h:=bif_f hsp29 h
        try simp only[Bool.and_eq_true,Bool.or_eq_false_iff]at hsp29
        refine reg hS [(2,ab false)] [V6 c1] ?_ ?_
        ·clear h hk hS hX c
         exact dh1 (an pf_99 (an f62 (an pf_207 (an f65 hsp29))))
        cases h;exact ret fin
      ·refine srg hS [1,4,122] di ?_
       refine ifs h (fun hb70 h=>?_) fun hb70 h=>?_
       ·refine seq ?_
        obtain⟨r71,q72,h⟩:=obs h
        have f73:=(hk 0 99 rfl).ret (c1,Shape.mk true false false) q72 rfl rfl
        obtain⟨r74,q75,h⟩:=obs h
        replace q75:=guardO_t q75
        have f76:=fun hg=>(hk 3 29 rfl).ret c1.kids_ (q75 hg) rfl rfl
        refine reg hS [(2,ab (r71&&r74))] [V6 c1] ?_ ?_
        ·clear h hk hS hX c
         exact dh1 (an pf_99 (an f73 (ap1 29 hpf f76)))
        cases h;exact ret fin
       ·refine srg hS [1,4,132] di ?_
        refine ifs h (fun hb77 h=>?_) fun hb77 h=>?_
        ·refine seq ?_
         obtain⟨r78,q79,h⟩:=obs h
         have f80:=(hk 0 99 rfl).ret (c1,Shape.mk false true false) q79 rfl rfl
         obtain⟨r81,q82,h⟩:=obs h
         replace q82:=guardO_t q82
         have f83:=fun hg=>(hk 1 207 rfl).ret c1.words_ (q82 hg) rfl rfl
         refine reg hS [(2,ab (((r78&&decide (1≤(c1.words_.length:Int)))&&decide ((c1.kids_.length:Int)=0))&&r81))] [V6 c1] ?_ ?_
         ·clear h hk hS hX c
          exact dh1 (an pf_99 (an f80 (ap1 207 hpf f83)))
         cases h;exact ret fin
        ·refine srg hS [1,154] di ?_
         refine ifk h (fun hb84 h=>?_) fun hb84 h=>?_
         ·refine seq ?_
          obtain⟨r85,q86,h⟩:=obs h
          have f87:=(hk 0 99 rfl).ret (c1,Shape.mk false true true) q86 rfl rfl
          obtain⟨r88,q89,h⟩:=obs h
          replace q89:=guardO_t q89
          have f90:=fun hg=>(hk 8 213 rfl).ret c1 (q89 hg) rfl rfl
          refine reg hS [(2,ab ((r85&&decide ((c1.kids_.length:Int)=0))&&r88))] [V6 c1] ?_ ?_
          ·clear h hk hS hX c
           exact dh1 (an pf_99 (an f87 (ap1 213 hpf f90)))
          cases h;exact ret fin
         ·refine srg hS [2] di ?_
          cases h;exact ret fin
end Go.Abs.U48
