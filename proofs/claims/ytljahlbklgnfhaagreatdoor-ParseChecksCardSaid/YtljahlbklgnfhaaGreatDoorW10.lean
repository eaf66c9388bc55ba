import Derived.Test.YtljahlbklgnfhaaGreatDoorD1
set_option linter.unusedVariables false
set_option linter.unusedSimpArgs false
set_option linter.defProp false
set_option maxRecDepth 8000
set_option maxHeartbeats 4000000
namespace Go.Abs.U48
open Go.RowKit Go.Proofs AW
theorem g_F171(c:AllG env []):GoodH env (S171 F171):=by
 obtain⟨O,X,hS,hX,hpf,hk⟩:=orp c
 refine gh fn_171 14 ?_
 rintro(quoted1:Str) (r:Bool) h m em
 refine ghs em ?_;clear em m
 replace h:F171 quoted1=some r:=h
 rw[F171]at h
 refine srg hS [0] di ?_
 refine seq ?_
 refine srg hS [0,3] di ?_
 refine block ?_
 refine lp (α:=Nat×Int) (fun(_,i3)=>⟨sl [(0,as_ quoted1),(3,ai i3)],14,[]⟩) (fun x=>iter (F171_b1 quoted1) x.1 x.2=some r) (fun x=>x.1) (BIG,0) (Weak.slots kp) h ?_
 clear h
 intro⟨n12,i3⟩ h
 replace h:=iter_some h;obtain⟨m6,rfl,h⟩:=h
 rw[F171_b1]at h
 try dsimp only at h
 refine AW.st ?_
 refine seq ?_
 refine srg hS [0,3,7] di ?_
 refine ifs h (fun hb7 h=>?_) fun hb7 h=>?_
 ·refine skip ?_
  refine seq ?_
  refine block ?_
  refine seq ?_
  obtain⟨c8,q9,h⟩:=obs h
  have f10:=sidx_f q9
  refine rg hS [0,3,13] (di1 (an f10.1 (an f10.2.1 f10.2.2))) ?_
  refine ifk h (fun hb11 h=>?_) fun hb11 h=>?_
  ·refine srg hS [2] di ?_
   cases h;exact ret fin
  ·refine rg hS [0,3] di ?_
   exact⟨(m6,IntKind.wrap .i64 (i3+1)),h,(Weak.norm (m:=0) (Nat.le_of_ble_eq_true rfl) kp hq rfl rfl),Nat.lt_succ_self _⟩
 ·refine exit ?_
  refine srg hS [2] di ?_
  cases h;exact ret fin
theorem g_F148(c:AllG env [(S187 F187),(S171 F171)]):GoodH env (S148 F148):=by
 obtain⟨O,X,hS,hX,hpf,hk⟩:=orp c
 have pf_187:O.pf 187=true:=pft hpf 187 rfl
 refine gh fn_148 24 ?_
 rintro(w1:Word) (r:Bool) h m em
 refine ghs em ?_;clear em m
 replace h:F148 w1=some r:=h
 rw[F148]at h
 refine srg hS [1] di ?_
 refine seqJ (α:=Int×Str×Str×(List Word)×(List Cmd)) (fun(x3,x4,x5,x6,x7)=>⟨sl [(1,.ref 0 0)],24,[V15 x3 x4 x5 x6 x7]⟩) (fun x=>F148_j1 x=some r) ?_ ?_
 ·intro⟨x3,x4,x5,x6,x7⟩ h
  rw[F148_j1]at h
  try dsimp only at h
  refine AW.st ?_
  refine seq ?_
  obtain⟨r8,q9,h⟩:=obs h
  replace q9:=guardO_t q9
  have f10:=fun hg=>(hk 0 187 rfl).ret x4 (q9 hg) rfl rfl
  obtain⟨r11,q12,h⟩:=obs h
  replace q12:=guardO_t q12
  have f13:=fun hg=>(hk 1 171 rfl).ret x5 (q12 hg) rfl rfl
  refine reg hS [(2,ab ((decide (x3=1)&&r8)&&!r11))] [V15 x3 x4 x5 x6 x7] ?_ ?_
  ·clear h hk hS hX c
   exact dh1 (an pf_187 (an f10 (ap1 171 hpf f13)))
  cases h;exact ret fin
 refine srg hS [1,5] di ?_
 refine ifk h (fun hb14 h=>?_) fun hb14 h=>?_
 ·obtain⟨u15,q16,h⟩:=obs h
  have f17:=lidx_f q16
  try simp only[NRM,Int.reduceToNat]at f17
  refine rg hS [1] (di1 (an f17.1 f17.2.1)) ?_
  exact⟨(u15.kind_,u15.text_,u15.quoted_,u15.words_,u15.cmd_),h,(Weak.norm (m:=1) (Nat.le_of_ble_eq_true rfl) kp hq rfl rfl)⟩
 ·exact⟨(w1.kind_,w1.text_,w1.quoted_,w1.words_,w1.cmd_),h,(Weak.norm (m:=1) (Nat.le_of_ble_eq_true rfl) kp hq rfl rfl)⟩
theorem g_F149{w101:Y4}(c:AllG env [(S101 w101)]):GoodH env (S149 (F149 w101)):=by
 obtain⟨O,X,hS,hX,hpf,hk⟩:=orp c
 refine gh fn_149 16 ?_
 rintro(c1:Cmd) (r:Bool) h m em
 refine ghs em ?_;clear em m
 replace h:F149 w101 c1=some r:=h
 rw[F149]at h
 refine srg hS [1] di ?_
 refine seq ?_
 obtain⟨r3,q4,h⟩:=obs h
 replace q4:=guardO_t q4
 have f5:=fun hg=>(hk 0 101 rfl).ret c1 (q4 hg) rfl rfl
 refine reg hS [(2,ab ((decide (c1.kind_=12)&&decide ((c1.redirs_.length:Int)=0))&&r3))] [V6 c1] ?_ ?_
 ·clear h hk hS hX c
  exact dh1 (ap1 101 hpf f5)
 cases h;exact ret fin
theorem g_F150{w101:Y4}{w184:Y3}(c:AllG env [(S146 (F146 w184)),(S30 (F30 w101))]):GoodH env (S150 (F150 w101 w184)):=by
 obtain⟨O,X,hS,hX,hpf,hk⟩:=orp c
 have pf_146:O.pf 146=true:=pft hpf 146 rfl
 refine gh fn_150 47 ?_
 rintro(l1:(List Cmd)) (r:Bool) h m em
 refine ghs em ?_;clear em m
 replace h:F150 w101 w184 l1=some r:=h
 rw[F150]at h
 refine srg hS [0] di ?_
 refine seq ?_
 refine srg hS [0,3] di ?_
 refine block ?_
 refine lp (α:=Nat×Int) (fun(_,i3)=>⟨sl [(0,vC l1),(3,ai i3)],47,[]⟩) (fun x=>iter (F150_b1 l1 w184 w101) x.1 x.2=some r) (fun x=>x.1) (BIG,0) (Weak.slots kp) h ?_
 clear h
 intro⟨n18,i3⟩ h
 replace h:=iter_some h;obtain⟨m6,rfl,h⟩:=h
 rw[F150_b1]at h
 try dsimp only at h
 refine AW.st ?_
 refine seq ?_
 refine srg hS [0,3,8] di ?_
 refine ifs h (fun hb7 h=>?_) fun hb7 h=>?_
 ·refine skip ?_
  refine seq ?_
  refine block ?_
  refine seq ?_
  obtain⟨u8,q9,h⟩:=obs h
  have f10:=lidx_f q9
  refine rg hS [0,3,4] (di1 (an f10.1 f10.2.1)) ?_
  refine seq ?_
  obtain⟨r11,q12,h⟩:=obs h
  replace q12:=guardO_t q12
  have f13:=fun hg=>(hk 0 146 rfl).ret u8.words_ (q12 hg) rfl rfl
  obtain⟨r14,q15,h⟩:=obs h
  replace q15:=guardO_t q15
  have f16:=fun hg=>(hk 1 30 rfl).ret u8.kids_ (q15 hg) rfl rfl
  refine reg hS [(0,vC l1),(3,ai i3),(46,ab (((((!decide (u8.kind_=18)||!decide (u8.name_=[]))||decide (0<(u8.redirs_.length:Int)))||decide ((u8.words_.length:Int)=0))||!r11)||!r14))] [V6 u8] ?_ ?_
  ·clear h hk hS hX c
   exact dh1 (an pf_146 (an f13 (ap1 30 hpf f16)))
  refine ifk h (fun hb17 h=>?_) fun hb17 h=>?_
  ·refine srg hS [2] di ?_
   cases h;exact ret fin
  ·refine rg hS [0,3] di ?_
   exact⟨(m6,IntKind.wrap .i64 (i3+1)),h,(Weak.norm (m:=0) (Nat.le_of_ble_eq_true rfl) kp hq rfl rfl),Nat.lt_succ_self _⟩
 ·refine exit ?_
  refine srg hS [2] di ?_
  cases h;exact ret fin
theorem g_F101{w101:Y4}{w184:Y3}(c:AllG env [(S145 F145),(S146 (F146 w184)),(S147 (F147 w184)),(S148 F148),(S149 (F149 w101)),(S65 (F65 w101)),(S30 (F30 w101)),(S150 (F150 w101 w184))]):GoodH env (S101 (F101 w101 w184)):=by
 obtain⟨O,X,hS,hX,hpf,hk⟩:=orp c
 have pf_65:O.pf 65=true:=pft hpf 65 rfl
 have pf_145:O.pf 145=true:=pft hpf 145 rfl
 have pf_149:O.pf 149=true:=pft hpf 149 rfl
 refine gh fn_101 89 ?_
 rintro(c1:Cmd) (r:Bool) h m em
 refine ghs em ?_;clear em m
 replace h:F101 w101 w184 c1=some r:=h
 rw[F101]at h
 refine srg hS [1] di ?_
 refine seq ?_
 refine seq ?_
 obtain⟨r3,q4,h⟩:=obs h
 have f5:=(hk 0 145 rfl).ret c1 q4 rfl rfl
 obtain⟨r6,q7,h⟩:=obs h
 replace q7:=guardO_t q7
 have f8:=fun hg=>(hk 1 146 rfl).ret c1.words_ (q7 hg) rfl rfl
 refine reg hS [(1,.ref 0 0),(12,ab (!r3||!r6))] [V6 c1] ?_ ?_
 ·clear h hk hS hX c
  exact dh1 (an pf_145 (an f5 (ap1 146 hpf f8)))
 refine ifk h (fun hb9 h=>?_) fun hb9 h=>?_
 ·refine srg hS [2] di ?_
  cases h;exact ret fin
 ·refine seq ?_
  refine srg hS [1,3] di ?_
  refine block ?_
  refine lp (α:=Nat×Int) (fun(_,i10)=>⟨sl [(1,.ref 0 0),(3,ai i10)],89,[V6 c1]⟩) (fun x=>iter (F101_b1 c1 w184 w101) x.1 x.2=some r) (fun x=>x.1) (BIG,0) (Weak.slots kp) h ?_
  clear h
  intro⟨n73,i10⟩ h
  replace h:=iter_some h;obtain⟨m13,rfl,h⟩:=h
  rw[F101_b1]at h
  try dsimp only at h
  refine AW.st ?_
  refine seq ?_
  refine srg hS [1,3,17] di ?_
  refine ifs h (fun hb14 h=>?_) fun hb14 h=>?_
  ·refine skip ?_
   refine seq ?_
   refine block ?_
   refine seq ?_
   obtain⟨u15,q16,h⟩:=obs h
   have f17:=lidx_f q16
   obtain⟨r18,q19,h⟩:=obs h
   have f20:=(hk 2 147 rfl).ret u15 q19 rfl rfl
   refine rg hS [1,3,26] (di1 (an f17.1 (an f17.2.1 (ap1 147 hpf f20)))) ?_
   refine ifk h (fun hb21 h=>?_) fun hb21 h=>?_
   ·refine srg hS [2] di ?_
    cases h;exact ret fin
   ·refine rg hS [1,3] di ?_
    exact⟨(m13,IntKind.wrap .i64 (i10+1)),h,(Weak.norm (m:=1) (Nat.le_of_ble_eq_true rfl) kp hq rfl rfl),Nat.lt_succ_self _⟩
  ·refine exit ?_
   refine seq ?_
   refine srg hS [1,28] di ?_
   refine block ?_
   refine srg hS [1,28,29] di ?_
   refine ifs h (fun hb22 h=>?_) fun hb22 h=>?_
   ·refine seq ?_
    obtain⟨u23,q24,h⟩:=obs h
    have f25:=lidx_g (guardO_t q24)
    try simp only[NRM,Int.reduceToNat]at f25
    obtain⟨r26,q27,h⟩:=obs h
    replace q27:=guardO_t q27
    have f28:=fun hg=>(hk 3 148 rfl).ret u23 (q27 hg) rfl rfl
    refine reg hS [(2,ab (decide ((c1.words_.length:Int)=0)||!r26))] [V6 c1] ?_ ?_
    ·clear h hk hS hX c
     exact dh1 (an f25.1 (an f25.2.1 (ap1 148 hpf f28)))
    cases h;exact ret fin
   ·refine seqM ⟨sl [(1,.ref 0 0),(28,ai c1.kind_),(43,ab (bif decide (c1.kind_=8)then decide (c1.kind_=8)else decide (c1.kind_=11)))],89,[V6 c1]⟩ ?_ ?_
    ·refine srg hS [1,28,43] di ?_
     refine cond (b:=decide (c1.kind_=8)) rfl (fun hb29=>?_) (fun hb29=>?_)
     ·refine skip ?_
      exact Weak.of_eq (Weak.slots (L:=[(1,.ref 0 0),(28,ai c1.kind_),(43,ab (decide (c1.kind_=8)))]) kp) (wq hb29)
     ·refine rg hS [1,28,43] di ?_
      exact Weak.of_eq (Weak.slots (L:=[(1,.ref 0 0),(28,ai c1.kind_),(43,ab (decide (c1.kind_=11)))]) kp) (wq hb29)
    refine ifs h (fun hb30 h=>?_) fun hb30 h=>?_
    ·refine seq ?_
     obtain⟨u31,q32,h⟩:=obs h
     have f33:=lidx_f q32
     try simp only[NRM,Int.reduceToNat]at f33
     obtain⟨r34,q35,h⟩:=obs h
     have f36:=(hk 4 149 rfl).ret u31 q35 rfl rfl
     obtain⟨l37,q38,h⟩:=obs h
     have f39:=lslicek_g (guardO_t q38)
     try simp only[NRM,Int.reduceToNat]at f39
     have f39l:=f39.2.2.1
     have f39m:=lslice_mg Cmd.pv (guardO_t q38)
     try simp only[NRM,Int.reduceToNat]at f39l f39m
     obtain⟨r40,q41,h⟩:=obs h
     replace q41:=guardO_t q41
     have f42:=fun hg=>(hk 5 65 rfl).ret (l37,1) (q41 hg) rfl rfl
     refine reg hS [(2,ab (r34&&r40))] [V6 c1] ?_ ?_
     ·clear h hk hS hX c
      exact dh1 (an f33.1 (an f33.2.1 (an pf_149 (an f36 (an f39.1 (an f39.2.1 (an f39l (an f39.2.2.2 (an f39m (ap1 65 hpf f42))))))))))
     clear f39 f39l f39m
     cases h;exact ret fin
    ·refine seqM ⟨sl [(1,.ref 0 0),(28,ai c1.kind_),(57,ab (bif decide (c1.kind_=12)then decide (c1.kind_=12)else decide (c1.kind_=15)))],89,[V6 c1]⟩ ?_ ?_
     ·refine srg hS [1,28,57] di ?_
      refine cond (b:=decide (c1.kind_=12)) rfl (fun hb43=>?_) (fun hb43=>?_)
      ·refine skip ?_
       exact Weak.of_eq (Weak.slots (L:=[(1,.ref 0 0),(28,ai c1.kind_),(57,ab (decide (c1.kind_=12)))]) kp) (wq hb43)
      ·refine rg hS [1,28,57] di ?_
       exact Weak.of_eq (Weak.slots (L:=[(1,.ref 0 0),(28,ai c1.kind_),(57,ab (decide (c1.kind_=15)))]) kp) (wq hb43)
     refine ifs h (fun hb44 h=>?_) fun hb44 h=>?_
     ·refine seq ?_
      obtain⟨r45,q46,h⟩:=obs h
      have f47:=(hk 6 30 rfl).ret c1.kids_ q46 rfl rfl
      refine rg hS [2] (di1 (ap1 30 hpf f47)) ?_
      cases h;exact ret fin
     ·refine seqM ⟨sl [(1,.ref 0 0),(28,ai c1.kind_),(63,ab (bif decide (c1.kind_=5)then decide (c1.kind_=5)else decide (c1.kind_=6)))],89,[V6 c1]⟩ ?_ ?_
      ·refine srg hS [1,28,63] di ?_
       refine cond (b:=decide (c1.kind_=5)) rfl (fun hb48=>?_) (fun hb48=>?_)
       ·refine skip ?_
        exact Weak.of_eq (Weak.slots (L:=[(1,.ref 0 0),(28,ai c1.kind_),(63,ab (decide (c1.kind_=5)))]) kp) (wq hb48)
       ·refine rg hS [1,28,63] di ?_
        exact Weak.of_eq (Weak.slots (L:=[(1,.ref 0 0),(28,ai c1.kind_),(63,ab (decide (c1.kind_=6)))]) kp) (wq hb48)
      refine ifs h (fun hb49 h=>?_) fun hb49 h=>?_
      ·refine seq ?_
       obtain⟨l50,q51,h⟩:=obs h
       have f52:=lslicek_f q51
       try simp only[NRM,Int.reduceToNat]at f52
       have f52l:=f52.2.2.1
       have f52m:=lslice_m Cmd.pv q51
       try simp only[NRM,Int.reduceToNat]at f52l f52m
       obtain⟨r53,q54,h⟩:=obs h
       have f55:=(hk 5 65 rfl).ret (l50,3) q54 rfl rfl
       obtain⟨l56,q57,h⟩:=obs h
       have f58:=lslicek_g (guardO_t q57)
       try simp only[NRM,Int.reduceToNat]at f58
       have f58l:=f58.2.2.1
       have f58m:=lslice_mg Cmd.pv (guardO_t q57)
       try simp only[NRM,Int.reduceToNat]at f58l f58m
       obtain⟨r59,q60,h⟩:=obs h
       replace q60:=guardO_t q60
       have f61:=fun hg=>(hk 5 65 rfl).ret (l56,2) (q60 hg) rfl rfl
       refine reg hS [(2,ab (r53&&r59))] [V6 c1] ?_ ?_
       ·clear h hk hS hX c
        exact dh1 (an f52.1 (an f52.2.1 (an f52l (an f52.2.2.2 (an f52m (an pf_65 (an f55 (an f58.1 (an f58.2.1 (an f58l (an f58.2.2.2 (an f58m f61))))))))))))
       clear f52 f52l f52m
       clear f58 f58l f58m
       cases h;exact ret fin
      ·refine srg hS [1,28,76] di ?_
       refine ifs h (fun hb62 h=>?_) fun hb62 h=>?_
       ·refine seq ?_
        obtain⟨r63,q64,h⟩:=obs h
        have f65:=(hk 5 65 rfl).ret (c1.kids_,3) q64 rfl rfl
        refine rg hS [2] (di1 (ap1 65 hpf f65)) ?_
        cases h;exact ret fin
       ·refine srg hS [1,81] di ?_
        refine ifk h (fun hb66 h=>?_) fun hb66 h=>?_
        ·refine seq ?_
         obtain⟨r67,q68,h⟩:=obs h
         have f69:=(hk 7 150 rfl).ret c1.kids_ q68 rfl rfl
         refine rg hS [2] (di1 (ap1 150 hpf f69)) ?_
         cases h;exact ret fin
        ·refine seq ?_
         obtain⟨r70,q71,h⟩:=obs h
         have f72:=(hk 5 65 rfl).ret (c1.kids_,1) q71 rfl rfl
         refine rg hS [2] (di1 (ap1 65 hpf f72)) ?_
         cases h;exact ret fin
theorem g_F238(c:AllG env []):GoodH env (S238 F238):=by
 obtain⟨O,X,hS,hX,hpf,hk⟩:=orp c
 refine gh fn_238 22 ?_
 rintro(c1:Int) (r:Bool) h m em
 refine ghs em ?_;clear em m
 replace h:F238 c1=some r:=h
 rw[F238]at h
 refine srg hS [0] di ?_
 refine seq ?_
 refine srg hS [3] di ?_
 refine block ?_
 refine seqM ⟨sl [(4,ab (bif decide (c1=32)then decide (c1=32)else(bif decide (c1=9)then decide (c1=9)else(bif decide (c1=10)then decide (c1=10)else(bif decide (c1=59)then decide (c1=59)else(bif decide (c1=38)then decide (c1=38)else(bif decide (c1=124)then decide (c1=124)else(bif decide (c1=40)then decide (c1=40)else(bif decide (c1=41)then decide (c1=41)else(bif decide (c1=123)then decide (c1=123)else(bif decide (c1=125)then decide (c1=125)else(bif decide (c1=60)then decide (c1=60)else(bif decide (c1=62)then decide (c1=62)else(bif decide (c1=61)then decide (c1=61)else(bif decide (c1=94)then decide (c1=94)else(bif decide (c1=96)then decide (c1=96)else(bif decide (c1=36)then decide (c1=36)else decide (c1=39))))))))))))))))))],22,[]⟩ ?_ ?_
 ·refine srg hS [3,4] di ?_
  refine cond (b:=decide (c1=32)) rfl (fun hb3=>?_) (fun hb3=>?_)
  ·refine skip ?_
   exact Weak.of_eq (Weak.slots (L:=[(4,ab (decide (c1=32)))]) kp) (wq hb3)
  ·refine srg hS [3,4] di ?_
   refine cond (b:=decide (c1=9)) rfl (fun hb4=>?_) (fun hb4=>?_)
   ·refine skip ?_
    exact Weak.of_eq (Weak.slots (L:=[(4,ab (decide (c1=9)))]) kp) (by simp only[hb3,hb4,cond_true,cond_false,BOOLS,Bool.not_true,Bool.not_false]<;>rfl)
   ·refine srg hS [3,4] di ?_
    refine cond (b:=decide (c1=10)) rfl (fun hb5=>?_) (fun hb5=>?_)
    ·refine skip ?_
     exact Weak.of_eq (Weak.slots (L:=[(4,ab (decide (c1=10)))]) kp) (by simp only[hb3,hb4,hb5,cond_true,cond_false,BOOLS,Bool.not_true,Bool.not_false]<;>rfl)
    ·refine srg hS [3,4] di ?_
     refine cond (b:=decide (c1=59)) rfl (fun hb6=>?_) (fun hb6=>?_)
     ·refine skip ?_
      exact Weak.of_eq (Weak.slots (L:=[(4,ab (decide (c1=59)))]) kp) (by simp only[hb3,hb4,hb5,hb6,cond_true,cond_false,BOOLS,Bool.not_true,Bool.not_false]<;>rfl)
     ·refine srg hS [3,4] di ?_
      refine cond (b:=decide (c1=38)) rfl (fun hb7=>?_) (fun hb7=>?_)
      ·refine skip ?_
       exact Weak.of_eq (Weak.slots (L:=[(4,ab (decide (c1=38)))]) kp) (by simp only[hb3,hb4,hb5,hb6,hb7,cond_true,cond_false,BOOLS,Bool.not_true,Bool.not_false]<;>rfl)
      ·refine srg hS [3,4] di ?_
       refine cond (b:=decide (c1=124)) rfl (fun hb8=>?_) (fun hb8=>?_)
       ·refine skip ?_
        exact Weak.of_eq (Weak.slots (L:=[(4,ab (decide (c1=124)))]) kp) (by simp only[hb3,hb4,hb5,hb6,hb7,hb8,cond_true,cond_false,BOOLS,Bool.not_true,Bool.not_false]<;>rfl)
       ·refine srg hS [3,4] di ?_
        refine cond (b:=decide (c1=40)) rfl (fun hb9=>?_) (fun hb9=>?_)
        ·refine skip ?_
         exact Weak.of_eq (Weak.slots (L:=[(4,ab (decide (c1=40)))]) kp) (by simp only[hb3,hb4,hb5,hb6,hb7,hb8,hb9,cond_true,cond_false,BOOLS,Bool.not_true,Bool.not_false]<;>rfl)
        ·refine srg hS [3,4] di ?_
         refine cond (b:=decide (c1=41)) rfl (fun hb10=>?_) (fun hb10=>?_)
         ·refine skip ?_
          exact Weak.of_eq (Weak.slots (L:=[(4,ab (decide (c1=41)))]) kp) (by simp only[hb3,hb4,hb5,hb6,hb7,hb8,hb9,hb10,cond_true,cond_false,BOOLS,Bool.not_true,Bool.not_false]<;>rfl)
         ·refine srg hS [3,4] di ?_
          refine cond (b:=decide (c1=123)) rfl (fun hb11=>?_) (fun hb11=>?_)
          ·refine skip ?_
           exact Weak.of_eq (Weak.slots (L:=[(4,ab (decide (c1=123)))]) kp) (by simp only[hb3,hb4,hb5,hb6,hb7,hb8,hb9,hb10,hb11,cond_true,cond_false,BOOLS,Bool.not_true,Bool.not_false]<;>rfl)
          ·refine srg hS [3,4] di ?_
           refine cond (b:=decide (c1=125)) rfl (fun hb12=>?_) (fun hb12=>?_)
           ·refine skip ?_
            exact Weak.of_eq (Weak.slots (L:=[(4,ab (decide (c1=125)))]) kp) (by simp only[hb3,hb4,hb5,hb6,hb7,hb8,hb9,hb10,hb11,hb12,cond_true,cond_false,BOOLS,Bool.not_true,Bool.not_false]<;>rfl)
           ·refine srg hS [3,4] di ?_
            refine cond (b:=decide (c1=60)) rfl (fun hb13=>?_) (fun hb13=>?_)
            ·refine skip ?_
             exact Weak.of_eq (Weak.slots (L:=[(4,ab (decide (c1=60)))]) kp) (by simp only[hb3,hb4,hb5,hb6,hb7,hb8,hb9,hb10,hb11,hb12,hb13,cond_true,cond_false,BOOLS,Bool.not_true,Bool.not_false]<;>rfl)
            ·refine srg hS [3,4] di ?_
             refine cond (b:=decide (c1=62)) rfl (fun hb14=>?_) (fun hb14=>?_)
             ·refine skip ?_
              exact Weak.of_eq (Weak.slots (L:=[(4,ab (decide (c1=62)))]) kp) (by simp only[hb3,hb4,hb5,hb6,hb7,hb8,hb9,hb10,hb11,hb12,hb13,hb14,cond_true,cond_false,BOOLS,Bool.not_true,Bool.not_false]<;>rfl)
             ·refine srg hS [3,4] di ?_
              refine cond (b:=decide (c1=61)) rfl (fun hb15=>?_) (fun hb15=>?_)
              ·refine skip ?_
               exact Weak.of_eq (Weak.slots (L:=[(4,ab (decide (c1=61)))]) kp) (by simp only[hb3,hb4,hb5,hb6,hb7,hb8,hb9,hb10,hb11,hb12,hb13,hb14,hb15,cond_true,cond_false,BOOLS,Bool.not_true,Bool.not_false]<;>rfl)
              ·refine srg hS [3,4] di ?_
               refine cond (b:=decide (c1=94)) rfl (fun hb16=>?_) (fun hb16=>?_)
               ·refine skip ?_
                exact Weak.of_eq (Weak.slots (L:=[(4,ab (decide (c1=94)))]) kp) (by simp only[hb3,hb4,hb5,hb6,hb7,hb8,hb9,hb10,hb11,hb12,hb13,hb14,hb15,hb16,cond_true,cond_false,BOOLS,Bool.not_true,Bool.not_false]<;>rfl)
               ·refine srg hS [3,4] di ?_
                refine cond (b:=decide (c1=96)) rfl (fun hb17=>?_) (fun hb17=>?_)
                ·refine skip ?_
                 exact Weak.of_eq (Weak.slots (L:=[(4,ab (decide (c1=96)))]) kp) (by simp only[hb3,hb4,hb5,hb6,hb7,hb8,hb9,hb10,hb11,hb12,hb13,hb14,hb15,hb16,hb17,cond_true,cond_false,BOOLS,Bool.not_true,Bool.not_false]<;>rfl)
                ·refine srg hS [3,4] di ?_
                 refine cond (b:=decide (c1=36)) rfl (fun hb18=>?_) (fun hb18=>?_)
                 ·refine skip ?_
                  exact Weak.of_eq (Weak.slots (L:=[(4,ab (decide (c1=36)))]) kp) (by simp only[hb3,hb4,hb5,hb6,hb7,hb8,hb9,hb10,hb11,hb12,hb13,hb14,hb15,hb16,hb17,hb18,cond_true,cond_false,BOOLS,Bool.not_true,Bool.not_false]<;>rfl)
                 ·refine rg hS [4] di ?_
                  exact Weak.of_eq (Weak.slots (L:=[(4,ab (decide (c1=39)))]) kp) (by simp only[hb3,hb4,hb5,hb6,hb7,hb8,hb9,hb10,hb11,hb12,hb13,hb14,hb15,hb16,hb17,hb18,cond_true,cond_false,BOOLS,Bool.not_true,Bool.not_false]<;>rfl)
 refine ifk h (fun hb19 h=>?_) fun hb19 h=>?_
 ·refine srg hS [2] di ?_
  cases h;exact ret fin
 ·refine srg hS [2] di ?_
  cases h;exact ret fin
theorem g_F214(c:AllG env [(S238 F238)]):GoodH env (S214 F214):=by
 obtain⟨O,X,hS,hX,hpf,hk⟩:=orp c
 refine gh fn_214 72 ?_
 rintro(w1:Word) (r:Bool) h m em
 refine ghs em ?_;clear em m
 replace h:F214 w1=some r:=h
 rw[F214]at h
 refine srg hS [1] di ?_
 refine seq ?_
 refine srg hS [1,10] di ?_
 refine ifk h (fun hb3 h=>?_) fun hb3 h=>?_
 ·refine srg hS [2] di ?_
  cases h;exact ret fin
 ·refine seq ?_
  refine srg hS [1,3] di ?_
  refine block ?_
  refine lp (α:=Nat×Int) (fun(_,i4)=>⟨sl [(1,.ref 0 0),(3,ai i4)],72,[V17 w1]⟩) (fun x=>iter (F214_b1 w1) x.1 x.2=some r) (fun x=>x.1) (BIG,0) (Weak.slots kp) h ?_
  clear h
  intro⟨n25,i4⟩ h
  replace h:=iter_some h;obtain⟨m7,rfl,h⟩:=h
  rw[F214_b1]at h
  try dsimp only at h
  refine AW.st ?_
  refine seq ?_
  refine srg hS [1,3,15] di ?_
  refine ifs h (fun hb8 h=>?_) fun hb8 h=>?_
  ·refine skip ?_
   refine seq ?_
   refine block ?_
   refine seq ?_
   obtain⟨c9,q10,h⟩:=obs h
   have f11:=sidx_f q10
   obtain⟨c12,q13,h⟩:=obs h
   have f14:=sidx_g (guardO_t q13)
   obtain⟨r15,q16,h⟩:=obs h
   replace q16:=guardO_t q16
   have f17:=fun hg=>(hk 0 238 rfl).ret c12 (q16 hg) rfl rfl
   refine reg hS [(1,.ref 0 0),(3,ai i4),(44,ab ((!decide (c9=48)&&!decide (c9=49))||(decide (c9=48)&&!r15)))] [V17 w1] ?_ ?_
   ·clear h hk hS hX c
    exact dh1 (an f11.1 (an f11.2.1 (an f11.2.2 (an f14.1 (an f14.2.1 (an f14.2.2 (ap1 238 hpf f17)))))))
   refine ifk h (fun hb18 h=>?_) fun hb18 h=>?_
   ·refine srg hS [2] di ?_
    cases h;exact ret fin
   ·refine rg hS [1,3] di ?_
    exact⟨(m7,IntKind.wrap .i64 (i4+1)),h,(Weak.norm (m:=1) (Nat.le_of_ble_eq_true rfl) kp hq rfl rfl),Nat.lt_succ_self _⟩
  ·refine exit ?_
   refine seq ?_
   obtain⟨c19,q20,h⟩:=obs h
   have f21:=sidx_g (guardO_t q20)
   try simp only[NRM,Int.reduceToNat]at f21
   obtain⟨c22,q23,h⟩:=obs h
   have f24:=sidx_g (guardO_t q23)
   try simp only[NRM,Int.reduceToNat]at f24
   refine reg hS [(2,ab ((decide (w1.text_=[])||decide (c19=49))||((!decide (c22=35)&&!decide (c22=33))&&!decide (c22=64))))] [V17 w1] ?_ ?_
   ·clear h hk hS hX c
    exact dh1 (an f21.1 (an f21.2.1 (an f21.2.2 (an f24.1 (an f24.2.1 f24.2.2)))))
   cases h;exact ret fin
theorem g_F184{w101:Y4}{w184:Y3}(c:AllG env [(S214 F214),(S172 F172),(S146 (F146 w184)),(S30 (F30 w101))]):GoodH env (S184 (F184 w101 w184)):=by
 obtain⟨O,X,hS,hX,hpf,hk⟩:=orp c
 have pf_172:O.pf 172=true:=pft hpf 172 rfl
 refine gh fn_184 151 ?_
 rintro(w1:Word) (r:Bool) h m em
 refine ghs em ?_;clear em m
 replace h:F184 w101 w184 w1=some r:=h
 rw[F184]at h
 refine srg hS [1] di ?_
 refine seq ?_
 refine srg hS [1,5] di ?_
 refine block ?_
 refine srg hS [1,5,6] di ?_
 refine ifs h (fun hb3 h=>?_) fun hb3 h=>?_
 ·refine seq ?_
  obtain⟨r4,q5,h⟩:=obs h
  have f6:=(hk 0 214 rfl).ret w1 q5 rfl rfl
  refine reg hS [(2,ab (r4&&decide (IntKind.wrap .i64 ((w1.words_.length:Int)+(w1.cmd_.length:Int))=0)))] [V17 w1] ?_ ?_
  ·clear h hk hS hX c
   exact dh1 (ap1 214 hpf f6)
  cases h;exact ret fin
 ·refine seqM ⟨sl [(1,.ref 0 0),(5,ai w1.kind_),(20,ab (bif decide (w1.kind_=2)then decide (w1.kind_=2)else decide (w1.kind_=3)))],151,[V17 w1]⟩ ?_ ?_
  ·refine srg hS [1,5,20] di ?_
   refine cond (b:=decide (w1.kind_=2)) rfl (fun hb7=>?_) (fun hb7=>?_)
   ·refine skip ?_
    exact Weak.of_eq (Weak.slots (L:=[(1,.ref 0 0),(5,ai w1.kind_),(20,ab (decide (w1.kind_=2)))]) kp) (wq hb7)
   ·refine rg hS [1,5,20] di ?_
    exact Weak.of_eq (Weak.slots (L:=[(1,.ref 0 0),(5,ai w1.kind_),(20,ab (decide (w1.kind_=3)))]) kp) (wq hb7)
  refine ifs h (fun hb8 h=>?_) fun hb8 h=>?_
  ·refine seq ?_
   obtain⟨r9,q10,h⟩:=obs h
   have f11:=(hk 1 172 rfl).ret w1.text_ q10 rfl rfl
   refine reg hS [(2,ab ((r9&&decide (w1.quoted_=[]))&&decide (IntKind.wrap .i64 ((w1.words_.length:Int)+(w1.cmd_.length:Int))=0)))] [V17 w1] ?_ ?_
   ·clear h hk hS hX c
    exact dh1 (ap1 172 hpf f11)
   cases h;exact ret fin
  ·refine srg hS [1,5,41] di ?_
   refine ifs h (fun hb12 h=>?_) fun hb12 h=>?_
   ·refine seq ?_
    obtain⟨r13,q14,h⟩:=obs h
    have f15:=(hk 1 172 rfl).ret w1.text_ q14 rfl rfl
    obtain⟨r16,q17,h⟩:=obs h
    replace q17:=guardO_t q17
    have f18:=fun hg=>(hk 2 146 rfl).ret w1.words_ (q17 hg) rfl rfl
    refine reg hS [(2,ab ((((r13&&decide (w1.quoted_=[]))&&decide (0<(w1.words_.length:Int)))&&decide ((w1.cmd_.length:Int)=0))&&r16))] [V17 w1] ?_ ?_
    ·clear h hk hS hX c
     exact dh1 (an pf_172 (an f15 (ap1 146 hpf f18)))
    cases h;exact ret fin
   ·refine srg hS [1,5,68] di ?_
    refine ifs h (fun hb19 h=>?_) fun hb19 h=>?_
    ·refine seq ?_
     obtain⟨r20,q21,h⟩:=obs h
     replace q21:=guardO_t q21
     have f22:=fun hg=>(hk 2 146 rfl).ret w1.words_ (q21 hg) rfl rfl
     refine reg hS [(2,ab (((decide (w1.text_=[])&&decide (w1.quoted_=[]))&&decide ((w1.cmd_.length:Int)=0))&&r20))] [V17 w1] ?_ ?_
     ·clear h hk hS hX c
      exact dh1 (ap1 146 hpf f22)
     cases h;exact ret fin
    ·refine srg hS [1,5,89] di ?_
     refine ifs h (fun hb23 h=>?_) fun hb23 h=>?_
     ·refine seq ?_
      obtain⟨r24,q25,h⟩:=obs h
      replace q25:=guardO_t q25
      have f26:=fun hg=>(hk 3 30 rfl).ret w1.cmd_ (q25 hg) rfl rfl
      refine reg hS [(2,ab (((decide (w1.text_=[])&&decide (w1.quoted_=[]))&&decide ((w1.words_.length:Int)=0))&&r24))] [V17 w1] ?_ ?_
      ·clear h hk hS hX c
       exact dh1 (ap1 30 hpf f26)
      cases h;exact ret fin
     ·refine srg hS [1,110] di ?_
      refine ifk h (fun hb27 h=>?_) fun hb27 h=>?_
      ·refine seq ?_
       refine srg hS [1,3] di ?_
       refine block ?_
       refine lp (α:=Nat×Int) (fun(_,i28)=>⟨sl [(1,.ref 0 0),(3,ai i28)],151,[V17 w1]⟩) (fun x=>iter (F184_b1 w1 w184) x.1 x.2=some r) (fun x=>x.1) (BIG,0) (Weak.slots kp) h ?_
       clear h
       intro⟨n40,i28⟩ h
       replace h:=iter_some h;obtain⟨m31,rfl,h⟩:=h
       rw[F184_b1]at h
       try dsimp only at h
       refine AW.st ?_
       refine seq ?_
       refine srg hS [1,3,116] di ?_
       refine ifs h (fun hb32 h=>?_) fun hb32 h=>?_
       ·refine skip ?_
        refine seq ?_
        refine block ?_
        refine seq ?_
        obtain⟨u33,q34,h⟩:=obs h
        have f35:=lidx_f q34
        refine rg hS [1,3,125] (di1 (an f35.1 f35.2.1)) ?_
        refine ifk h (fun hb36 h=>?_) fun hb36 h=>?_
        ·refine srg hS [2] di ?_
         cases h;exact ret fin
        ·refine rg hS [1,3] di ?_
         exact⟨(m31,IntKind.wrap .i64 (i28+1)),h,(Weak.norm (m:=1) (Nat.le_of_ble_eq_true rfl) kp hq rfl rfl),Nat.lt_succ_self _⟩
       ·refine exit ?_
        refine seq ?_
        obtain⟨r37,q38,h⟩:=obs h
        replace q38:=guardO_t q38
        have f39:=fun hg=>(hk 2 146 rfl).ret w1.words_ (q38 hg) rfl rfl
        refine reg hS [(2,ab ((((decide (w1.text_=[])&&decide (w1.quoted_=[]))&&decide (1<(w1.words_.length:Int)))&&decide ((w1.cmd_.length:Int)=0))&&r37))] [V17 w1] ?_ ?_
        ·clear h hk hS hX c
         exact dh1 (ap1 146 hpf f39)
        cases h;exact ret fin
      ·refine srg hS [2] di ?_
       cases h;exact ret fin
theorem g_F14(c:AllG env [(S16 (K16 BIG)),(S25 (K25 BIG)),(S30 (F30 (K101 BIG)))]):GoodH env (S14 F14):=by
 obtain⟨O,X,hS,hX,hpf,hk⟩:=orp c
 have pf_16:O.pf 16=true:=pft hpf 16 rfl
 have pf_25:O.pf 25=true:=pft hpf 25 rfl
 refine gh fn_14 15 ?_
 rintro(l1:(List Cmd)) (r:Bool) h m em
 refine ghs em ?_;clear em m
 replace h:F14 l1=some r:=h
 rw[F14]at h
 refine srg hS [0] di ?_
 refine seq ?_
 obtain⟨r3,q4,h⟩:=obs h
 have f5:=hk 0 16 rfl
 replace f5:=f5.ret l1 q4 rfl rfl
 obtain⟨r6,q7,h⟩:=obs h
 have f8:=hk 1 25 rfl
 replace q7:=guardO_t q7
 replace f8:=fun hg=>f8.ret l1 (q7 hg) rfl rfl
 obtain⟨r9,q10,h⟩:=obs h
 have f11:=hk 2 30 rfl
 replace q10:=guardO_t q10
 replace f11:=fun hg=>f11.ret l1 (q10 hg) rfl rfl
 refine reg hS [(2,ab ((decide (r3≤1024)&&decide (r6≤32))&&r9))] [] ?_ ?_
 ·clear h hk hS hX c
  exact dh1 (an pf_16 (an f5 (an pf_25 (an f8 (ap1 30 hpf f11)))))
 cases h;exact ret fin
theorem g_F4(c:AllG env [(S12 F12),(S7 F7),(S13 F13),(S14 F14),(S15 (K15 BIG)),(S16 (K16 BIG))]):GoodH env (S4 F4):=by
 obtain⟨O,X,hS,hX,hpf,hk⟩:=orp c
 have pf_13:O.pf 13=true:=pft hpf 13 rfl
 have pf_14:O.pf 14=true:=pft hpf 14 rfl
 have pf_15:O.pf 15=true:=pft hpf 15 rfl
 have pf_16:O.pf 16=true:=pft hpf 16 rfl
 refine gh fn_4 22 ?_
 rintro(l1:(List Cmd)) (r:Bool) h m em
 refine ghs em ?_;clear em m
 replace h:F4 l1=some r:=h
 rw[F4]at h
 refine srg hS [0] di ?_
 refine seq ?_
 refine seq ?_
 obtain⟨r3,q4,h⟩:=obs h
 have f5:=(hk 0 12 rfl).ret l1 q4 rfl rfl
 refine rg hS [0,5] (di1 (ap1 12 hpf f5)) ?_
 refine ifk h (fun hb6 h=>?_) fun hb6 h=>?_
 ·refine seq ?_
  obtain⟨r7,q8,h⟩:=obs h
  have f9:=hk 1 7 rfl
  replace f9:=f9.ret () ((S7_F F7).trans q8) rfl rfl
  refine rg hS [2] (di1 (ap1 7 hpf f9)) ?_
  cases h;exact ret fin
 ·refine seq ?_
  obtain⟨r10,q11,h⟩:=obs h
  have f12:=(hk 2 13 rfl).ret l1 q11 rfl rfl
  obtain⟨r13,q14,h⟩:=obs h
  have f15:=(hk 3 14 rfl).ret l1 q14 rfl rfl
  obtain⟨r16,q17,h⟩:=obs h
  have f18:=hk 4 15 rfl
  replace q17:=guardO_t q17
  replace f18:=fun hg=>f18.ret l1 (q17 hg) rfl rfl
  obtain⟨r19,q20,h⟩:=obs h
  have f21:=hk 5 16 rfl
  replace q20:=guardO_t q20
  replace f21:=fun hg=>f21.ret l1 (q20 hg) rfl rfl
  obtain⟨r22,q23,h⟩:=obs h
  have f24:=hk 1 7 rfl
  replace q23:=guardO_t q23
  replace f24:=fun hg=>f24.ret () ((S7_F F7).trans (q23 hg)) rfl rfl
  refine reg hS [(2,ab (((r10==r13)&&decide (r16=r19))&&r22))] [] ?_ ?_
  ·clear h hk hS hX c
   exact dh1 (an pf_13 (an f12 (an pf_14 (an f15 (an pf_15 (an f18 (an pf_16 (an f21 (ap1 7 hpf f24)))))))))
  cases h;exact ret fin
end Go.Abs.U48
