import Derived.Test.YtljahlbklgnfhaaGreatDoorD1
set_option linter.unusedVariables false
set_option linter.unusedSimpArgs false
set_option linter.defProp false
set_option maxRecDepth 8000
set_option maxHeartbeats 4000000
namespace Go.Abs.U48
open Go.RowKit Go.Proofs AW
theorem K6e(c:AllG env []):Q0a env (S171 F171):=by
 refine hd c V0w 14 ?_
 rintro O X hS hX hpf hk (quoted1:Str) (r:Bool) (h:F171 quoted1=some r)
 refine gs ?_
 rw[F171]at h
 refine R [0] ?_
 refine seq (R [0,3] ?_)
 refine block (Lp h (fun i3=>⟨sl [(0,as_ quoted1),(3,ai i3)],14,[]⟩) ?_)
 clear h
 rintro i3 m6 h
 rw[J4f]at h
 try dsimp only at h
 refine AW.st (seq ?_)
 refine R [0,3,7] ?_
 refine iz h (fun h=>?_) fun h=>?_
 ·obtain⟨c8,f10,h⟩:=oc h fun _=>Q3m
  refine skip (seq ?_)
  refine block (seq ?_)
  refine rg hS [0,3,13] (di1 (an f10.1 (an f10.2.1 f10.2.2))) ?_
  refine ik h (fun h=>?_) fun h=>?_
  ·exact Rt h [2]
  refine G [0,3] ?_
  exact nx h
 exact exit (Rt h [2])
theorem K6s(c:AllG env [(S187 F187),(S171 F171)]):Q0a env (S148 F148):=by
 refine hd c V1p 24 ?_
 rintro O X hS hX hpf hk (w1:Word) (r:Bool) (h:F148 w1=some r)
 have pf_187:O.pf 187=true:=pft hpf 187 rfl
 refine gs ?_
 rw[F148]at h
 refine R [1] ?_
 refine seqJ (α:=Int×Str×Str×(List Word)×(List Cmd)) (fun(x3,x4,x5,x6,x7)=>⟨sl [(1,.ref 0 0)],24,[V15 x3 x4 x5 x6 x7]⟩) (fun x=>Z1d x=some r) ?_ ?_
 ·intro⟨x3,x4,x5,x6,x7⟩ h
  rw[Z1d]at h
  try dsimp only at h
  obtain⟨r8,q9,h⟩:=obs h
  replace q9:=Q0b q9
  have f10:=fun hg=>(hk 0 187 rfl).ret x4 (q9 hg) rfl rfl
  obtain⟨r11,q12,h⟩:=obs h
  replace q12:=Q0b q12
  have f13:=fun hg=>(hk 1 171 rfl).ret x5 (q12 hg) rfl rfl
  refine AW.st (seq ?_)
  refine reg hS [(2,ab ((decide (x3=1)&&r8)&&!r11))] [V15 x3 x4 x5 x6 x7] ?_ ?_
  ·clear h hk hS hX c
   exact dh1 (an pf_187 (an f10 (ap1 171 hpf f13)))
  exact Rf h
 refine R [1,5] ?_
 refine ik h (fun h=>?_) fun h=>?_
 ·obtain⟨u15,f17,h⟩:=oc h fun _=>Q0f
  try simp only[NRM,Int.reduceToNat]at f17
  refine rg hS [1] (di1 (an f17.1 f17.2.1)) ?_
  exact⟨(u15.kind_,u15.text_,u15.quoted_,u15.words_,u15.cmd_),h,(Weak.norm (m:=1) (Nat.le_of_ble_eq_true rfl) kp hq rfl rfl)⟩
 exact⟨(w1.kind_,w1.text_,w1.quoted_,w1.words_,w1.cmd_),h,(Weak.norm (m:=1) (Nat.le_of_ble_eq_true rfl) kp hq rfl rfl)⟩
theorem K6r{w101:Y4}(c:AllG env [(S101 w101)]):Q0a env (S149 (F149 w101)):=by
 refine hd c V1o 16 ?_
 rintro O X hS hX hpf hk (c1:Cmd) (r:Bool) (h:F149 w101 c1=some r)
 refine gs ?_
 rw[F149]at h
 refine R [1] ?_
 obtain⟨r3,q4,h⟩:=obs h
 replace q4:=Q0b q4
 have f5:=fun hg=>(hk 0 101 rfl).ret c1 (q4 hg) rfl rfl
 refine seq (reg hS [(2,ab ((decide (c1.kind_=12)&&decide ((c1.redirs_.length:Int)=0))&&r3))] [V6 c1] ?_ ?_)
 ·clear h hk hS hX c
  exact dh1 (ap1 101 hpf f5)
 exact Rf h
theorem K6q{w101:Y4}{w184:Y3}(c:AllG env [(S146 (F146 w184)),(S30 (F30 w101))]):Q0a env (S150 (F150 w101 w184)):=by
 refine hd c V1m 47 ?_
 rintro O X hS hX hpf hk (l1:(List Cmd)) (r:Bool) (h:F150 w101 w184 l1=some r)
 have pf_146:O.pf 146=true:=pft hpf 146 rfl
 refine gs ?_
 rw[F150]at h
 refine R [0] ?_
 refine seq (R [0,3] ?_)
 refine block (Lp h (fun i3=>⟨sl [(0,vC l1),(3,ai i3)],47,[]⟩) ?_)
 clear h
 rintro i3 m6 h
 rw[J4h]at h
 try dsimp only at h
 refine AW.st (seq ?_)
 refine R [0,3,8] ?_
 refine iz h (fun h=>?_) fun h=>?_
 ·obtain⟨u8,f10,h⟩:=oc h fun _=>Q0f
  refine skip (seq ?_)
  refine block (seq ?_)
  refine rg hS [0,3,4] (di1 (an f10.1 f10.2.1)) ?_
  obtain⟨r11,q12,h⟩:=obs h
  replace q12:=Q0b q12
  have f13:=fun hg=>(hk 0 146 rfl).ret u8.words_ (q12 hg) rfl rfl
  obtain⟨r14,q15,h⟩:=obs h
  replace q15:=Q0b q15
  have f16:=fun hg=>(hk 1 30 rfl).ret u8.kids_ (q15 hg) rfl rfl
  refine seq (reg hS [(0,vC l1),(3,ai i3),(46,ab (((((!decide (u8.kind_=18)||!decide (u8.name_=[]))||decide (0<(u8.redirs_.length:Int)))||decide ((u8.words_.length:Int)=0))||!r11)||!r14))] [V6 u8] ?_ ?_)
  ·clear h hk hS hX c
   exact dh1 (an pf_146 (an f13 (ap1 30 hpf f16)))
  refine ik h (fun h=>?_) fun h=>?_
  ·exact Rt h [2]
  refine G [0,3] ?_
  exact nx h
 exact exit (Rt h [2])
theorem K7y{w101:Y4}{w184:Y3}(c:AllG env [(S145 F145),(S146 (F146 w184)),(S147 (F147 w184)),(S148 F148),(S149 (F149 w101)),(S65 (F65 w101)),(S30 (F30 w101)),(S150 (F150 w101 w184))]):Q0a env (S101 (F101 w101 w184)):=by
 refine hd c X7f 89 ?_
 rintro O X hS hX hpf hk (c1:Cmd) (r:Bool) (h:F101 w101 w184 c1=some r)
 have pf_65:O.pf 65=true:=pft hpf 65 rfl
 have pf_145:O.pf 145=true:=pft hpf 145 rfl
 have pf_149:O.pf 149=true:=pft hpf 149 rfl
 refine gs ?_
 rw[F101]at h
 refine R [1] ?_
 obtain⟨r3,f5,h⟩:=oc h (Zt hk 0 145 c1)
 obtain⟨r6,q7,h⟩:=obs h
 replace q7:=Q0b q7
 have f8:=fun hg=>(hk 1 146 rfl).ret c1.words_ (q7 hg) rfl rfl
 refine seq (seq ?_)
 refine reg hS [(1,.ref 0 0),(12,ab (!r3||!r6))] [V6 c1] ?_ ?_
 ·clear h hk hS hX c
  exact dh1 (an pf_145 (an (ca f5) (ap1 146 hpf f8)))
 refine ik h (fun h=>?_) fun h=>?_
 ·exact Rt h [2]
 refine seq (R [1,3] ?_)
 refine block (Lp h (fun i10=>⟨sl [(1,.ref 0 0),(3,ai i10)],89,[V6 c1]⟩) ?_)
 clear h
 rintro i10 m13 h
 rw[J4m]at h
 try dsimp only at h
 refine AW.st (seq ?_)
 refine R [1,3,17] ?_
 refine iz h (fun h=>?_) fun h=>?_
 ·obtain⟨u15,f17,h⟩:=oc h fun _=>Q0f
  obtain⟨r18,f20,h⟩:=oc h (Zt hk 2 147 u15)
  refine skip (seq ?_)
  refine block (seq ?_)
  refine rg hS [1,3,26] (di1 (an f17.1 (an f17.2.1 (ca f20)))) ?_
  refine ik h (fun h=>?_) fun h=>?_
  ·exact Rt h [2]
  refine G [1,3] ?_
  exact nx h
 refine exit (seq ?_)
 refine R [1,28] ?_
 refine block (R [1,28,29] ?_)
 refine iz h (fun h=>?_) fun h=>?_
 ·obtain⟨u23,f25,h⟩:=oc h fun _ q=>Q6y (Q0b q)
  try simp only[NRM,Int.reduceToNat]at f25
  obtain⟨r26,q27,h⟩:=obs h
  replace q27:=Q0b q27
  have f28:=fun hg=>(hk 3 148 rfl).ret u23 (q27 hg) rfl rfl
  refine seq (reg hS [(2,ab (decide ((c1.words_.length:Int)=0)||!r26))] [V6 c1] ?_ ?_)
  ·clear h hk hS hX c
   exact dh1 (an f25.1 (an f25.2.1 (ap1 148 hpf f28)))
  exact Rf h
 refine seqM ⟨sl [(1,.ref 0 0),(28,ai c1.kind_),(43,ab (bif decide (c1.kind_=8)then decide (c1.kind_=8)else decide (c1.kind_=11)))],89,[V6 c1]⟩ ?_ ?_
 ·refine R [1,28,43] ?_
  refine cond (b:=decide (c1.kind_=8)) rfl (fun hb29=>?_) (fun hb29=>?_)
  ·exact skip (Weak.of_eq (Weak.slots (L:=[(1,.ref 0 0),(28,ai c1.kind_),(43,ab (decide (c1.kind_=8)))]) kp) (wq hb29))
  refine G [1,28,43] ?_
  exact Weak.of_eq (Weak.slots (L:=[(1,.ref 0 0),(28,ai c1.kind_),(43,ab (decide (c1.kind_=11)))]) kp) (wq hb29)
 refine iz h (fun h=>?_) fun h=>?_
 ·obtain⟨u31,f33,h⟩:=oc h fun _=>Q0f
  try simp only[NRM,Int.reduceToNat]at f33
  obtain⟨r34,f36,h⟩:=oc h (Zt hk 4 149 u31)
  obtain⟨l37,q38,h⟩:=obs h
  have f39:=J0q (Q0b q38)
  try simp only[NRM,Int.reduceToNat]at f39
  have f39l:=f39.2.2.1
  have f39m:=J0r Cmd.pv (Q0b q38)
  try simp only[NRM,Int.reduceToNat]at f39l f39m
  obtain⟨r40,q41,h⟩:=obs h
  replace q41:=Q0b q41
  have f42:=fun hg=>(hk 5 65 rfl).ret (l37,1) (q41 hg) rfl rfl
  refine seq (reg hS [(2,ab (r34&&r40))] [V6 c1] ?_ ?_)
  ·clear h hk hS hX c
   exact dh1 (an f33.1 (an f33.2.1 (an pf_149 (an (ca f36) (an f39.1 (an f39.2.1 (an f39l (an f39.2.2.2 (an f39m (ap1 65 hpf f42))))))))))
  clear f39 f39l f39m
  exact Rf h
 refine seqM ⟨sl [(1,.ref 0 0),(28,ai c1.kind_),(57,ab (bif decide (c1.kind_=12)then decide (c1.kind_=12)else decide (c1.kind_=15)))],89,[V6 c1]⟩ ?_ ?_
 ·refine R [1,28,57] ?_
  refine cond (b:=decide (c1.kind_=12)) rfl (fun hb43=>?_) (fun hb43=>?_)
  ·exact skip (Weak.of_eq (Weak.slots (L:=[(1,.ref 0 0),(28,ai c1.kind_),(57,ab (decide (c1.kind_=12)))]) kp) (wq hb43))
  refine G [1,28,57] ?_
  exact Weak.of_eq (Weak.slots (L:=[(1,.ref 0 0),(28,ai c1.kind_),(57,ab (decide (c1.kind_=15)))]) kp) (wq hb43)
 refine iz h (fun h=>?_) fun h=>?_
 ·refine seq (Ua1 h [2] (Zt hk 6 30 c1.kids_) fun r45 h=>?_)
  exact Rf h
 refine seqM ⟨sl [(1,.ref 0 0),(28,ai c1.kind_),(63,ab (bif decide (c1.kind_=5)then decide (c1.kind_=5)else decide (c1.kind_=6)))],89,[V6 c1]⟩ ?_ ?_
 ·refine R [1,28,63] ?_
  refine cond (b:=decide (c1.kind_=5)) rfl (fun hb48=>?_) (fun hb48=>?_)
  ·exact skip (Weak.of_eq (Weak.slots (L:=[(1,.ref 0 0),(28,ai c1.kind_),(63,ab (decide (c1.kind_=5)))]) kp) (wq hb48))
  refine G [1,28,63] ?_
  exact Weak.of_eq (Weak.slots (L:=[(1,.ref 0 0),(28,ai c1.kind_),(63,ab (decide (c1.kind_=6)))]) kp) (wq hb48)
 refine iz h (fun h=>?_) fun h=>?_
 ·obtain⟨l50,q51,h⟩:=obs h
  have f52:=Z4c q51
  try simp only[NRM,Int.reduceToNat]at f52
  have f52l:=f52.2.2.1
  have f52m:=Z2u Cmd.pv q51
  try simp only[NRM,Int.reduceToNat]at f52l f52m
  obtain⟨r53,f55,h⟩:=oc h (Zt hk 5 65 (l50,3))
  obtain⟨l56,q57,h⟩:=obs h
  have f58:=J0q (Q0b q57)
  try simp only[NRM,Int.reduceToNat]at f58
  have f58l:=f58.2.2.1
  have f58m:=J0r Cmd.pv (Q0b q57)
  try simp only[NRM,Int.reduceToNat]at f58l f58m
  obtain⟨r59,q60,h⟩:=obs h
  replace q60:=Q0b q60
  have f61:=fun hg=>(hk 5 65 rfl).ret (l56,2) (q60 hg) rfl rfl
  refine seq (reg hS [(2,ab (r53&&r59))] [V6 c1] ?_ ?_)
  ·clear h hk hS hX c
   exact dh1 (an f52.1 (an f52.2.1 (an f52l (an f52.2.2.2 (an f52m (an pf_65 (an (ca f55) (an f58.1 (an f58.2.1 (an f58l (an f58.2.2.2 (an f58m f61))))))))))))
  clear f52 f52l f52m
  clear f58 f58l f58m
  exact Rf h
 refine R [1,28,76] ?_
 refine iz h (fun h=>?_) fun h=>?_
 ·refine seq (Ua1 h [2] (Zt hk 5 65 (c1.kids_,3)) fun r63 h=>?_)
  exact Rf h
 refine R [1,81] ?_
 refine ik h (fun h=>?_) fun h=>?_
 ·refine seq (Ua1 h [2] (Zt hk 7 150 c1.kids_) fun r67 h=>?_)
  exact Rf h
 refine seq (Ua1 h [2] (Zt hk 5 65 (c1.kids_,1)) fun r70 h=>?_)
 exact Rf h
theorem K4u(c:AllG env []):Q0a env (S238 F238):=by
 refine hd c K9m 22 ?_
 rintro O X hS hX hpf hk (c1:Int) (r:Bool) (h:F238 c1=some r)
 refine gs ?_
 rw[F238]at h
 refine R [0] ?_
 refine seq (R [3] ?_)
 refine block (seqM ⟨sl [(4,ab (bif decide (c1=32)then decide (c1=32)else(bif decide (c1=9)then decide (c1=9)else(bif decide (c1=10)then decide (c1=10)else(bif decide (c1=59)then decide (c1=59)else(bif decide (c1=38)then decide (c1=38)else(bif decide (c1=124)then decide (c1=124)else(bif decide (c1=40)then decide (c1=40)else(bif decide (c1=41)then decide (c1=41)else(bif decide (c1=123)then decide (c1=123)else(bif decide (c1=125)then decide (c1=125)else(bif decide (c1=60)then decide (c1=60)else(bif decide (c1=62)then decide (c1=62)else(bif decide (c1=61)then decide (c1=61)else(bif decide (c1=94)then decide (c1=94)else(bif decide (c1=96)then decide (c1=96)else(bif decide (c1=36)then decide (c1=36)else decide (c1=39))))))))))))))))))],22,[]⟩ ?_ ?_)
 ·refine R [3,4] ?_
  refine cond (b:=decide (c1=32)) rfl (fun hb3=>?_) (fun hb3=>?_)
  ·exact skip (Weak.of_eq (Weak.slots (L:=[(4,ab (decide (c1=32)))]) kp) (wq hb3))
  refine R [3,4] ?_
  refine cond (b:=decide (c1=9)) rfl (fun hb4=>?_) (fun hb4=>?_)
  ·exact skip (Weak.of_eq (Weak.slots (L:=[(4,ab (decide (c1=9)))]) kp) (by simp only[hb3,hb4,cond_true,cond_false,Q1y,Bool.not_true,Bool.not_false]<;>rfl))
  refine R [3,4] ?_
  refine cond (b:=decide (c1=10)) rfl (fun hb5=>?_) (fun hb5=>?_)
  ·exact skip (Weak.of_eq (Weak.slots (L:=[(4,ab (decide (c1=10)))]) kp) (by simp only[hb3,hb4,hb5,cond_true,cond_false,Q1y,Bool.not_true,Bool.not_false]<;>rfl))
  refine R [3,4] ?_
  refine cond (b:=decide (c1=59)) rfl (fun hb6=>?_) (fun hb6=>?_)
  ·exact skip (Weak.of_eq (Weak.slots (L:=[(4,ab (decide (c1=59)))]) kp) (by simp only[hb3,hb4,hb5,hb6,cond_true,cond_false,Q1y,Bool.not_true,Bool.not_false]<;>rfl))
  refine R [3,4] ?_
  refine cond (b:=decide (c1=38)) rfl (fun hb7=>?_) (fun hb7=>?_)
  ·exact skip (Weak.of_eq (Weak.slots (L:=[(4,ab (decide (c1=38)))]) kp) (by simp only[hb3,hb4,hb5,hb6,hb7,cond_true,cond_false,Q1y,Bool.not_true,Bool.not_false]<;>rfl))
  refine R [3,4] ?_
  refine cond (b:=decide (c1=124)) rfl (fun hb8=>?_) (fun hb8=>?_)
  ·exact skip (Weak.of_eq (Weak.slots (L:=[(4,ab (decide (c1=124)))]) kp) (by simp only[hb3,hb4,hb5,hb6,hb7,hb8,cond_true,cond_false,Q1y,Bool.not_true,Bool.not_false]<;>rfl))
  refine R [3,4] ?_
  refine cond (b:=decide (c1=40)) rfl (fun hb9=>?_) (fun hb9=>?_)
  ·exact skip (Weak.of_eq (Weak.slots (L:=[(4,ab (decide (c1=40)))]) kp) (by simp only[hb3,hb4,hb5,hb6,hb7,hb8,hb9,cond_true,cond_false,Q1y,Bool.not_true,Bool.not_false]<;>rfl))
  refine R [3,4] ?_
  refine cond (b:=decide (c1=41)) rfl (fun hb10=>?_) (fun hb10=>?_)
  ·exact skip (Weak.of_eq (Weak.slots (L:=[(4,ab (decide (c1=41)))]) kp) (by simp only[hb3,hb4,hb5,hb6,hb7,hb8,hb9,hb10,cond_true,cond_false,Q1y,Bool.not_true,Bool.not_false]<;>rfl))
  refine R [3,4] ?_
  refine cond (b:=decide (c1=123)) rfl (fun hb11=>?_) (fun hb11=>?_)
  ·exact skip (Weak.of_eq (Weak.slots (L:=[(4,ab (decide (c1=123)))]) kp) (by simp only[hb3,hb4,hb5,hb6,hb7,hb8,hb9,hb10,hb11,cond_true,cond_false,Q1y,Bool.not_true,Bool.not_false]<;>rfl))
  refine R [3,4] ?_
  refine cond (b:=decide (c1=125)) rfl (fun hb12=>?_) (fun hb12=>?_)
  ·exact skip (Weak.of_eq (Weak.slots (L:=[(4,ab (decide (c1=125)))]) kp) (by simp only[hb3,hb4,hb5,hb6,hb7,hb8,hb9,hb10,hb11,hb12,cond_true,cond_false,Q1y,Bool.not_true,Bool.not_false]<;>rfl))
  refine R [3,4] ?_
  refine cond (b:=decide (c1=60)) rfl (fun hb13=>?_) (fun hb13=>?_)
  ·exact skip (Weak.of_eq (Weak.slots (L:=[(4,ab (decide (c1=60)))]) kp) (by simp only[hb3,hb4,hb5,hb6,hb7,hb8,hb9,hb10,hb11,hb12,hb13,cond_true,cond_false,Q1y,Bool.not_true,Bool.not_false]<;>rfl))
  refine R [3,4] ?_
  refine cond (b:=decide (c1=62)) rfl (fun hb14=>?_) (fun hb14=>?_)
  ·exact skip (Weak.of_eq (Weak.slots (L:=[(4,ab (decide (c1=62)))]) kp) (by simp only[hb3,hb4,hb5,hb6,hb7,hb8,hb9,hb10,hb11,hb12,hb13,hb14,cond_true,cond_false,Q1y,Bool.not_true,Bool.not_false]<;>rfl))
  refine R [3,4] ?_
  refine cond (b:=decide (c1=61)) rfl (fun hb15=>?_) (fun hb15=>?_)
  ·exact skip (Weak.of_eq (Weak.slots (L:=[(4,ab (decide (c1=61)))]) kp) (by simp only[hb3,hb4,hb5,hb6,hb7,hb8,hb9,hb10,hb11,hb12,hb13,hb14,hb15,cond_true,cond_false,Q1y,Bool.not_true,Bool.not_false]<;>rfl))
  refine R [3,4] ?_
  refine cond (b:=decide (c1=94)) rfl (fun hb16=>?_) (fun hb16=>?_)
  ·exact skip (Weak.of_eq (Weak.slots (L:=[(4,ab (decide (c1=94)))]) kp) (by simp only[hb3,hb4,hb5,hb6,hb7,hb8,hb9,hb10,hb11,hb12,hb13,hb14,hb15,hb16,cond_true,cond_false,Q1y,Bool.not_true,Bool.not_false]<;>rfl))
  refine R [3,4] ?_
  refine cond (b:=decide (c1=96)) rfl (fun hb17=>?_) (fun hb17=>?_)
  ·exact skip (Weak.of_eq (Weak.slots (L:=[(4,ab (decide (c1=96)))]) kp) (by simp only[hb3,hb4,hb5,hb6,hb7,hb8,hb9,hb10,hb11,hb12,hb13,hb14,hb15,hb16,hb17,cond_true,cond_false,Q1y,Bool.not_true,Bool.not_false]<;>rfl))
  refine R [3,4] ?_
  refine cond (b:=decide (c1=36)) rfl (fun hb18=>?_) (fun hb18=>?_)
  ·exact skip (Weak.of_eq (Weak.slots (L:=[(4,ab (decide (c1=36)))]) kp) (by simp only[hb3,hb4,hb5,hb6,hb7,hb8,hb9,hb10,hb11,hb12,hb13,hb14,hb15,hb16,hb17,hb18,cond_true,cond_false,Q1y,Bool.not_true,Bool.not_false]<;>rfl))
  refine G [4] ?_
  exact Weak.of_eq (Weak.slots (L:=[(4,ab (decide (c1=39)))]) kp) (by simp only[hb3,hb4,hb5,hb6,hb7,hb8,hb9,hb10,hb11,hb12,hb13,hb14,hb15,hb16,hb17,hb18,cond_true,cond_false,Q1y,Bool.not_true,Bool.not_false]<;>rfl)
 refine ik h (fun h=>?_) fun h=>?_
 ·exact Rt h [2]
 exact Rt h [2]
theorem K5k(c:AllG env [(S238 F238)]):Q0a env (S214 F214):=by
 refine hd c V0c 72 ?_
 rintro O X hS hX hpf hk (w1:Word) (r:Bool) (h:F214 w1=some r)
 refine gs ?_
 rw[F214]at h
 refine R [1] ?_
 refine seq (R [1,10] ?_)
 refine ik h (fun h=>?_) fun h=>?_
 ·exact Rt h [2]
 refine seq (R [1,3] ?_)
 refine block (Lp h (fun i4=>⟨sl [(1,.ref 0 0),(3,ai i4)],72,[V17 w1]⟩) ?_)
 clear h
 rintro i4 m7 h
 rw[Q7j]at h
 try dsimp only at h
 refine AW.st (seq ?_)
 refine R [1,3,15] ?_
 refine iz h (fun h=>?_) fun h=>?_
 ·obtain⟨c9,f11,h⟩:=oc h fun _=>Q3m
  obtain⟨c12,f14,h⟩:=oc h fun _ q=>Q4n (Q0b q)
  obtain⟨r15,q16,h⟩:=obs h
  replace q16:=Q0b q16
  have f17:=fun hg=>(hk 0 238 rfl).ret c12 (q16 hg) rfl rfl
  refine skip (seq ?_)
  refine block (seq ?_)
  refine reg hS [(1,.ref 0 0),(3,ai i4),(44,ab ((!decide (c9=48)&&!decide (c9=49))||(decide (c9=48)&&!r15)))] [V17 w1] ?_ ?_
  ·clear h hk hS hX c
   exact dh1 (an f11.1 (an f11.2.1 (an f11.2.2 (an f14.1 (an f14.2.1 (an f14.2.2 (ap1 238 hpf f17)))))))
  refine ik h (fun h=>?_) fun h=>?_
  ·exact Rt h [2]
  refine G [1,3] ?_
  exact nx h
 obtain⟨c19,f21,h⟩:=oc h fun _ q=>Q4n (Q0b q)
 try simp only[NRM,Int.reduceToNat]at f21
 obtain⟨c22,f24,h⟩:=oc h fun _ q=>Q4n (Q0b q)
 try simp only[NRM,Int.reduceToNat]at f24
 refine exit (seq ?_)
 refine reg hS [(2,ab ((decide (w1.text_=[])||decide (c19=49))||((!decide (c22=35)&&!decide (c22=33))&&!decide (c22=64))))] [V17 w1] ?_ ?_
 ·clear h hk hS hX c
  exact dh1 (an f21.1 (an f21.2.1 (an f21.2.2 (an f24.1 (an f24.2.1 f24.2.2)))))
 exact Rf h
theorem K6a{w101:Y4}{w184:Y3}(c:AllG env [(S214 F214),(S172 F172),(S146 (F146 w184)),(S30 (F30 w101))]):Q0a env (S184 (F184 w101 w184)):=by
 refine hd c X7a 151 ?_
 rintro O X hS hX hpf hk (w1:Word) (r:Bool) (h:F184 w101 w184 w1=some r)
 have pf_172:O.pf 172=true:=pft hpf 172 rfl
 refine gs ?_
 rw[F184]at h
 refine R [1] ?_
 refine seq (R [1,5] ?_)
 refine block (R [1,5,6] ?_)
 refine iz h (fun h=>?_) fun h=>?_
 ·obtain⟨r4,f6,h⟩:=oc h (Zt hk 0 214 w1)
  refine seq (reg hS [(2,ab (r4&&decide (IntKind.wrap .i64 ((w1.words_.length:Int)+(w1.cmd_.length:Int))=0)))] [V17 w1] ?_ ?_)
  ·clear h hk hS hX c
   exact dh1 (ca f6)
  exact Rf h
 refine seqM ⟨sl [(1,.ref 0 0),(5,ai w1.kind_),(20,ab (bif decide (w1.kind_=2)then decide (w1.kind_=2)else decide (w1.kind_=3)))],151,[V17 w1]⟩ ?_ ?_
 ·refine R [1,5,20] ?_
  refine cond (b:=decide (w1.kind_=2)) rfl (fun hb7=>?_) (fun hb7=>?_)
  ·exact skip (Weak.of_eq (Weak.slots (L:=[(1,.ref 0 0),(5,ai w1.kind_),(20,ab (decide (w1.kind_=2)))]) kp) (wq hb7))
  refine G [1,5,20] ?_
  exact Weak.of_eq (Weak.slots (L:=[(1,.ref 0 0),(5,ai w1.kind_),(20,ab (decide (w1.kind_=3)))]) kp) (wq hb7)
 refine iz h (fun h=>?_) fun h=>?_
 ·obtain⟨r9,f11,h⟩:=oc h (Zt hk 1 172 w1.text_)
  refine seq (reg hS [(2,ab ((r9&&decide (w1.quoted_=[]))&&decide (IntKind.wrap .i64 ((w1.words_.length:Int)+(w1.cmd_.length:Int))=0)))] [V17 w1] ?_ ?_)
  ·clear h hk hS hX c
   exact dh1 (ca f11)
  exact Rf h
 refine R [1,5,41] ?_
 refine iz h (fun h=>?_) fun h=>?_
 ·obtain⟨r13,f15,h⟩:=oc h (Zt hk 1 172 w1.text_)
  obtain⟨r16,q17,h⟩:=obs h
  replace q17:=Q0b q17
  have f18:=fun hg=>(hk 2 146 rfl).ret w1.words_ (q17 hg) rfl rfl
  refine seq (reg hS [(2,ab ((((r13&&decide (w1.quoted_=[]))&&decide (0<(w1.words_.length:Int)))&&decide ((w1.cmd_.length:Int)=0))&&r16))] [V17 w1] ?_ ?_)
  ·clear h hk hS hX c
   exact dh1 (an pf_172 (an (ca f15) (ap1 146 hpf f18)))
  exact Rf h
 refine R [1,5,68] ?_
 refine iz h (fun h=>?_) fun h=>?_
 ·obtain⟨r20,q21,h⟩:=obs h
  replace q21:=Q0b q21
  have f22:=fun hg=>(hk 2 146 rfl).ret w1.words_ (q21 hg) rfl rfl
  refine seq (reg hS [(2,ab (((decide (w1.text_=[])&&decide (w1.quoted_=[]))&&decide ((w1.cmd_.length:Int)=0))&&r20))] [V17 w1] ?_ ?_)
  ·clear h hk hS hX c
   exact dh1 (ap1 146 hpf f22)
  exact Rf h
 refine R [1,5,89] ?_
 refine iz h (fun h=>?_) fun h=>?_
 ·obtain⟨r24,q25,h⟩:=obs h
  replace q25:=Q0b q25
  have f26:=fun hg=>(hk 3 30 rfl).ret w1.cmd_ (q25 hg) rfl rfl
  refine seq (reg hS [(2,ab (((decide (w1.text_=[])&&decide (w1.quoted_=[]))&&decide ((w1.words_.length:Int)=0))&&r24))] [V17 w1] ?_ ?_)
  ·clear h hk hS hX c
   exact dh1 (ap1 30 hpf f26)
  exact Rf h
 refine R [1,110] ?_
 refine ik h (fun h=>?_) fun h=>?_
 ·refine seq (R [1,3] ?_)
  refine block (Lp h (fun i28=>⟨sl [(1,.ref 0 0),(3,ai i28)],151,[V17 w1]⟩) ?_)
  clear h
  rintro i28 m31 h
  rw[Z9d]at h
  try dsimp only at h
  refine AW.st (seq ?_)
  refine R [1,3,116] ?_
  refine iz h (fun h=>?_) fun h=>?_
  ·obtain⟨u33,f35,h⟩:=oc h fun _=>Q0f
   refine skip (seq ?_)
   refine block (seq ?_)
   refine rg hS [1,3,125] (di1 (an f35.1 f35.2.1)) ?_
   refine ik h (fun h=>?_) fun h=>?_
   ·exact Rt h [2]
   refine G [1,3] ?_
   exact nx h
  obtain⟨r37,q38,h⟩:=obs h
  replace q38:=Q0b q38
  have f39:=fun hg=>(hk 2 146 rfl).ret w1.words_ (q38 hg) rfl rfl
  refine exit (seq ?_)
  refine reg hS [(2,ab ((((decide (w1.text_=[])&&decide (w1.quoted_=[]))&&decide (1<(w1.words_.length:Int)))&&decide ((w1.cmd_.length:Int)=0))&&r37))] [V17 w1] ?_ ?_
  ·clear h hk hS hX c
   exact dh1 (ap1 146 hpf f39)
  exact Rf h
 exact Rt h [2]
theorem V8a(c:AllG env [(S16 (K16 BIG)),(S25 (K25 BIG)),(S30 (F30 (K101 BIG)))]):Q0a env (S14 F14):=by
 refine hd c V9u 15 ?_
 rintro O X hS hX hpf hk (l1:(List Cmd)) (r:Bool) (h:F14 l1=some r)
 have pf_16:O.pf 16=true:=pft hpf 16 rfl
 have pf_25:O.pf 25=true:=pft hpf 25 rfl
 refine gs ?_
 rw[F14]at h
 refine R [0] ?_
 obtain⟨r3,q4,h⟩:=obs h
 have f5:=hk 0 16 rfl
 replace f5:=f5.ret l1 q4 rfl rfl
 obtain⟨r6,q7,h⟩:=obs h
 have f8:=hk 1 25 rfl
 replace q7:=Q0b q7
 replace f8:=fun hg=>f8.ret l1 (q7 hg) rfl rfl
 obtain⟨r9,q10,h⟩:=obs h
 have f11:=hk 2 30 rfl
 replace q10:=Q0b q10
 replace f11:=fun hg=>f11.ret l1 (q10 hg) rfl rfl
 refine seq (reg hS [(2,ab ((decide (r3≤1024)&&decide (r6≤32))&&r9))] [] ?_ ?_)
 ·clear h hk hS hX c
  exact dh1 (an pf_16 (an f5 (an pf_25 (an f8 (ap1 30 hpf f11)))))
 exact Rf h
theorem K7n(c:AllG env []):Q0a env (S112 F112):=by
 refine hd c V2p 13 ?_
 rintro O X hS hX hpf hk ⟨s1,x2,x3⟩ (r:Str) (h:F112 s1 x2 x3=some r)
 refine gs ?_
 rw[F112]at h
 obtain⟨s5,f7,h⟩:=oc h fun _=>Q1a
 try simp only[LNS,List.length_replicate,Nat.reduceAdd,Nat.reduceLeDiff,Nat.add_zero,Nat.reduceMul]at f7
 refine rg hS [] (di1 (an f7.1 f7.2)) ?_
 cases h
 exact fin
theorem V6z(c:AllG env [(S112 F112)]):Q0a env (S69 F69):=by
 refine hd c V8u 34 ?_
 rintro O X hS hX hpf hk ⟨x1,x2⟩ (r:Str×Str) (h:F69 x1 x2=some r)
 refine gs ?_
 rw[F69]at h
 refine seqJ (α:=Str) (fun x5=>⟨sl [(0,.ref 0 0)],34,[.var [as_ x5,as_ x2]]⟩) (fun x=>Z6s x2 x=some r) ?_ ?_
 ·intro x5 h
  rw[Z6s]at h
  try dsimp only at h
  obtain⟨s6,f8,h⟩:=oc h fun _=>Q1a
  try simp only[LNS,List.length_replicate,Nat.reduceAdd,Nat.reduceLeDiff,Nat.add_zero,Nat.reduceMul]at f8
  obtain⟨x9,f11,h⟩:=oc h (Z hk 0 112 (s6,x5,x2))
  refine AW.st (seq ?_)
  refine rg hS [0] (di1 (an f8.1 (an f8.2 (cb f11)))) ?_
  refine G [] ?_
  cases h
  exact fin
 obtain⟨c13,f15,h⟩:=oc h fun _ q=>Q4n (Q0b q)
 refine seq (dreg mixed hS (ordp hpf (by kernel_rfl)) [(0,.ref 0 0),(21,ab (decide (0<(x1.length:Int))&&decide (c13=92)))] [.var [as_ x1,as_ x2]] ?_ ?_)
 ·clear h hk hS hX c
  exact dh1 (an f15.1 (an f15.2.1 f15.2.2))
 refine ik h (fun h=>?_) fun h=>?_
 ·refine Ua1 h [0] (Z hk 0 112 (([32]:Str),x1,x2)) fun x17 h=>?_
  exact⟨x17,h,(Weak.norm (m:=1) (Nat.le_of_ble_eq_true rfl) kp hq rfl rfl)⟩
 exact⟨x1,h,(Weak.norm (m:=1) (Nat.le_of_ble_eq_true rfl) kp hq rfl rfl)⟩
theorem K3v{w68:Y7}(c:AllG env [(S68 w68),(S69 F69)]):Q0a env (S37 (F37 w68)):=by
 refine hd c V9k 19 ?_
 rintro O X hS hX hpf hk ⟨l1,x2,x3⟩ (r:Str×Str) (h:F37 w68 l1 x2 x3=some r)
 refine gs ?_
 rw[F37]at h
 refine R [0,1,4] ?_
 refine block (Lp h (fun(i6,x7,x8)=>⟨sl [(0,.ref 0 0),(1,vC l1),(4,ai i6)],19,[.var [as_ x7,as_ x8]]⟩) ?_)
 clear h
 rintro⟨i6,x7,x8⟩ m11 h
 rw[J6s]at h
 try dsimp only at h
 refine AW.st (seq ?_)
 refine R [0,1,4,8] ?_
 refine iz h (fun h=>?_) fun h=>?_
 ·obtain⟨u13,f15,h⟩:=oc h fun _=>Q0f
  obtain⟨⟨r16,r17⟩,f19,h⟩:=oc h (Z hk 0 68 (u13,x7,x8))
  refine skip (seq ?_)
  refine block (seq ?_)
  refine rg hS [0,1,4] (di1 (an f15.1 (an f15.2.1 (cb f19)))) ?_
  refine Ua2 h [0,1,4] (Z hk 1 69 (r16,r17)) fun x21 x22 h=>?_
  refine G [0,1,4] ?_
  exact nx h
 exact ex h
theorem K7p{w158:Y6}(c:AllG env [(S112 F112),(S158 w158)]):Q0a env (S110 (F110 w158)):=by
 refine hd c V2r 21 ?_
 rintro O X hS hX hpf hk ⟨l1,x2,x3⟩ (r:Str×Str) (h:F110 w158 l1 x2 x3=some r)
 refine gs ?_
 rw[F110]at h
 refine R [0,1,4] ?_
 refine block (Lp h (fun(i6,x7,x8)=>⟨sl [(0,.ref 0 0),(1,vWo l1),(4,ai i6)],21,[.var [as_ x7,as_ x8]]⟩) ?_)
 clear h
 rintro⟨i6,x7,x8⟩ m11 h
 rw[Z1k]at h
 try dsimp only at h
 refine AW.st (seq ?_)
 refine R [0,1,4,8] ?_
 refine iz h (fun h=>?_) fun h=>?_
 ·refine skip (seq ?_)
  refine block (seqJ (α:=Str) (fun x13=>⟨sl [(0,.ref 0 0),(1,vWo l1),(4,ai i6)],21,[.var [as_ x13,as_ x8]]⟩) (fun x=>Z1j l1 i6 w158 x8 (iter (Z1k l1 w158) m11) x=some r) ?_ ?_)
  ·intro x13 h
   rw[Z1j]at h
   try dsimp only at h
   obtain⟨u14,f16,h⟩:=oc h fun _=>Q0f
   obtain⟨⟨r17,r18⟩,f20,h⟩:=oc h (Z hk 1 158 (u14,x13,x8))
   refine AW.st (rg hS [0,1,4] (di1 (an f16.1 (an f16.2.1 (cb f20)))) ?_)
   refine G [0,1,4] ?_
   exact nx h
  refine R [0,1,4,12] ?_
  refine ik h (fun h=>?_) fun h=>?_
  ·refine Ua1 h [0,1,4] (Z hk 0 112 (([32]:Str),x7,x8)) fun x23 h=>?_
   exact⟨x23,h,(Weak.norm (m:=1) (Nat.le_of_ble_eq_true rfl) kp hq rfl rfl)⟩
  exact⟨x7,h,(Weak.norm (m:=1) (Nat.le_of_ble_eq_true rfl) kp hq rfl rfl)⟩
 exact ex h
theorem K7o{w68:Y7}(c:AllG env [(S112 F112),(S69 F69),(S37 (F37 w68))]):Q0a env (S111 (F111 w68)):=by
 refine hd c V2q 19 ?_
 rintro O X hS hX hpf hk ⟨from1,l2,to3,x4,x5⟩ (r:Str×Str) (h:F111 w68 from1 l2 to3 x4 x5=some r)
 refine gs ?_
 rw[F111]at h
 refine seq (Ua1 h [0,2,3] (Z hk 0 112 (from1,x4,x5)) fun x8 h=>?_)
 refine seq (Ua2 h [0,2,3] (Z hk 1 69 (x8,x5)) fun x12 x13 h=>?_)
 refine seq (Ua2 h [0,3] (Z hk 2 37 (l2,x12,x13)) fun x17 x18 h=>?_)
 refine Ua1 h [] (Z hk 0 112 (to3,x17,x18)) fun x22 h=>?_
 cases h
 exact fin
theorem K7m{w68:Y7}(c:AllG env [(S112 F112),(S68 w68)]):Q0a env (S113 (F113 w68)):=by
 refine hd c V2o 24 ?_
 rintro O X hS hX hpf hk ⟨l1,by2,x3,x4⟩ (r:Str×Str) (h:F113 w68 l1 by2 x3 x4=some r)
 refine gs ?_
 rw[F113]at h
 refine R [0,1,2,6] ?_
 refine block (Lp h (fun(i7,x8,x9)=>⟨sl [(0,.ref 0 0),(1,vC l1),(2,as_ by2),(6,ai i7)],24,[.var [as_ x8,as_ x9]]⟩) ?_)
 clear h
 rintro⟨i7,x8,x9⟩ m12 h
 rw[Z1i]at h
 try dsimp only at h
 refine AW.st (seq ?_)
 refine R [0,1,2,6,10] ?_
 refine iz h (fun h=>?_) fun h=>?_
 ·refine skip (seq ?_)
  refine block (seqJ (α:=Str) (fun x14=>⟨sl [(0,.ref 0 0),(1,vC l1),(2,as_ by2),(6,ai i7)],24,[.var [as_ x14,as_ x9]]⟩) (fun x=>Z1h l1 i7 w68 x9 (iter (Z1i l1 by2 w68) m12) x=some r) ?_ ?_)
  ·intro x14 h
   rw[Z1h]at h
   try dsimp only at h
   obtain⟨u15,f17,h⟩:=oc h fun _=>Q0f
   obtain⟨⟨r18,r19⟩,f21,h⟩:=oc h (Z hk 1 68 (u15,x14,x9))
   refine AW.st (rg hS [0,1,2,6] (di1 (an f17.1 (an f17.2.1 (cb f21)))) ?_)
   refine G [0,1,2,6] ?_
   exact nx h
  refine R [0,1,2,6,14] ?_
  refine ik h (fun h=>?_) fun h=>?_
  ·refine Ua1 h [0,1,2,6] (Z hk 0 112 (by2,x8,x9)) fun x24 h=>?_
   exact⟨x24,h,(Weak.norm (m:=1) (Nat.le_of_ble_eq_true rfl) kp hq rfl rfl)⟩
  exact⟨x8,h,(Weak.norm (m:=1) (Nat.le_of_ble_eq_true rfl) kp hq rfl rfl)⟩
 exact ex h
theorem K7l{w68:Y7}{w158:Y6}(c:AllG env [(S112 F112),(S158 w158),(S68 w68),(S110 (F110 w158)),(S69 F69),(S37 (F37 w68)),(S111 (F111 w68))]):Q0a env (S114 (F114 w68 w158)):=by
 refine hd c V2n 104 ?_
 rintro O X hS hX hpf hk ⟨c1,x2,x3⟩ (r:Str×Str) (h:F114 w68 w158 c1 x2 x3=some r)
 refine gs ?_
 rw[F114]at h
 refine R [0,3] ?_
 refine R [0,3,7] ?_
 refine block (R [0,3,7,14] ?_)
 refine iz h (fun h=>?_) fun h=>?_
 ·obtain⟨s7,f9,h⟩:=oc h fun _=>Q1a
  try simp only[LNS,List.length_replicate,Nat.reduceAdd,Nat.reduceLeDiff,Nat.add_zero,Nat.reduceMul]at f9
  obtain⟨s10,f12,h⟩:=oc h fun _=>Q1a
  try simp only[LNS,List.length_replicate,Nat.reduceAdd,Nat.reduceLeDiff,Nat.add_zero,Nat.reduceMul]at f12
  obtain⟨x13,f15,h⟩:=oc h (Z hk 0 112 (s10,x2,x3))
  refine seq (rg hS [0,3] (di1 (an f9.1 (an f9.2 (an f12.1 (an f12.2 (cb f15)))))) ?_)
  refine seq (R [0,3,4] ?_)
  refine block (Lp h (fun(i17,x18,x19)=>⟨sl [(0,.ref 0 0),(3,.ref 1 0),(4,ai i17)],104,[.var [as_ x18,as_ x19],V6 c1]⟩) ?_)
  clear h
  rintro⟨i17,x18,x19⟩ m22 h
  rw[Z1g]at h
  try dsimp only at h
  refine AW.st (seq ?_)
  refine R [0,3,4,26] ?_
  refine iz h (fun h=>?_) fun h=>?_
  ·refine skip (seq ?_)
   refine block (seq ?_)
   refine Ua1 h [0,3,4] (Z hk 0 112 (([32]:Str),x18,x19)) fun x24 h=>?_
   obtain⟨u28,f30,h⟩:=oc h fun _=>Q0f
   obtain⟨⟨r31,r32⟩,f34,h⟩:=oc h (Z hk 1 158 (u28,x24,x19))
   refine rg hS [0,3,4] (di1 (an f30.1 (an f30.2.1 (cb f34)))) ?_
   refine G [0,3,4] ?_
   exact nx h
  refine exit (seq ?_)
  refine Ua1 h [0,3] (Z hk 0 112 (([41,32]:Str),x18,x19)) fun x36 h=>?_
  obtain⟨u40,f42,h⟩:=oc h fun _=>Q0f
  try simp only[NRM,Int.reduceToNat]at f42
  obtain⟨⟨r43,r44⟩,f46,h⟩:=oc h (Z hk 2 68 (u40,x36,x19))
  refine rg hS [] (di1 (an f42.1 (an f42.2.1 (cb f46)))) ?_
  cases h
  exact fin
 refine R [0,3,7,46] ?_
 refine iz h (fun h=>?_) fun h=>?_
 ·refine seq (Ua1 h [0,3] (Z hk 0 112 (([115,119,105,116,99,104,32]:Str),x2,x3)) fun x50 h=>?_)
  refine seq (Ua2 h [0,3] (Z hk 3 110 (c1.words_,x50,x3)) fun x54 x55 h=>?_)
  refine seq (Ua1 h [0,3] (Z hk 0 112 (([32,123]:Str),x54,x55)) fun x59 h=>?_)
  refine seq (Ua2 h [0,3] (Z hk 4 69 (x59,x55)) fun x63 x64 h=>?_)
  refine seq (R [0,3,5] ?_)
  refine block (Lp h (fun(i68,x69,x70)=>⟨sl [(0,.ref 0 0),(3,.ref 1 0),(5,ai i68)],104,[.var [as_ x69,as_ x70],V6 c1]⟩) ?_)
  clear h
  rintro⟨i68,x69,x70⟩ m73 h
  rw[Z1f]at h
  try dsimp only at h
  refine AW.st (seq ?_)
  refine R [0,3,5,62] ?_
  refine iz h (fun h=>?_) fun h=>?_
  ·refine skip (seq ?_)
   refine block (seq ?_)
   refine Ua1 h [0,3,5] (Z hk 0 112 (([99,97,115,101,32]:Str),x69,x70)) fun x75 h=>?_
   obtain⟨u79,f81,h⟩:=oc h fun _=>Q0f
   obtain⟨⟨x82,x83⟩,f85,h⟩:=oc h (Z hk 3 110 (u79.words_,x75,x70))
   refine seq (rg hS [0,3,5] (di1 (an f81.1 (an f81.2.1 (cb f85)))) ?_)
   refine seq (Ua2 h [0,3,5] (Z hk 4 69 (x82,x83)) fun x87 x88 h=>?_)
   obtain⟨⟨x92,x93⟩,f95,h⟩:=oc h (Z hk 5 37 (u79.kids_,x87,x88))
   refine rg hS [0,3,5] (di1 (an f81.1 (an f81.2.1 (cb f95)))) ?_
   refine G [0,3,5] ?_
   exact nx h
  refine exit (Ua1 h [] (Z hk 0 112 (([125]:Str),x69,x70)) fun x97 h=>?_)
  cases h
  exact fin
 refine R [0,3,87] ?_
 refine iz h (fun h=>?_) fun h=>?_
 ·obtain⟨s103,f105,h⟩:=oc h fun _=>Q1a
  try simp only[LNS,List.length_replicate,Nat.reduceAdd,Nat.reduceLeDiff,Nat.add_zero,Nat.reduceMul]at f105
  obtain⟨x106,f108,h⟩:=oc h (Z hk 0 112 (s103,x2,x3))
  refine seq (rg hS [0,3] (di1 (an f105.1 (an f105.2 (cb f108)))) ?_)
  refine R [0,3,97] ?_
  refine ik h (fun h=>?_) fun h=>?_
  ·refine seq (Ua1 h [0,3] (Z hk 0 112 (([32]:Str),x106,x3)) fun x111 h=>?_)
   refine Ua2 h [] (Z hk 6 111 (([123]:Str),c1.kids_,([125]:Str),x111,x3)) fun x115 x116 h=>?_
   cases h
   exact fin
  cases h
  exact fin
 refine seq (Ua1 h [0,3] (Z hk 0 112 (([126,32]:Str),x2,x3)) fun x120 h=>?_)
 refine Ua2 h [] (Z hk 3 110 (c1.words_,x120,x3)) fun x124 x125 h=>?_
 cases h
 exact fin
theorem K6j(c:AllG env []):Q0a env (S159 F159):=by
 refine hd c V1f 20 ?_
 rintro O X hS hX hpf hk (n1:Int) (r:Str) (h:F159 n1=some r)
 refine gs ?_
 rw[F159]at h
 refine R [0] ?_
 refine seq (R [0,4] ?_)
 refine ik h (fun h=>?_) fun h=>?_
 ·refine seq ?_
  apply rg hS [2]
  ·simp -implicitDefEqProofs only[RUNS,Q0s,Nat.reduceAdd,Nat.reduceLeDiff,Nat.reduceSub,reduceIte,Nat.reduceEqDiff,Nat.reduceLT,reduceCtorEq,Nat.reduceMul,Nat.reduceBEq,Int.reduceEq,Int.reduceToNat,Int.toNat_zero,Nat.sub_zero,if_true,if_false,eq_self,ne_eq,Q4f,Q3c,Q2i,TYS,J4y T_3 T_5,Z1t.eq_2,Z3r.eq_1,isU8.eq_1,J1g,Z4s,List.map_cons,List.map_nil,Option.map_some];exact⟨rfl,rfl⟩
  exact Rf h
 refine seq ?_
 apply rg hS [2]
 ·simp -implicitDefEqProofs only[RUNS,Q0s,Nat.reduceAdd,Nat.reduceLeDiff,Nat.reduceSub,reduceIte,Nat.reduceEqDiff,Nat.reduceLT,reduceCtorEq,Nat.reduceMul,Nat.reduceBEq,Int.reduceEq,Int.reduceToNat,Int.toNat_zero,Nat.sub_zero,if_true,if_false,eq_self,ne_eq,Q4f,Q3c,Q2i,TYS,(show((10:Int)=0)=False from by decide),J4y T_3 T_5,Z1t.eq_2,Z3r.eq_1,isU8.eq_1,J1g,Z4s,List.map_cons,List.map_nil,Option.map_some];exact⟨rfl,rfl⟩
 exact Rf h
end Go.Abs.U48
