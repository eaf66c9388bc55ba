import Derived.Test.YtljahlbklgnfhaaGreatDoorD1
set_option linter.unusedVariables false
set_option linter.unusedSimpArgs false
set_option linter.defProp false
set_option maxRecDepth 8000
set_option maxHeartbeats 4000000
namespace Go.Abs.U48
open Go.RowKit Go.Proofs AW
theorem K4p(c:AllG env []):Q0a env S187:=by
 refine hd c K9b 29 ?_
 rintro O X hS hX hpf hk (s1:Str) (r:Bool) (h:F187 s1=some r)
 refine gs ?_
 rw[F187]at h
 refine R [0] ?_
 refine seq (reg hS [(2,ab ((((((decide (s1=[105,102])||decide (s1=[119,104,105,108,101]))||decide (s1=[102,111,114]))||decide (s1=[115,119,105,116,99,104]))||decide (s1=[99,97,115,101]))||decide (s1=[102,110]))||decide (s1=[126])))] [] ?_ ?_)
 ·clear h hk hS hX c
  exact dh
 exact Rf h
theorem K4s{w175:Y2}(c:AllG env [S178,S179 w175,S59,S187,S171,S60,S203,S175 w175]):Q0a env (S181 w175):=by
 refine hd c K9d 81 fun O X hS hX hpf hk ⟨ckind1,cat2,cname3,x4,x5,x6,x7,x8,x9,l10⟩=>fun r (h:F181 w175 ckind1 cat2 cname3 x4 x5 x6 x7 x8 x9 l10=some r)=>?_
 have pf_59:O.pf 59=false:=pft hpf 59 rfl
 have pf_187:O.pf 187=true:=pft hpf 187 rfl
 refine gs ?_
 rw[F181]at h
 refine seq (AW.after ?_)
 refine rg hS [0,3,4] di ?_
 refine oC Word.pv 2 3 49 5 ?_
 refine R [0,3,4] ?_
 refine seq (block ?_)
 refine Lp h (fun(x16,x17,x18,l19,l20)=>⟨sl [(0,.ref 0 0),(3,.ref 2 0),(4,.ref 3 0)],81,[V27 x4 x5 x6 x16 x17 x18,rRe l19,V31 1 cat2 cname3 l20.length l19.length,V5 0 0 [],rWo l20]⟩) ?_
 clear h
 rintro⟨x16,x17,x18,l19,l20⟩ m23 h
 rw[Q1k]at h
 try dsimp only at h
 refine AW.st (seq ?_)
 refine R [0,3,4,10] ?_
 refine iz h (fun h=>?_) fun h=>?_
 ·refine skip (block ?_)
  refine block (seq ?_)
  refine Ua1 h [0,3,4,12] (Z6 hk 0 rfl) fun r25 h=>?_
  refine iz h (fun h=>?_) fun h=>?_
  ·obtain⟨⟨r30,x31,x32,x33⟩,f35,h⟩:=oc h (Z6 hk 1 rfl)
   replace h:=ap Redir.pv h;obtain⟨out37,f39,h⟩:=h
   refine dV 15 7 [3,5,7] [(0,0),(0,1),(1,0),(1,1),(2,0),(3,0),(4,1),(5,1),(6,2),(7,2)] [.ref 2 4,.vec 1 (List.length l19),.ref 0 0,.pv (V15 r30),.full [V15 r30],.vec 1 (List.length out37),.ref 2 4,.any] [[(0,V27 x4 x5 x6 x31 x32 x33)],[(1,rRe out37)],[(2,V31 1 cat2 cname3 l20.length out37.length)]] [0,3,4] (an (cb f35) f39) ?_
   exact nx h
  refine seq ?_
  rcases bs h with⟨hsp194,h⟩|⟨hsp194,h⟩
  ·obtain⟨r40,q41,h⟩:=obs h
   have f42:=(hk 2 59 rfl).ret (x4,x5,x6,x16,x17,x18) q41 rfl rfl
   have e43:=Q2y f42 rfl rfl rfl rfl
   have e44:=Q2y f42 rfl rfl rfl rfl
   obtain⟨r45,q46,h⟩:=obs h
   replace q46:=Q0d q46
   have f47:=fun hg=>(hk 3 187 rfl).ret r40.text_ (q46 hg) rfl rfl
   have e48:=Q2y f42 rfl rfl rfl rfl
   obtain⟨r49,q50,h⟩:=obs h
   replace q50:=Q0d q50
   have f51:=fun hg=>(hk 4 171 rfl).ret r40.quoted_ (q50 hg) rfl rfl
   refine reg hS [(0,.ref 0 0),(3,.ref 2 0),(4,.ref 3 0),(22,ab ((decide (r40.kind_=1)&&r45)&&!r49))] [V27 x4 x5 x6 x16 x17 x18,rRe l19,V31 1 cat2 cname3 l20.length l19.length,V5 0 0 [],rWo l20] ?_ ?_
   ·clear h hk hS hX c
    exact dh1 (an hsp194 (an pf_59 (an e43 (an e44 (an pf_187 (an f47 (an e48 (ap1 171 hpf f51))))))))
   refine iz h (fun h=>?_) fun h=>?_
   ·refine seqM ⟨sl [(0,.ref 0 0),(3,.ref 2 0),(4,.ref 3 0)],81,[V27 x4 x5 x6 (bif decide ((l19.length:Int)=0)then IntKind.wrap .i64 (x16+1)else x16) x17 x18,rRe l19,V31 1 cat2 cname3 l20.length l19.length,V5 0 0 [],rWo l20]⟩ ?_ ?_
    ·refine R [0,3,4,49] ?_
     refine cond (b:=decide ((l19.length:Int)=0)) rfl (fun hb53=>?_) (fun hb53=>?_)
     ·refine G [0,3,4] ?_
      exact Weak.of_eq (Weak.slots (L:=[(0,.ref 0 0),(3,.ref 2 0),(4,.ref 3 0)]) kp) (wq hb53)
     exact skip (Weak.of_eq (Weak.slots (L:=[(0,.ref 0 0),(3,.ref 2 0),(4,.ref 3 0)]) kp) (wq hb53))
    refine Ua2 h [0,3,4] (Z6 hk 5 rfl) fun x54 x55 h=>?_
    exact nx h
   refine seq (Ua1 h [0,3,4,59] (Z6 hk 6 rfl) fun r59 h=>?_)
   refine iz h (fun h=>?_) fun h=>?_
   ·obtain⟨⟨r64,r65,r66,r67⟩,f69,h⟩:=oc h (Z6 hk 7 rfl)
    replace h:=ap Word.pv h;obtain⟨out71,f73,h⟩:=h
    refine dV 62 7 [3,5,7] [(0,0),(0,1),(1,0),(1,1),(2,0),(3,0),(4,1),(5,1),(6,2),(7,2)] [.ref 2 3,.vec 4 (List.length l20),.ref 0 0,.pv (V14 r64),.full [V14 r64],.vec 4 (List.length out71),.ref 2 3,.any] [[(0,V27 x4 x5 x6 r65 r66 r67)],[(4,rWo out71)],[(2,V31 1 cat2 cname3 out71.length l19.length)]] [0,3,4] (an (cb f69) f73) ?_
    exact nx h
   refine R [0,3,4,69] ?_
   refine iz h (fun h=>?_) fun h=>?_
   ·refine Ua2 h [0,3,4] (Z6 hk 5 rfl) fun x75 x76 h=>?_
    exact nx h
   exact Rt h [4]
  refine rg hS [0,3,4,22] (di1 hsp194) ?_
  refine cF (seq (Ua1 h [0,3,4,59] (Z6 hk 6 rfl) fun r41 h=>?_))
  refine iz h (fun h=>?_) fun h=>?_
  ·obtain⟨⟨r46,r47,r48,r49⟩,f51,h⟩:=oc h (Z6 hk 7 rfl)
   replace h:=ap Word.pv h;obtain⟨out53,f55,h⟩:=h
   refine dV 62 7 [3,5,7] [(0,0),(0,1),(1,0),(1,1),(2,0),(3,0),(4,1),(5,1),(6,2),(7,2)] [.ref 2 3,.vec 4 (List.length l20),.ref 0 0,.pv (V14 r46),.full [V14 r46],.vec 4 (List.length out53),.ref 2 3,.any] [[(0,V27 x4 x5 x6 r47 r48 r49)],[(4,rWo out53)],[(2,V31 1 cat2 cname3 out53.length l19.length)]] [0,3,4] (an (cb f51) f55) ?_
   exact nx h
  refine R [0,3,4,69] ?_
  refine iz h (fun h=>?_) fun h=>?_
  ·refine Ua2 h [0,3,4] (Z6 hk 5 rfl) fun x57 x58 h=>?_
   exact nx h
  exact Rt h [4]
 exact exit (Rt h [4])
theorem K5m{w142:Y3}{w175:Y2}(c:AllG env [S59,S141,S173,S174,S175 w175,S176,S142 w142,S58,S177 w142,S178,S179 w175,S140,S180 w142 w175,S181 w175]):Q0a env (S142 (F142 w142 w175)):=by
 refine hd c X6g 113 fun O X hS hX hpf hk ⟨x1,x2,x3,x4,x5,x6⟩=>fun r (h:F142 w142 w175 x1 x2 x3 x4 x5 x6=some r)=>?_
 have pf_58:O.pf 58=false:=pft hpf 58 rfl
 refine gs ?_
 rw[F142]at h
 refine R [0,2] ?_
 obtain⟨r11,f13,h⟩:=oc h (Z6 hk 0 rfl)
 refine seq (AW.after ?_)
 refine rg hS [0,2,3] (di1 (cb f13)) ?_
 refine oC Redir.pv 2 4 51 9 ?_
 refine seq (block ?_)
 refine R [0,2,3,11] ?_
 refine iz h (fun h=>?_) fun h=>?_
 ·exact skip (Rt h [2])
 refine seq (Ua1 h [0,2,3,17] (Z6 hk 1 rfl) fun r16 h=>?_)
 refine iz h (fun h=>?_) fun h=>?_
 ·refine R [0,2,3] ?_
  refine seq (Ua4 h [0,2,3] (Z6 hk 2 rfl) fun r21 x22 x23 x24 h=>?_)
  refine seq (Ua3 h [0,2,3] (Z7 hk 3 rfl) fun x28 x29 x30 h=>?_)
  obtain⟨⟨r34,r35,r36,r37⟩,f39,h⟩:=oc h (Z6 hk 4 rfl)
  refine seq (rg hS [0,2,3] (di1 (cb f39)) ?_)
  refine seq ?_
  rcases bs h with⟨hsp195,h⟩|⟨hsp195,h⟩
  ·obtain⟨r41,f43,h⟩:=oc h (Z6 hk 5 rfl)
   refine rg hS [0,2,3,38] (di1 (an hsp195 (cb f43))) ?_
   refine ik h (fun h=>?_) fun h=>?_
   ·obtain⟨⟨r46,r47,r48,r49⟩,f51,h⟩:=oc h (Z6 hk 6 rfl)
    refine rg hS [2,3] (di1 (cb f51)) ?_
    exact Rt h [2]
   exact Rt h [2]
  refine rg hS [0,2,3,38] (di1 hsp195) ?_
  exact cF (skip (Rt h [2]))
 obtain⟨r53,f55,h⟩:=oc h (Z7 hk 7 rfl)
 replace f55:=cb f55
 try simp only[PVE]at f55
 refine seq ?_
 rcases bs h with⟨hsp196,h⟩|⟨hsp196,h⟩
 ·refine rg hS [0,2,3,43] (di1 (an pf_58 (an f55 hsp196))) ?_
  refine cond (b:=true) rfl (fun _=>?_) (fun hb=>absurd hb (by decide))
  refine R [0,2,3] ?_
  refine seqJ (α:=Int) (fun x58=>⟨sl [(0,.ref 0 0),(2,.ref 1 0),(3,.ref 2 0)],113,[V27 x1 x2 x3 x4 x5 x6,V5 0 0 [],V32 x58 r11.at_ [] (List.length ([]:List Redir)),.row 51 9 (List.map Redir.pv ([]:List Redir)) true]⟩) (fun x=>Z5m w142 x1 x2 x3 x4 x5 x6 r11 x=some r) ?_ ?_
  ·intro x58 h
   rw[Z5m]at h
   try dsimp only at h
   refine AW.st (R [0,2,3] ?_)
   obtain⟨⟨r59,r60,r61,r62⟩,f64,h⟩:=oc h (Z6 hk 6 rfl)
   refine rg hS [2,3] (di1 (cb f64)) ?_
   exact Rt h [2]
  refine seq (Ua1 h [0,2,3,52] (Z7 hk 7 rfl) fun r66 h=>?_)
  refine ik h (fun h=>?_) fun h=>?_
  ·refine G [0,2,3] ?_
   exact jn h
  exact jn h
 obtain⟨r57,q58,h⟩:=obs h
 have f59:=(hk 7 58 rfl).ret (([64]:Str),x1,x2,x3,x4,x5,x6) q58 rfl rfl
 try simp only[PVE]at f59
 have e60:=Q2y f59 rfl rfl rfl rfl
 refine rg hS [0,2,3,43] (di1 (an pf_58 (an f55 (an hsp196 e60)))) ?_
 refine iz h (fun h=>?_) fun h=>?_
 ·refine R [0,2,3] ?_
  refine seqM ⟨sl [(0,.ref 0 0),(2,.ref 1 0),(3,.ref 2 0)],113,[V27 x1 x2 x3 x4 x5 x6,V5 0 0 [],V32 (bif r57 then 13 else 7) r11.at_ [] (List.length ([]:List Redir)),.row 51 9 (List.map Redir.pv ([]:List Redir)) true]⟩ ?_ ?_
  ·have e62:=Q2y f59 rfl rfl rfl rfl
   refine seq (rg hS [0,2,3,52] (di1 (ap0 58 hpf e62)) ?_)
   refine cond (b:=r57) rfl (fun hb63=>?_) (fun hb63=>?_)
   ·refine G [0,2,3] ?_
    exact Weak.of_eq (Weak.slots (L:=[(0,.ref 0 0),(2,.ref 1 0),(3,.ref 2 0)]) kp) (wq hb63)
   exact skip (Weak.of_eq (Weak.slots (L:=[(0,.ref 0 0),(2,.ref 1 0),(3,.ref 2 0)]) kp) (wq hb63))
  refine R [0,2,3] ?_
  obtain⟨⟨r64,r65,r66,r67⟩,f69,h⟩:=oc h (Z6 hk 6 rfl)
  refine rg hS [2,3] (di1 (cb f69)) ?_
  exact Rt h [2]
 refine seq (Ua1 h [0,2,3,65] (Z7 hk 7 rfl) fun r71 h=>?_)
 refine iz h (fun h=>?_) fun h=>?_
 ·obtain⟨⟨kind76,at77,name78,kids79,x80,x81,x82⟩,q83,h⟩:=obs h
  dsimp only at h
  have f84:=(hk 8 177 rfl).ret (([123]:Str),([125]:Str),x1,x2,x3,x4,x5,x6) q83 rfl rfl
  try simp only[PVE]at f84
  have e85:Q0v O [V27 x1 x2 x3 x4 x5 x6,V5 0 0 [],V32 0 r11.at_ [] (List.length ([]:List Redir)),.row 51 9 (List.map Redir.pv ([]:List Redir)) true] 177 [.ref 0 0,as_ [123],as_ [125]]=some (Q1a [.agg [ai kind76,ai at77,as_ name78,.nils,.nils,vC kids79]],[V27 x1 x2 x3 x80 x81 x82,V5 0 0 [],V32 0 r11.at_ [] (List.length ([]:List Redir)),.row 51 9 (List.map Redir.pv ([]:List Redir)) true]):=Q0i rfl rfl rfl f84 rfl rfl rfl
  try simp only[List.length_nil,List.map_nil]at e85
  refine seq (AW.after ?_)
  refine rg hS [0,2,3] (di1 (ap0 177 hpf e85)) ?_
  refine oC Redir.pv 2 4 51 9 ?_
  refine block (Lp h (fun(x86,x87,x88,l89)=>⟨sl [(0,.ref 0 0),(2,.ref 1 0),(3,.ref 2 0)],113,[V27 x1 x2 x3 x86 x87 x88,V5 0 0 [],V33 kind76 at77 name78 l89.length kids79,.row 51 9 (List.map Redir.pv ([]:List Redir)) true,rRe l89]⟩) ?_)
  clear h
  rintro⟨x86,x87,x88,l89⟩ m92 h
  rw[Q4t]at h
  try dsimp only at h
  refine AW.st (seq ?_)
  refine seq ?_
  rcases bs h with⟨hsp198,h⟩|⟨hsp198,h⟩
  ·obtain⟨r93,f95,h⟩:=oc h (Z6 hk 9 rfl)
   refine rg hS [0,2,3,78] (di1 (an hsp198 (cb f95))) ?_
   refine iz h (fun h=>?_) fun h=>?_
   ·obtain⟨⟨r98,x99,x100,x101⟩,f103,h⟩:=oc h (Z6 hk 10 rfl)
    replace h:=ap Redir.pv h;obtain⟨out105,f107,h⟩:=h
    refine skip (block ?_)
    refine dV 79 7 [3,5,7] [(0,0),(0,1),(1,0),(1,1),(2,0),(3,0),(4,1),(5,1),(6,2),(7,2)] [.ref 2 4,.vec 4 (List.length l89),.ref 0 0,.pv (V15 r98),.full [V15 r98],.vec 4 (List.length out105),.ref 2 4,.any] [[(0,V27 x1 x2 x3 x99 x100 x101)],[(4,rRe out105)],[(2,V33 kind76 at77 name78 out105.length kids79)]] [0,2,3] (an (cb f103) f107) ?_
    exact nx h
   exact exit (Rt h [2])
  refine rg hS [0,2,3,78] (di1 hsp198) ?_
  exact cF (exit (Rt h [2]))
 obtain⟨r109,f111,h⟩:=oc h (Z7 hk 11 rfl)
 replace f111:=cb f111
 try simp only[PVE]at f111
 refine seq ?_
 rcases bs h with⟨hsp199,h⟩|⟨hsp199,h⟩
 ·refine rg hS [0,2,3,86] (di1 (an f111 hsp199)) ?_
  refine cond (b:=true) rfl (fun _=>?_) (fun hb=>absurd hb (by decide))
  obtain⟨⟨r114,x115,x116,x117⟩,q118,h⟩:=obs h
  dsimp only at h
  have f119:=(hk 12 180 rfl).ret (0,r11.at_,([]:Str),x1,x2,x3,x4,x5,x6,(([]:List Redir):List Redir)) q118 rfl rfl
  try simp only[PVE]at f119
  have e120:Q0v O [V27 x1 x2 x3 x4 x5 x6,V5 0 0 [],V32 0 r11.at_ [] (List.length ([]:List Redir)),.row 51 9 (List.map Redir.pv ([]:List Redir)) true] 180 [.ref 0 0,.agg [ai 0,ai r11.at_,as_ [],.nils,.vec 3 (List.length ([]:List Redir)),.nils]]=some (Q1a [.pv (V7 r114)],[V27 x1 x2 x3 x115 x116 x117,V5 0 0 [],V32 0 r11.at_ [] (List.length ([]:List Redir)),.row 51 9 (List.map Redir.pv ([]:List Redir)) true]):=Q0i rfl rfl rfl f119 rfl rfl rfl
  try simp only[List.length_nil,List.map_nil]at e120
  refine seq (rg hS [2] (di1 (ap0 180 hpf e120)) ?_)
  exact Rf h
 obtain⟨r113,f115,h⟩:=oc h (Z7 hk 11 rfl)
 replace f115:=cb f115
 try simp only[PVE]at f115
 rcases bs h with⟨hsp200,h⟩|⟨hsp200,h⟩
 ·refine rg hS [0,2,3,86] (di1 (an f111 (an hsp199 (an f115 hsp200)))) ?_
  refine cond (b:=true) rfl (fun _=>?_) (fun hb=>absurd hb (by decide))
  obtain⟨⟨r118,x119,x120,x121⟩,q122,h⟩:=obs h
  dsimp only at h
  have f123:=(hk 12 180 rfl).ret (0,r11.at_,([]:Str),x1,x2,x3,x4,x5,x6,(([]:List Redir):List Redir)) q122 rfl rfl
  try simp only[PVE]at f123
  have e124:Q0v O [V27 x1 x2 x3 x4 x5 x6,V5 0 0 [],V32 0 r11.at_ [] (List.length ([]:List Redir)),.row 51 9 (List.map Redir.pv ([]:List Redir)) true] 180 [.ref 0 0,.agg [ai 0,ai r11.at_,as_ [],.nils,.vec 3 (List.length ([]:List Redir)),.nils]]=some (Q1a [.pv (V7 r118)],[V27 x1 x2 x3 x119 x120 x121,V5 0 0 [],V32 0 r11.at_ [] (List.length ([]:List Redir)),.row 51 9 (List.map Redir.pv ([]:List Redir)) true]):=Q0i rfl rfl rfl f123 rfl rfl rfl
  try simp only[List.length_nil,List.map_nil]at e124
  refine seq (rg hS [2] (di1 (ap0 180 hpf e124)) ?_)
  exact Rf h
 obtain⟨r117,f119,h⟩:=oc h (Z7 hk 11 rfl)
 replace f119:=cb f119
 try simp only[PVE]at f119
 rcases bs h with⟨hsp201,h⟩|⟨hsp201,h⟩
 ·refine rg hS [0,2,3,86] (di1 (an f111 (an hsp199 (an f115 (an hsp200 (an f119 hsp201)))))) ?_
  refine cond (b:=true) rfl (fun _=>?_) (fun hb=>absurd hb (by decide))
  obtain⟨⟨r122,x123,x124,x125⟩,q126,h⟩:=obs h
  dsimp only at h
  have f127:=(hk 12 180 rfl).ret (0,r11.at_,([]:Str),x1,x2,x3,x4,x5,x6,(([]:List Redir):List Redir)) q126 rfl rfl
  try simp only[PVE]at f127
  have e128:Q0v O [V27 x1 x2 x3 x4 x5 x6,V5 0 0 [],V32 0 r11.at_ [] (List.length ([]:List Redir)),.row 51 9 (List.map Redir.pv ([]:List Redir)) true] 180 [.ref 0 0,.agg [ai 0,ai r11.at_,as_ [],.nils,.vec 3 (List.length ([]:List Redir)),.nils]]=some (Q1a [.pv (V7 r122)],[V27 x1 x2 x3 x123 x124 x125,V5 0 0 [],V32 0 r11.at_ [] (List.length ([]:List Redir)),.row 51 9 (List.map Redir.pv ([]:List Redir)) true]):=Q0i rfl rfl rfl f127 rfl rfl rfl
  try simp only[List.length_nil,List.map_nil]at e128
  refine seq (rg hS [2] (di1 (ap0 180 hpf e128)) ?_)
  exact Rf h
 obtain⟨r121,f123,h⟩:=oc h (Z7 hk 11 rfl)
 replace f123:=cb f123
 try simp only[PVE]at f123
 rcases bs h with⟨hsp202,h⟩|⟨hsp202,h⟩
 ·refine rg hS [0,2,3,86] (di1 (an f111 (an hsp199 (an f115 (an hsp200 (an f119 (an hsp201 (an f123 hsp202)))))))) ?_
  refine cond (b:=true) rfl (fun _=>?_) (fun hb=>absurd hb (by decide))
  obtain⟨⟨r126,x127,x128,x129⟩,q130,h⟩:=obs h
  dsimp only at h
  have f131:=(hk 12 180 rfl).ret (0,r11.at_,([]:Str),x1,x2,x3,x4,x5,x6,(([]:List Redir):List Redir)) q130 rfl rfl
  try simp only[PVE]at f131
  have e132:Q0v O [V27 x1 x2 x3 x4 x5 x6,V5 0 0 [],V32 0 r11.at_ [] (List.length ([]:List Redir)),.row 51 9 (List.map Redir.pv ([]:List Redir)) true] 180 [.ref 0 0,.agg [ai 0,ai r11.at_,as_ [],.nils,.vec 3 (List.length ([]:List Redir)),.nils]]=some (Q1a [.pv (V7 r126)],[V27 x1 x2 x3 x127 x128 x129,V5 0 0 [],V32 0 r11.at_ [] (List.length ([]:List Redir)),.row 51 9 (List.map Redir.pv ([]:List Redir)) true]):=Q0i rfl rfl rfl f131 rfl rfl rfl
  try simp only[List.length_nil,List.map_nil]at e132
  refine seq (rg hS [2] (di1 (ap0 180 hpf e132)) ?_)
  exact Rf h
 obtain⟨r125,f127,h⟩:=oc h (Z7 hk 11 rfl)
 replace f127:=cb f127
 try simp only[PVE]at f127
 rcases bs h with⟨hsp203,h⟩|⟨hsp203,h⟩
 ·refine rg hS [0,2,3,86] (di1 (an f111 (an hsp199 (an f115 (an hsp200 (an f119 (an hsp201 (an f123 (an hsp202 (an f127 hsp203)))))))))) ?_
  refine cond (b:=true) rfl (fun _=>?_) (fun hb=>absurd hb (by decide))
  obtain⟨⟨r130,x131,x132,x133⟩,q134,h⟩:=obs h
  dsimp only at h
  have f135:=(hk 12 180 rfl).ret (0,r11.at_,([]:Str),x1,x2,x3,x4,x5,x6,(([]:List Redir):List Redir)) q134 rfl rfl
  try simp only[PVE]at f135
  have e136:Q0v O [V27 x1 x2 x3 x4 x5 x6,V5 0 0 [],V32 0 r11.at_ [] (List.length ([]:List Redir)),.row 51 9 (List.map Redir.pv ([]:List Redir)) true] 180 [.ref 0 0,.agg [ai 0,ai r11.at_,as_ [],.nils,.vec 3 (List.length ([]:List Redir)),.nils]]=some (Q1a [.pv (V7 r130)],[V27 x1 x2 x3 x131 x132 x133,V5 0 0 [],V32 0 r11.at_ [] (List.length ([]:List Redir)),.row 51 9 (List.map Redir.pv ([]:List Redir)) true]):=Q0i rfl rfl rfl f135 rfl rfl rfl
  try simp only[List.length_nil,List.map_nil]at e136
  refine seq (rg hS [2] (di1 (ap0 180 hpf e136)) ?_)
  exact Rf h
 obtain⟨r129,f131,h⟩:=oc h (Z7 hk 11 rfl)
 replace f131:=cb f131
 try simp only[PVE]at f131
 refine rg hS [0,2,3,86] (di1 (an f111 (an hsp199 (an f115 (an hsp200 (an f119 (an hsp201 (an f123 (an hsp202 (an f127 (an hsp203 f131))))))))))) ?_
 refine iz h (fun h=>?_) fun h=>?_
 ·obtain⟨⟨r134,x135,x136,x137⟩,q138,h⟩:=obs h
  dsimp only at h
  have f139:=(hk 12 180 rfl).ret (0,r11.at_,([]:Str),x1,x2,x3,x4,x5,x6,(([]:List Redir):List Redir)) q138 rfl rfl
  try simp only[PVE]at f139
  have e140:Q0v O [V27 x1 x2 x3 x4 x5 x6,V5 0 0 [],V32 0 r11.at_ [] (List.length ([]:List Redir)),.row 51 9 (List.map Redir.pv ([]:List Redir)) true] 180 [.ref 0 0,.agg [ai 0,ai r11.at_,as_ [],.nils,.vec 3 (List.length ([]:List Redir)),.nils]]=some (Q1a [.pv (V7 r134)],[V27 x1 x2 x3 x135 x136 x137,V5 0 0 [],V32 0 r11.at_ [] (List.length ([]:List Redir)),.row 51 9 (List.map Redir.pv ([]:List Redir)) true]):=Q0i rfl rfl rfl f139 rfl rfl rfl
  try simp only[List.length_nil,List.map_nil]at e140
  refine seq (rg hS [2] (di1 (ap0 180 hpf e140)) ?_)
  exact Rf h
 obtain⟨⟨r141,x142,x143,x144,o145⟩,q146,h⟩:=obs h
 dsimp only at h
 have f147:=(hk 13 181 rfl).ret (0,r11.at_,([]:Str),x1,x2,x3,x4,x5,x6,(([]:List Redir):List Redir)) q146 rfl rfl
 try simp only[PVE]at f147
 have e148:Q0v O [V27 x1 x2 x3 x4 x5 x6,V5 0 0 [],V32 0 r11.at_ [] (List.length ([]:List Redir)),.row 51 9 (List.map Redir.pv ([]:List Redir)) true] 181 [.ref 0 0,.agg [ai 0,ai r11.at_,as_ [],.nils,.vec 3 (List.length ([]:List Redir)),.nils]]=some (Q1a [.pv (V7 r141)],[V27 x1 x2 x3 x142 x143 x144,V5 0 0 [],V32 0 r11.at_ [] (List.length ([]:List Redir)),rRe o145]):=Q0i rfl rfl rfl f147 rfl rfl rfl
 try simp only[List.length_nil,List.map_nil]at e148
 refine seq (rg hS [2] (di1 (ap0 181 hpf e148)) ?_)
 exact Rf h
end Go.Abs.U48
