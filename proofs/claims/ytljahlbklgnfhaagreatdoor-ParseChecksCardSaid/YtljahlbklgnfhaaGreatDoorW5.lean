import Derived.Test.YtljahlbklgnfhaaGreatDoorD1
set_option linter.unusedVariables false
set_option linter.unusedSimpArgs false
set_option linter.defProp false
set_option maxRecDepth 8000
set_option maxHeartbeats 4000000
namespace Go.Abs.U48
open Go.RowKit Go.Proofs AW
theorem g_F200{w200:Y0}{w252:Y1}(c:AllG env [(S84 F84),(S133 F133),(S144 F144),(S128 F128),(S223 (F223 w200 w252)),(S224 (F224 w200)),(S225 (F225 w200 w252)),(S83 F83),(S226 (F226 w200)),(S227 (F227 w200 w252)),(S228 (F228 w200 w252)),(S229 (F229 w200)),(S230 (F230 w252)),(S48 F48),(S81 F81),(S231 (F231 w252))]):GoodH env (S200 (F200 w200 w252)):=by
 obtain⟨O,X,hS,hX,hpf,hk⟩:=orp c
 have pf_84:O.pf 84=false:=pft hpf 84 rfl
 have pf_133:O.pf 133=true:=pft hpf 133 rfl
 have pf_144:O.pf 144=true:=pft hpf 144 rfl
 refine gh fn_200 97 ?_
 rintro⟨inCase1,x2,x3,x4,x5⟩ (r:Int ⊕ (Cmd×Int)) h m em
 refine ghs em ?_;clear em m
 replace h:F200 w200 w252 inCase1 x2 x3 x4 x5=some r:=h
 rw[F200]at h
 refine srg hS [0,1,4] di ?_
 refine seq ?_
 obtain⟨r8,q9,h⟩:=obs h
 have f10:=(hk 0 84 rfl).ret (0,x2,x3,x4,x5) q9 rfl rfl
 have e11:=ecall0 f10 rfl rfl rfl rfl
 obtain⟨r12,q13,h⟩:=obs h
 have f14:=(hk 0 84 rfl).ret (1,x2,x3,x4,x5) q13 rfl rfl
 have e15:=ecall0 f14 rfl rfl rfl rfl
 refine rg hS [0,1,4,5,6] (di1 (an pf_84 (an e11 e15))) ?_
 refine seq ?_
 refine block ?_
 refine seq ?_
 obtain⟨r16,q17,h⟩:=obs h
 have f18:=(hk 1 133 rfl).ret r8 q17 rfl rfl
 obtain⟨r19,q20,h⟩:=obs h
 replace q20:=guardO_t q20
 have f21:=fun hg=>(hk 2 144 rfl).ret r8.text_ (q20 hg) rfl rfl
 obtain⟨r22,q23,h⟩:=obs h
 replace q23:=guardO_t q23
 have f24:=fun hg=>(hk 3 128 rfl).ret (r12,([61]:Str)) (q23 hg) rfl rfl
 try simp only[PVE]at f24
 refine reg hS [(0,.ref 0 0),(1,ab inCase1),(4,.ref 1 0),(5,.ref 2 0),(6,.ref 3 0),(11,ab ((r16&&r19)&&r22))] [V2 x2 x3 x4 x5,V4 0 0 [],V1 r8,V1 r12] ?_ ?_
 ·clear h hk hS hX c
  exact dh1 (an pf_133 (an f18 (an pf_144 (an f21 (ap1 128 hpf f24)))))
 refine ifs h (fun hb25 h=>?_) fun hb25 h=>?_
 ·refine seq ?_
  rcases bindX_some h with⟨n30,q28,rfl⟩|⟨⟨r26,x27⟩,q28,h⟩
  ·have f31:=(hk 4 223 rfl).boom (inCase1,x2,x3,x4,x5) q28 rfl rfl
   have e32:=xcall0 f31 rfl rfl
   apply regS hS hX 2 rfl
   ·exact dp1 e32
   exact boomR rfl rfl rfl
  dsimp only at h
  have f29:=(hk 4 223 rfl).ret (inCase1,x2,x3,x4,x5) q28 rfl rfl
  have e33:=ecall0 f29 rfl rfl rfl rfl
  refine rg hS [4] (di1 (ap0 223 hpf e33)) ?_
  cases h;exact ret fin
 ·refine seq ?_
  obtain⟨r34,q35,h⟩:=obs h
  have f36:=(hk 3 128 rfl).ret (r8,([33]:Str)) q35 rfl rfl
  try simp only[PVE]at f36
  refine rg hS [0,1,4,5,6,26] (di1 (ap1 128 hpf f36)) ?_
  refine ifs h (fun hb37 h=>?_) fun hb37 h=>?_
  ·refine seq ?_
   rcases bindX_some h with⟨n42,q40,rfl⟩|⟨⟨r38,x39⟩,q40,h⟩
   ·have f43:=(hk 5 224 rfl).boom (7,1,inCase1,x2,x3,x4,x5) q40 rfl rfl
    have e44:=xcall0 f43 rfl rfl
    apply regS hS hX 2 rfl
    ·exact dp1 e44
    exact boomR rfl rfl rfl
   dsimp only at h
   have f41:=(hk 5 224 rfl).ret (7,1,inCase1,x2,x3,x4,x5) q40 rfl rfl
   have e45:=ecall0 f41 rfl rfl rfl rfl
   refine rg hS [4] (di1 (ap0 224 hpf e45)) ?_
   cases h;exact ret fin
  ·refine seq ?_
   obtain⟨r46,q47,h⟩:=obs h
   have f48:=(hk 3 128 rfl).ret (r8,([64]:Str)) q47 rfl rfl
   try simp only[PVE]at f48
   refine rg hS [0,1,4,5,6,32] (di1 (ap1 128 hpf f48)) ?_
   refine ifs h (fun hb49 h=>?_) fun hb49 h=>?_
   ·refine seq ?_
    rcases bindX_some h with⟨n54,q52,rfl⟩|⟨⟨r50,x51⟩,q52,h⟩
    ·have f55:=(hk 5 224 rfl).boom (13,1,inCase1,x2,x3,x4,x5) q52 rfl rfl
     have e56:=xcall0 f55 rfl rfl
     apply regS hS hX 2 rfl
     ·exact dp1 e56
     exact boomR rfl rfl rfl
    dsimp only at h
    have f53:=(hk 5 224 rfl).ret (13,1,inCase1,x2,x3,x4,x5) q52 rfl rfl
    have e57:=ecall0 f53 rfl rfl rfl rfl
    refine rg hS [4] (di1 (ap0 224 hpf e57)) ?_
    cases h;exact ret fin
   ·refine seq ?_
    obtain⟨r58,q59,h⟩:=obs h
    have f60:=(hk 3 128 rfl).ret (r8,([123]:Str)) q59 rfl rfl
    try simp only[PVE]at f60
    refine rg hS [0,1,4,5,6,38] (di1 (ap1 128 hpf f60)) ?_
    refine ifk h (fun hb61 h=>?_) fun hb61 h=>?_
    ·refine seq ?_
     rcases bindX_some h with⟨n66,q64,rfl⟩|⟨⟨r62,x63⟩,q64,h⟩
     ·have f67:=(hk 6 225 rfl).boom (x2,x3,x4,x5) q64 rfl rfl
      have e68:=xcall0 f67 rfl rfl
      apply regS hS hX 1 rfl
      ·exact dp1 e68
      exact boomR rfl rfl rfl
     dsimp only at h
     have f65:=(hk 6 225 rfl).ret (x2,x3,x4,x5) q64 rfl rfl
     have e69:=ecall0 f65 rfl rfl rfl rfl
     refine rg hS [4] (di1 (ap0 225 hpf e69)) ?_
     cases h;exact ret fin
    ·refine seqJ (α:=Int) (fun x70=>⟨sl [(0,.ref 0 0),(1,ab inCase1),(4,.ref 1 0)],97,[V2 x2 x3 x4 x70,V4 0 0 [],V1 r8,V1 r12]⟩) (fun x=>F200_j1 inCase1 x2 x3 x4 w252 x=some r) ?_ ?_
     ·intro x70 h
      rw[F200_j1]at h
      try dsimp only at h
      refine AW.st ?_
      refine seq ?_
      refine seq ?_
      obtain⟨r71,q72,h⟩:=obs h
      have f73:=(hk 14 81 rfl).ret (inCase1,x2,x3,x4,x70) q72 rfl rfl
      have e74:=ecall0 f73 rfl rfl rfl rfl
      refine rg hS [0,4,92] (di1 (ap0 81 hpf e74)) ?_
      refine ifk h (fun hb75 h=>?_) fun hb75 h=>?_
      ·rcases bindX_some h with⟨n78,q76,rfl⟩|⟨_,q76,h⟩
       ·have f79:=(hk 13 48 rfl).boom (x2,x3,x4,x70) q76 rfl rfl
        have e80:=xcall0 f79 rfl rfl
        apply regS hS hX 1 rfl
        ·exact dp1 e80
        exact boomR rfl rfl rfl
       have f77:=(hk 13 48 rfl).ret (x2,x3,x4,x70) q76 rfl rfl
       have e81:=ecall0 f77 rfl rfl rfl rfl
       refine rg hS [0,4] (di1 (ap0 48 hpf e81)) ?_
       refine seq ?_
       rcases bindX_some h with⟨n86,q84,rfl⟩|⟨⟨r82,x83⟩,q84,h⟩
       ·have f87:=(hk 15 231 rfl).boom (x2,x3,x4,x70) q84 rfl rfl
        have e88:=xcall0 f87 rfl rfl
        apply regS hS hX 1 rfl
        ·exact dp1 e88
        exact boomR rfl rfl rfl
       dsimp only at h
       have f85:=(hk 15 231 rfl).ret (x2,x3,x4,x70) q84 rfl rfl
       have e89:=ecall0 f85 rfl rfl rfl rfl
       refine rg hS [4] (di1 (ap0 231 hpf e89)) ?_
       cases h;exact ret fin
      ·refine seq ?_
       rcases bindX_some h with⟨n94,q92,rfl⟩|⟨⟨r90,x91⟩,q92,h⟩
       ·have f95:=(hk 15 231 rfl).boom (x2,x3,x4,x70) q92 rfl rfl
        have e96:=xcall0 f95 rfl rfl
        apply regS hS hX 1 rfl
        ·exact dp1 e96
        exact boomR rfl rfl rfl
       dsimp only at h
       have f93:=(hk 15 231 rfl).ret (x2,x3,x4,x70) q92 rfl rfl
       have e97:=ecall0 f93 rfl rfl rfl rfl
       refine rg hS [4] (di1 (ap0 231 hpf e97)) ?_
       cases h;exact ret fin
     refine seq ?_
     obtain⟨r98,q99,h⟩:=obs h
     have f100:=(hk 7 83 rfl).ret r8 q99 rfl rfl
     refine rg hS [0,1,4,6,44] (di1 (ap1 83 hpf f100)) ?_
     refine block ?_
     refine srg hS [0,1,4,6,44,45] di ?_
     refine ifs h (fun hb101 h=>?_) fun hb101 h=>?_
     ·refine seq ?_
      refine seq ?_
      obtain⟨r102,q103,h⟩:=obs h
      have f104:=(hk 7 83 rfl).ret r12 q103 rfl rfl
      refine rg hS [0,1,4,49] (di1 (ap1 83 hpf f104)) ?_
      refine ifk h (fun hb105 h=>?_) fun hb105 h=>?_
      ·refine seq ?_
       rcases bindX_some h with⟨n110,q108,rfl⟩|⟨⟨r106,x107⟩,q108,h⟩
       ·have f111:=(hk 5 224 rfl).boom (9,2,inCase1,x2,x3,x4,x5) q108 rfl rfl
        have e112:=xcall0 f111 rfl rfl
        apply regS hS hX 2 rfl
        ·exact dp1 e112
        exact boomR rfl rfl rfl
       dsimp only at h
       have f109:=(hk 5 224 rfl).ret (9,2,inCase1,x2,x3,x4,x5) q108 rfl rfl
       have e113:=ecall0 f109 rfl rfl rfl rfl
       refine rg hS [4] (di1 (ap0 224 hpf e113)) ?_
       cases h;exact ret fin
      ·refine seq ?_
       rcases bindX_some h with⟨n118,q116,rfl⟩|⟨⟨r114,x115⟩,q116,h⟩
       ·have f119:=(hk 8 226 rfl).boom (8,inCase1,x2,x3,x4,x5) q116 rfl rfl
        have e120:=xcall0 f119 rfl rfl
        apply regS hS hX 2 rfl
        ·exact dp1 e120
        exact boomR rfl rfl rfl
       dsimp only at h
       have f117:=(hk 8 226 rfl).ret (8,inCase1,x2,x3,x4,x5) q116 rfl rfl
       have e121:=ecall0 f117 rfl rfl rfl rfl
       refine rg hS [4] (di1 (ap0 226 hpf e121)) ?_
       cases h;exact ret fin
     ·refine srg hS [0,1,4,44,56] di ?_
      refine ifs h (fun hb122 h=>?_) fun hb122 h=>?_
      ·refine seq ?_
       rcases bindX_some h with⟨n127,q125,rfl⟩|⟨⟨r123,x124⟩,q125,h⟩
       ·have f128:=(hk 8 226 rfl).boom (11,inCase1,x2,x3,x4,x5) q125 rfl rfl
        have e129:=xcall0 f128 rfl rfl
        apply regS hS hX 2 rfl
        ·exact dp1 e129
        exact boomR rfl rfl rfl
       dsimp only at h
       have f126:=(hk 8 226 rfl).ret (11,inCase1,x2,x3,x4,x5) q125 rfl rfl
       have e130:=ecall0 f126 rfl rfl rfl rfl
       refine rg hS [4] (di1 (ap0 226 hpf e130)) ?_
       cases h;exact ret fin
      ·refine srg hS [0,1,4,44,61] di ?_
       refine ifs h (fun hb131 h=>?_) fun hb131 h=>?_
       ·refine seq ?_
        rcases bindX_some h with⟨n136,q134,rfl⟩|⟨⟨r132,x133⟩,q134,h⟩
        ·have f137:=(hk 9 227 rfl).boom (inCase1,x2,x3,x4,x5) q134 rfl rfl
         have e138:=xcall0 f137 rfl rfl
         apply regS hS hX 2 rfl
         ·exact dp1 e138
         exact boomR rfl rfl rfl
        dsimp only at h
        have f135:=(hk 9 227 rfl).ret (inCase1,x2,x3,x4,x5) q134 rfl rfl
        have e139:=ecall0 f135 rfl rfl rfl rfl
        refine rg hS [4] (di1 (ap0 227 hpf e139)) ?_
        cases h;exact ret fin
       ·refine srg hS [0,1,4,44,66] di ?_
        refine ifs h (fun hb140 h=>?_) fun hb140 h=>?_
        ·refine seq ?_
         rcases bindX_some h with⟨n145,q143,rfl⟩|⟨⟨r141,x142⟩,q143,h⟩
         ·have f146:=(hk 10 228 rfl).boom (x2,x3,x4,x5) q143 rfl rfl
          have e147:=xcall0 f146 rfl rfl
          apply regS hS hX 1 rfl
          ·exact dp1 e147
          exact boomR rfl rfl rfl
         dsimp only at h
         have f144:=(hk 10 228 rfl).ret (x2,x3,x4,x5) q143 rfl rfl
         have e148:=ecall0 f144 rfl rfl rfl rfl
         refine rg hS [4] (di1 (ap0 228 hpf e148)) ?_
         cases h;exact ret fin
        ·refine srg hS [0,1,4,44,70] di ?_
         refine ifs h (fun hb149 h=>?_) fun hb149 h=>?_
         ·refine seq ?_
          rcases bindX_some h with⟨n154,q152,rfl⟩|⟨⟨r150,x151⟩,q152,h⟩
          ·have f155:=(hk 11 229 rfl).boom (x2,x3,x4,x5) q152 rfl rfl
           have e156:=xcall0 f155 rfl rfl
           apply regS hS hX 1 rfl
           ·exact dp1 e156
           exact boomR rfl rfl rfl
          dsimp only at h
          have f153:=(hk 11 229 rfl).ret (x2,x3,x4,x5) q152 rfl rfl
          have e157:=ecall0 f153 rfl rfl rfl rfl
          refine rg hS [4] (di1 (ap0 229 hpf e157)) ?_
          cases h;exact ret fin
         ·refine srg hS [0,1,4,44,74] di ?_
          refine ifs h (fun hb158 h=>?_) fun hb158 h=>?_
          ·refine seq ?_
           rcases bindX_some h with⟨n163,q161,rfl⟩|⟨⟨r159,x160⟩,q161,h⟩
           ·have f164:=(hk 12 230 rfl).boom (x2,x3,x4,x5) q161 rfl rfl
            have e165:=xcall0 f164 rfl rfl
            apply regS hS hX 1 rfl
            ·exact dp1 e165
            exact boomR rfl rfl rfl
           dsimp only at h
           have f162:=(hk 12 230 rfl).ret (x2,x3,x4,x5) q161 rfl rfl
           have e166:=ecall0 f162 rfl rfl rfl rfl
           refine rg hS [4] (di1 (ap0 230 hpf e166)) ?_
           cases h;exact ret fin
          ·refine srg hS [0,1,4,78] di ?_
           refine ifk h (fun hb167 h=>?_) fun hb167 h=>?_
           ·refine srg hS [0,1,4] di ?_
            rcases bindX_some h with⟨n170,q168,rfl⟩|⟨_,q168,h⟩
            ·have f171:=(hk 13 48 rfl).boom (x2,x3,x4,IntKind.wrap .i64 (x5+1)) q168 rfl rfl
             have e172:=xcall0 f171 rfl rfl
             apply regS hS hX 1 rfl
             ·exact dp1 e172
             exact boomR rfl rfl rfl
            have f169:=(hk 13 48 rfl).ret (x2,x3,x4,IntKind.wrap .i64 (x5+1)) q168 rfl rfl
            have e173:=ecall0 f169 rfl rfl rfl rfl
            refine rg hS [0,1,4] (di1 (ap0 48 hpf e173)) ?_
            exact⟨(IntKind.wrap .i64 (x5+1)),h,(Weak.norm (m:=4) (Nat.le_of_ble_eq_true rfl) kp hq rfl rfl)⟩
           ·exact⟨x5,h,(Weak.norm (m:=4) (Nat.le_of_ble_eq_true rfl) kp hq rfl rfl)⟩
theorem g_F286{w252:Y1}(c:AllG env [(S84 F84),(S256 F256),(S127 F127),(S257 (F257 w252)),(S48 F48),(S255 F255)]):GoodH env (S286 (F286 w252)):=by
 obtain⟨O,X,hS,hX,hpf,hk⟩:=orp c
 have pf_127:O.pf 127=false:=pft hpf 127 rfl
 refine gh fn_286 46 ?_
 rintro⟨x1,x2,x3,x4⟩ (r:Int ⊕ (Word×Int)) h m em
 refine ghs em ?_;clear em m
 replace h:F286 w252 x1 x2 x3 x4=some r:=h
 rw[F286]at h
 refine srg hS [0,2] di ?_
 refine seq ?_
 obtain⟨r7,q8,h⟩:=obs h
 have f9:=(hk 0 84 rfl).ret (0,x1,x2,x3,x4) q8 rfl rfl
 have e10:=ecall0 f9 rfl rfl rfl rfl
 refine rg hS [0,2,3] (di1 (ap0 84 hpf e10)) ?_
 refine seq ?_
 rcases bindX_some h with⟨n15,q13,rfl⟩|⟨⟨r11,x12⟩,q13,h⟩
 ·have f16:=(hk 1 256 rfl).boom (x1,x2,x3,x4) q13 rfl rfl
  have e17:=xcall0 f16 rfl rfl
  apply regS hS hX 1 rfl
  ·exact dp1 e17
  exact boomR rfl rfl rfl
 dsimp only at h
 have f14:=(hk 1 256 rfl).ret (x1,x2,x3,x4) q13 rfl rfl
 have e18:=ecall0 f14 rfl rfl rfl rfl
 refine rg hS [0,2,3,4] (di1 (ap0 256 hpf e18)) ?_
 refine seq ?_
 refine seq ?_
 obtain⟨r19,q20,h⟩:=obs h
 have f21:=(hk 2 127 rfl).ret (([40]:Str),x1,x2,x3,x12) q20 rfl rfl
 try simp only[PVE]at f21
 have e22:=ecall0 f21 rfl rfl rfl rfl
 refine AW.cases (!r19) (fun hsp21=>?_) (fun hsp21=>?_)
 ·replace h:=bif_t hsp21 h
  refine dregV mixed hS [1,5,6] [(0,0),(1,0),(2,1),(3,1),(4,1),(5,1),(6,2),(7,1),(7,2),(7,3),(8,1),(8,2),(8,3),(9,1),(9,2),(9,3),(10,1),(10,2),(10,3),(11,1),(11,2),(11,3),(12,1),(12,2),(12,3),(13,3),(14,3)] [.ref 0 0,ab r19,ab (!r19),ab true,.tup [],.tup [],.tup [],.tup [],.tup [],.tup [],.tup [],.tup [],.tup [],.tup [],ab true] [[V2 x1 x2 x3 x12,V14 0 [] [],V1 r7,V15 2 r11 [] [] []],[V2 x1 x2 x3 x12,V14 0 [] [],V1 r7,V15 2 r11 [] [] []],[V2 x1 x2 x3 x12,V14 0 [] [],V1 r7,V15 2 r11 [] [] []],[V2 x1 x2 x3 x12,V14 0 [] [],V1 r7,V15 2 r11 [] [] []]] [(10,.ref 0 0),(11,ab r19),(12,ab (!r19)),(13,ab true),(14,.tup []),(15,.tup []),(16,.tup []),(17,.tup []),(18,.tup []),(19,.tup []),(20,.tup []),(21,.tup []),(22,.tup []),(23,.tup []),(24,ab true),(0,.ref 0 0),(2,.ref 1 0),(3,.ref 2 0),(4,.ref 3 0)] (by kernel_rfl) (by kernel_rfl) (by kernel_rfl) ?_ [(0,.ref 0 0),(2,.ref 1 0),(4,.ref 3 0),(24,ab true)] [V2 x1 x2 x3 x12,V14 0 [] [],V1 r7,V15 2 r11 [] [] []] ⟨rfl,rfl,rfl,rfl,trivial⟩ rfl ?_
  ·repeat'(first|exact Facts.nil|refine Facts.cons rfl rfl rfl ?_ ?_)
   all_goals exact dv1 (an pf_127 (an e22 hsp21))
  refine cond (b:=true) rfl (fun _=>?_) (fun hb=>absurd hb (by decide))
  refine srg hS [2] di ?_
  cases h;exact ret fin
 ·replace h:=bif_f hsp21 h
  obtain⟨r23,q24,h⟩:=obs h
  have f25:=(hk 0 84 rfl).ret (0,x1,x2,x3,x12) q24 rfl rfl
  have e26:=ecall0 f25 rfl rfl rfl rfl
  refine dregV mixed hS [1,5,6] [(0,0),(1,0),(2,1),(3,1),(4,1),(5,1),(6,2),(7,1),(7,2),(7,3),(8,1),(8,2),(8,3),(9,1),(9,2),(9,3),(10,1),(10,2),(10,3),(11,1),(11,2),(11,3),(12,1),(12,2),(12,3),(13,3),(14,3)] [.ref 0 0,ab r19,ab (!r19),ab false,.ref 0 0,.pv (V3 r23),ai r23.at_,.ref 2 1,ai r7.at_,.ref 2 2,as_ r7.text_,ai (r7.text_.length:Int),ai (IntKind.wrap .i64 (r7.at_+(r7.text_.length:Int))),ab (!decide (r23.at_=IntKind.wrap .i64 (r7.at_+(r7.text_.length:Int)))),ab (!decide (r23.at_=IntKind.wrap .i64 (r7.at_+(r7.text_.length:Int))))] [[V2 x1 x2 x3 x12,V14 0 [] [],V1 r7,V15 2 r11 [] [] []],[V2 x1 x2 x3 x12,V14 0 [] [],V1 r7,V15 2 r11 [] [] []],[V2 x1 x2 x3 x12,V14 0 [] [],V1 r7,V15 2 r11 [] [] []],[V2 x1 x2 x3 x12,V14 0 [] [],V1 r7,V15 2 r11 [] [] []]] [(10,.ref 0 0),(11,ab r19),(12,ab (!r19)),(13,ab false),(14,.ref 0 0),(15,.pv (V3 r23)),(16,ai r23.at_),(17,.ref 2 1),(18,ai r7.at_),(19,.ref 2 2),(20,as_ r7.text_),(21,ai (r7.text_.length:Int)),(22,ai (IntKind.wrap .i64 (r7.at_+(r7.text_.length:Int)))),(23,ab (!decide (r23.at_=IntKind.wrap .i64 (r7.at_+(r7.text_.length:Int))))),(24,ab (!decide (r23.at_=IntKind.wrap .i64 (r7.at_+(r7.text_.length:Int))))),(0,.ref 0 0),(2,.ref 1 0),(3,.ref 2 0),(4,.ref 3 0)] (by kernel_rfl) (by kernel_rfl) (by kernel_rfl) ?_ [(0,.ref 0 0),(2,.ref 1 0),(4,.ref 3 0),(24,ab (!decide (r23.at_=IntKind.wrap .i64 (r7.at_+(r7.text_.length:Int)))))] [V2 x1 x2 x3 x12,V14 0 [] [],V1 r7,V15 2 r11 [] [] []] ⟨rfl,rfl,rfl,rfl,trivial⟩ rfl ?_
  ·repeat'(first|exact Facts.nil|refine Facts.cons rfl rfl rfl ?_ ?_)
   all_goals exact dv1 (an pf_127 (an e22 (an hsp21 (ap0 84 hpf e26))))
  refine ifk h (fun hb27 h=>?_) fun hb27 h=>?_
  ·refine srg hS [2] di ?_
   cases h;exact ret fin
  ·refine srg hS [0,2,4] di ?_
   refine srg hS [0,2,4] di ?_
   refine seq ?_
   rcases bindX_some h with⟨n32,q30,rfl⟩|⟨⟨r28,x29⟩,q30,h⟩
   ·have f33:=(hk 3 257 rfl).boom (x1,x2,x3,IntKind.wrap .i64 (x12+1)) q30 rfl rfl
    have e34:=xcall0 f33 rfl rfl
    apply regS hS hX 1 rfl
    ·exact dp1 e34
    exact boomR rfl rfl rfl
   dsimp only at h
   have f31:=(hk 3 257 rfl).ret (x1,x2,x3,IntKind.wrap .i64 (x12+1)) q30 rfl rfl
   have e35:=ecall0 f31 rfl rfl rfl rfl
   refine rg hS [0,2,4] (di1 (ap0 257 hpf e35)) ?_
   refine seqJ (α:=Unit) (fun _=>⟨sl [(0,.ref 0 0),(2,.ref 1 0),(4,.ref 3 0)],46,[V2 x1 x2 x3 x29,V14 0 [] [],V1 r7,V15 7 r11 [] r28 []]⟩) (fun x=>F286_j1 x1 x2 x3 x29 r11 r28 x=some r) ?_ ?_
   ·intro _ h
    rw[F286_j1]at h
    try dsimp only at h
    refine AW.st ?_
    refine seq ?_
    rcases bindX_some h with⟨n40,q38,rfl⟩|⟨⟨r36,x37⟩,q38,h⟩
    ·have f41:=(hk 5 255 rfl).boom (([41]:Str),x1,x2,x3,x29) q38 rfl rfl
     have e42:=xcall0 f41 rfl rfl
     apply regS hS hX 1 rfl
     ·exact dp1 e42
     exact boomR rfl rfl rfl
    dsimp only at h
    have f39:=(hk 5 255 rfl).ret (([41]:Str),x1,x2,x3,x29) q38 rfl rfl
    try simp only[PVE]at f39
    have e43:=ecall0 f39 rfl rfl rfl rfl
    refine rg hS [2,4] (di1 (ap0 255 hpf e43)) ?_
    refine srg hS [2] di ?_
    cases h;exact ret fin
   refine srg hS [0,2,4,40] di ?_
   refine ifk h (fun hb44 h=>?_) fun hb44 h=>?_
   ·rcases bindX_some h with⟨n47,q45,rfl⟩|⟨_,q45,h⟩
    ·have f48:=(hk 4 48 rfl).boom (x1,x2,x3,x29) q45 rfl rfl
     have e49:=xcall0 f48 rfl rfl
     apply regS hS hX 1 rfl
     ·exact dp1 e49
     exact boomR rfl rfl rfl
    have f46:=(hk 4 48 rfl).ret (x1,x2,x3,x29) q45 rfl rfl
    have e50:=ecall0 f46 rfl rfl rfl rfl
    refine rg hS [0,2,4] (di1 (ap0 48 hpf e50)) ?_
    exact⟨(),h,(Weak.norm (m:=4) (Nat.le_of_ble_eq_true rfl) kp hq rfl rfl)⟩
   ·exact⟨(),h,(Weak.norm (m:=4) (Nat.le_of_ble_eq_true rfl) kp hq rfl rfl)⟩
theorem g_F274{w200:Y0}{w252:Y1}(c:AllG env [(S84 F84),(S129 F129),(S48 F48),(S286 (F286 w252)),(S256 F256),(S257 (F257 w252)),(S255 F255),(S253 (F253 w200))]):GoodH env (S274 (F274 w200 w252)):=by
 obtain⟨O,X,hS,hX,hpf,hk⟩:=orp c
 refine gh fn_274 54 ?_
 rintro⟨x1,x2,x3,x4⟩ (r:Int ⊕ (Word×Int)) h m em
 refine ghs em ?_;clear em m
 replace h:F274 w200 w252 x1 x2 x3 x4=some r:=h
 rw[F274]at h
 refine srg hS [0,2] di ?_
 refine seq ?_
 obtain⟨r7,q8,h⟩:=obs h
 have f9:=(hk 0 84 rfl).ret (0,x1,x2,x3,x4) q8 rfl rfl
 have e10:=ecall0 f9 rfl rfl rfl rfl
 refine rg hS [0,2,3] (di1 (ap0 84 hpf e10)) ?_
 refine seqJ (α:=Unit) (fun _=>⟨sl [(0,.ref 0 0),(2,.ref 1 0),(3,.ref 2 0)],54,[V2 x1 x2 x3 x4,V14 0 [] [],V1 r7]⟩) (fun x=>F274_j1 r7 x4 w252 x1 x2 x3 w200 x=some r) ?_ ?_
 ·intro _ h
  rw[F274_j1]at h
  try dsimp only at h
  refine AW.st ?_
  refine srg hS [0,2,3] di ?_
  refine seq ?_
  refine block ?_
  refine srg hS [0,2,3,19] di ?_
  refine ifs h (fun hb11 h=>?_) fun hb11 h=>?_
  ·refine srg hS [2] di ?_
   cases h;exact ret fin
  ·refine srg hS [0,2,3,28] di ?_
   refine ifs h (fun hb12 h=>?_) fun hb12 h=>?_
   ·refine seq ?_
    rcases bindX_some h with⟨n17,q15,rfl⟩|⟨⟨r13,x14⟩,q15,h⟩
    ·have f18:=(hk 3 286 rfl).boom (x1,x2,x3,IntKind.wrap .i64 (x4+1)) q15 rfl rfl
     have e19:=xcall0 f18 rfl rfl
     apply regS hS hX 1 rfl
     ·exact dp1 e19
     exact boomR rfl rfl rfl
    dsimp only at h
    have f16:=(hk 3 286 rfl).ret (x1,x2,x3,IntKind.wrap .i64 (x4+1)) q15 rfl rfl
    have e20:=ecall0 f16 rfl rfl rfl rfl
    refine rg hS [2] (di1 (ap0 286 hpf e20)) ?_
    cases h;exact ret fin
   ·refine srg hS [0,2,3,34] di ?_
    refine ifs h (fun hb21 h=>?_) fun hb21 h=>?_
    ·refine seq ?_
     rcases bindX_some h with⟨n26,q24,rfl⟩|⟨⟨r22,x23⟩,q24,h⟩
     ·have f27:=(hk 4 256 rfl).boom (x1,x2,x3,IntKind.wrap .i64 (x4+1)) q24 rfl rfl
      have e28:=xcall0 f27 rfl rfl
      apply regS hS hX 1 rfl
      ·exact dp1 e28
      exact boomR rfl rfl rfl
     dsimp only at h
     have f25:=(hk 4 256 rfl).ret (x1,x2,x3,IntKind.wrap .i64 (x4+1)) q24 rfl rfl
     have e29:=ecall0 f25 rfl rfl rfl rfl
     refine rg hS [2] (di1 (ap0 256 hpf e29)) ?_
     cases h;exact ret fin
    ·refine srg hS [0,2,41] di ?_
     refine ifk h (fun hb30 h=>?_) fun hb30 h=>?_
     ·refine seq ?_
      rcases bindX_some h with⟨n35,q33,rfl⟩|⟨⟨r31,x32⟩,q33,h⟩
      ·have f36:=(hk 5 257 rfl).boom (x1,x2,x3,IntKind.wrap .i64 (x4+1)) q33 rfl rfl
       have e37:=xcall0 f36 rfl rfl
       apply regS hS hX 1 rfl
       ·exact dp1 e37
       exact boomR rfl rfl rfl
      dsimp only at h
      have f34:=(hk 5 257 rfl).ret (x1,x2,x3,IntKind.wrap .i64 (x4+1)) q33 rfl rfl
      have e38:=ecall0 f34 rfl rfl rfl rfl
      refine rg hS [0,2,4] (di1 (ap0 257 hpf e38)) ?_
      refine seq ?_
      rcases bindX_some h with⟨n43,q41,rfl⟩|⟨⟨r39,x40⟩,q41,h⟩
      ·have f44:=(hk 6 255 rfl).boom (([41]:Str),x1,x2,x3,x32) q41 rfl rfl
       have e45:=xcall0 f44 rfl rfl
       apply regS hS hX 1 rfl
       ·exact dp1 e45
       exact boomR rfl rfl rfl
      dsimp only at h
      have f42:=(hk 6 255 rfl).ret (([41]:Str),x1,x2,x3,x32) q41 rfl rfl
      try simp only[PVE]at f42
      have e46:=ecall0 f42 rfl rfl rfl rfl
      refine rg hS [2,4] (di1 (ap0 255 hpf e46)) ?_
      refine srg hS [2] di ?_
      cases h;exact ret fin
     ·refine seq ?_
      rcases bindX_some h with⟨n51,q49,rfl⟩|⟨⟨r47,x48⟩,q49,h⟩
      ·have f52:=(hk 7 253 rfl).boom (x1,x2,x3,IntKind.wrap .i64 (x4+1)) q49 rfl rfl
       have e53:=xcall0 f52 rfl rfl
       apply regS hS hX 1 rfl
       ·exact dp1 e53
       exact boomR rfl rfl rfl
      dsimp only at h
      have f50:=(hk 7 253 rfl).ret (x1,x2,x3,IntKind.wrap .i64 (x4+1)) q49 rfl rfl
      have e54:=ecall0 f50 rfl rfl rfl rfl
      refine rg hS [2] (di1 (ap0 253 hpf e54)) ?_
      cases h;exact ret fin
 refine seq ?_
 obtain⟨r55,q56,h⟩:=obs h
 have f57:=(hk 1 129 rfl).ret r7 q56 rfl rfl
 refine rg hS [0,2,3,9] (di1 (ap1 129 hpf f57)) ?_
 refine ifk h (fun hb58 h=>?_) fun hb58 h=>?_
 ·rcases bindX_some h with⟨n61,q59,rfl⟩|⟨_,q59,h⟩
  ·have f62:=(hk 2 48 rfl).boom (x1,x2,x3,x4) q59 rfl rfl
   have e63:=xcall0 f62 rfl rfl
   apply regS hS hX 1 rfl
   ·exact dp1 e63
   exact boomR rfl rfl rfl
  have f60:=(hk 2 48 rfl).ret (x1,x2,x3,x4) q59 rfl rfl
  have e64:=ecall0 f60 rfl rfl rfl rfl
  refine rg hS [0,2,3] (di1 (ap0 48 hpf e64)) ?_
  exact⟨(),h,(Weak.norm (m:=3) (Nat.le_of_ble_eq_true rfl) kp hq rfl rfl)⟩
 ·exact⟨(),h,(Weak.norm (m:=3) (Nat.le_of_ble_eq_true rfl) kp hq rfl rfl)⟩
theorem g_F252{w200:Y0}{w252:Y1}(c:AllG env [(S274 (F274 w200 w252)),(S132 F132)]):GoodH env (S252 (F252 w200 w252)):=by
 obtain⟨O,X,hS,hX,hpf,hk⟩:=orp c
 have pf_274:O.pf 274=false:=pft hpf 274 rfl
 refine gh fn_252 22 ?_
 rintro⟨x1,x2,x3,x4⟩ (r:Int ⊕ (Word×Int)) h m em
 refine ghs em ?_;clear em m
 replace h:F252 w200 w252 x1 x2 x3 x4=some r:=h
 rw[F252]at h
 refine srg hS [0,2] di ?_
 refine seq ?_
 rcases bindX_some h with⟨n11,q9,rfl⟩|⟨⟨r7,x8⟩,q9,h⟩
 ·have f12:=(hk 0 274 rfl).boom (x1,x2,x3,x4) q9 rfl rfl
  have e13:=xcall0 f12 rfl rfl
  apply regS hS hX 1 rfl
  ·exact dp1 e13
  exact boomR rfl rfl rfl
 dsimp only at h
 have f10:=(hk 0 274 rfl).ret (x1,x2,x3,x4) q9 rfl rfl
 have e14:=ecall0 f10 rfl rfl rfl rfl
 refine reg hS [(0,.ref 0 0),(2,.ref 1 0),(3,.full [V10 r7])] [V2 x1 x2 x3 x8,V14 0 [] []] (dk1 (ap0 274 hpf e14)) ?_
 refine seq ?_
 refine block ?_
 refine AW.lp1 (α:=Nat×Int×(List Word)) (fun(_,x15,l16)=>⟨sl [(0,.ref 0 0),(2,.ref 1 0),(3,.vec 2 (List.length l16))],22,[V2 x1 x2 x3 x15,V14 0 [] [],rWo l16]⟩) (fun x=>iter (F252_b1 x1 x2 x3 w200 w252) x.1 x.2=some r) (fun x=>x.1) ?_ ?_
 ·refine seq ?_
  refine seq ?_
  obtain⟨⟨r42,x43⟩,q44,h⟩:=obs h
  dsimp only at h
  have f45:=(hk 1 132 rfl).ret (([94]:Str),x1,x2,x3,x8) q44 rfl rfl
  try simp only[PVE]at f45
  have e46:=ecall0 f45 rfl rfl rfl rfl
  refine rg hS [0,2,3,8] (di1 (ap0 132 hpf e46)) ?_
  refine ifs h (fun hb47 h=>?_) fun hb47 h=>?_
  ·refine skip ?_
   refine block ?_
   rcases bindX_some h with⟨n52,q50,rfl⟩|⟨⟨r48,x49⟩,q50,h⟩
   ·have f53:=(hk 0 274 rfl).boom (x1,x2,x3,x43) q50 rfl rfl
    have e54:=xcall0 f53 rfl rfl
    apply regS hS hX 2 rfl
    ·exact dp1 e54
    exact boomR rfl rfl rfl
   dsimp only at h
   have f51:=(hk 0 274 rfl).ret (x1,x2,x3,x43) q50 rfl rfl
   have e55:=ecall0 f51 rfl rfl rfl rfl
   obtain⟨out56,q57,h⟩:=obs h
   have f58:=appO_f q57
   try simp only[LNS,List.length_replicate,Nat.reduceAdd,Nat.reduceLeDiff,Nat.add_zero,Nat.reduceMul]at f58
   have f58m:=appO_m Word.pv q57
   try simp only[PVE,List.nil_append]at f58m
   have f58n:=appO_n q57
   try simp only[LNS]at f58n
   refine reg hS [(0,.ref 0 0),(2,.ref 1 0),(3,.vec 2 (List.length out56))] [V2 x1 x2 x3 x49,V14 0 [] [],rWo out56] (dk1 (an pf_274 (an e55 (an f58.1 (an f58m f58n))))) ?_
   clear f58
   clear f58m
   clear f58n
   exact⟨(BIG,(x49,out56)),h,(Weak.norm (m:=3) (Nat.le_of_ble_eq_true rfl) kp hq rfl rfl)⟩
  ·refine exit ?_
   refine seq ?_
   refine srg hS [2,3,16] di ?_
   refine ifk h (fun hb59 h=>?_) fun hb59 h=>?_
   ·refine srg hS [2] di ?_
    cases h;exact ret fin
   ·refine srg hS [2] di ?_
    cases h;exact ret fin
 clear h
 intro⟨n41,x15,l16⟩ h
 replace h:=iter_some h;obtain⟨m19,rfl,h⟩:=h
 rw[F252_b1]at h
 try dsimp only at h
 refine AW.st ?_
 refine seq ?_
 refine seq ?_
 obtain⟨⟨r20,x21⟩,q22,h⟩:=obs h
 dsimp only at h
 have f23:=(hk 1 132 rfl).ret (([94]:Str),x1,x2,x3,x15) q22 rfl rfl
 try simp only[PVE]at f23
 have e24:=ecall0 f23 rfl rfl rfl rfl
 refine rg hS [0,2,3,8] (di1 (ap0 132 hpf e24)) ?_
 refine ifs h (fun hb25 h=>?_) fun hb25 h=>?_
 ·refine skip ?_
  refine block ?_
  rcases bindX_some h with⟨n30,q28,rfl⟩|⟨⟨r26,x27⟩,q28,h⟩
  ·have f31:=(hk 0 274 rfl).boom (x1,x2,x3,x21) q28 rfl rfl
   have e32:=xcall0 f31 rfl rfl
   apply regS hS hX 2 rfl
   ·exact dp1 e32
   exact boomR rfl rfl rfl
  dsimp only at h
  have f29:=(hk 0 274 rfl).ret (x1,x2,x3,x21) q28 rfl rfl
  have e33:=ecall0 f29 rfl rfl rfl rfl
  obtain⟨out34,q35,h⟩:=obs h
  have f36:=appO_f q35
  try simp only[LNS,List.length_replicate,Nat.reduceAdd,Nat.reduceLeDiff,Nat.add_zero,Nat.reduceMul]at f36
  have f36m:=appO_m Word.pv q35
  try simp only[PVE,List.nil_append]at f36m
  have f36n:=appO_n q35
  try simp only[LNS]at f36n
  refine reg hS [(0,.ref 0 0),(2,.ref 1 0),(3,.vec 2 (List.length out34))] [V2 x1 x2 x3 x27,V14 0 [] [],rWo out34] (dk1 (an pf_274 (an e33 (an f36.1 (an f36m f36n))))) ?_
  clear f36
  clear f36m
  clear f36n
  exact⟨(m19,(x27,out34)),h,(Weak.norm (m:=3) (Nat.le_of_ble_eq_true rfl) kp hq rfl rfl),Nat.lt_succ_self _⟩
 ·refine exit ?_
  refine seq ?_
  refine srg hS [2,3,16] di ?_
  refine ifk h (fun hb37 h=>?_) fun hb37 h=>?_
  ·refine seq ?_
   obtain⟨u38,q39,h⟩:=obs h
   have f40:=lidx_f q39
   try simp only[NRM,Int.reduceToNat]at f40
   refine rg hS [2] (di1 (an f40.1 (an f40.2.1 f40.2.2))) ?_
   cases h;exact ret fin
  ·refine srg hS [2] di ?_
   cases h;exact ret fin
theorem g_F32(c:AllG env []):GoodH env (S32 F32):=by
 obtain⟨O,X,hS,hX,hpf,hk⟩:=orp c
 refine gh fn_32 11 ?_
 rintro(r1:Redir) (r:Bool) h m em
 refine ghs em ?_;clear em m
 replace h:F32 r1=some r:=h
 rw[F32]at h
 refine srg hS [1] di ?_
 refine seq ?_
 refine reg hS [(2,ab (!decide (r1.kind_=5)&&!decide (r1.kind_=6)))] [V16 r1] ?_ ?_
 ·clear h hk hS hX c
  exact dh
 cases h;exact ret fin
theorem g_F15{w15:Y6}{w31:Y8}(c:AllG env [(S15 w15),(S31 w31),(S32 F32)]):GoodH env (S15 (F15 w15 w31)):=by
 obtain⟨O,X,hS,hX,hpf,hk⟩:=orp c
 refine gh fn_15 55 ?_
 rintro(l1:(List Cmd)) (r:Int) h m em
 refine ghs em ?_;clear em m
 replace h:F15 w15 w31 l1=some r:=h
 rw[F15]at h
 refine srg hS [0] di ?_
 refine srg hS [0,3] di ?_
 refine seq ?_
 refine srg hS [3,10,11,12] di ?_
 refine block ?_
 refine lp (α:=Nat×Int×Int) (fun(_,n3,i4)=>⟨sl [(3,ai n3),(10,vC l1),(11,ai (l1.length:Int)),(12,ai i4)],55,[]⟩) (fun x=>iter (F15_b3 l1 w15 w31) x.1 x.2=some r) (fun x=>x.1) (BIG,(0,0)) (Weak.slots kp) h ?_
 clear h
 intro⟨n45,n3,i4⟩ h
 replace h:=iter_some h;obtain⟨m7,rfl,h⟩:=h
 rw[F15_b3]at h
 try dsimp only at h
 refine AW.st ?_
 refine srg hS [3,10,11,12,13] di ?_
 refine seq ?_
 refine ifs h (fun hb8 h=>?_) fun hb8 h=>?_
 ·refine skip ?_
  refine seq ?_
  refine block ?_
  refine seq ?_
  obtain⟨u9,q10,h⟩:=obs h
  have f11:=lidx_f q10
  refine rg hS [3,5,10,11,12] (di1 (an f11.1 f11.2.1)) ?_
  refine seq ?_
  obtain⟨r12,q13,h⟩:=obs h
  have f14:=(hk 0 15 rfl).ret u9.kids_ q13 rfl rfl
  apply dgk mixed hS [3,5,10,11,12] (ordp hpf (by kernel_rfl))
  ·exact di1 (ap1 15 hpf f14)
  refine seq ?_
  refine srg hS [3,5,10,11,12,27,28,29] di ?_
  refine block ?_
  refine lp (α:=Nat×Int×Int) (fun(_,n15,i16)=>⟨sl [(3,ai n15),(5,.ref 0 0),(10,vC l1),(11,ai (l1.length:Int)),(12,ai i4),(27,vWo u9.words_),(28,ai (u9.words_.length:Int)),(29,ai i16)],55,[V6 u9]⟩) (fun x=>iter (F15_b4 u9 w31 (iter (F15_b3 l1 w15 w31) m7) i4) x.1 x.2=some r) (fun x=>x.1) (BIG,(IntKind.wrap .i64 (n3+(IntKind.wrap .i64 ((IntKind.wrap .i64 (1+(u9.redirs_.length:Int)))+r12))),0)) (Weak.slots kp) h ?_
  clear h
  intro⟨n44,n15,i16⟩ h
  replace h:=iter_some h;obtain⟨m19,rfl,h⟩:=h
  rw[F15_b4]at h
  try dsimp only at h
  refine AW.st ?_
  refine srg hS [3,5,10,11,12,27,28,29,30] di ?_
  refine seq ?_
  refine ifs h (fun hb20 h=>?_) fun hb20 h=>?_
  ·refine skip ?_
   refine seq ?_
   refine block ?_
   refine seq ?_
   obtain⟨u21,q22,h⟩:=obs h
   have f23:=lidx_f q22
   refine rg hS [3,5,7,10,11,12,27,28,29] (di1 (an f23.1 f23.2.1)) ?_
   obtain⟨r24,q25,h⟩:=obs h
   have f26:=(hk 1 31 rfl).ret u21 q25 rfl rfl
   refine rg hS [3,5,10,11,12,27,28,29] (di1 (ap1 31 hpf f26)) ?_
   refine rg hS [3,5,10,11,12,27,28,29] di ?_
   exact⟨(m19,(IntKind.wrap .i64 (n15+r24),IntKind.wrap .i64 (i16+1))),h,(Weak.norm (m:=1) (Nat.le_of_ble_eq_true rfl) kp hq rfl rfl),Nat.lt_succ_self _⟩
  ·refine exit ?_
   refine srg hS [3,10,11,12,39,40,41] di ?_
   refine block ?_
   refine lp (α:=Nat×Int×Int) (fun(_,n27,i28)=>⟨sl [(3,ai n27),(10,vC l1),(11,ai (l1.length:Int)),(12,ai i4),(39,vRe u9.redirs_),(40,ai (u9.redirs_.length:Int)),(41,ai i28)],55,[V6 u9]⟩) (fun x=>iter (F15_b5 u9 w31 (iter (F15_b3 l1 w15 w31) m7) i4) x.1 x.2=some r) (fun x=>x.1) (BIG,(n15,0)) (Weak.slots kp) h ?_
   clear h
   intro⟨n43,n27,i28⟩ h
   replace h:=iter_some h;obtain⟨m31,rfl,h⟩:=h
   rw[F15_b5]at h
   try dsimp only at h
   refine AW.st ?_
   refine srg hS [3,10,11,12,39,40,41,42] di ?_
   refine seq ?_
   refine ifs h (fun hb32 h=>?_) fun hb32 h=>?_
   ·refine skip ?_
    refine seq ?_
    refine block ?_
    refine seq ?_
    obtain⟨u33,q34,h⟩:=obs h
    have f35:=lidx_f q34
    refine rg hS [3,9,10,11,12,39,40,41] (di1 (an f35.1 f35.2.1)) ?_
    refine seq ?_
    obtain⟨r36,q37,h⟩:=obs h
    have f38:=(hk 2 32 rfl).ret u33 q37 rfl rfl
    refine rg hS [3,9,10,11,12,39,40,41,46] (di1 (ap1 32 hpf f38)) ?_
    refine ifk h (fun hb39 h=>?_) fun hb39 h=>?_
    ·obtain⟨r40,q41,h⟩:=obs h
     have f42:=(hk 1 31 rfl).ret u33.word_ q41 rfl rfl
     refine rg hS [3,10,11,12,39,40,41] (di1 (ap1 31 hpf f42)) ?_
     refine rg hS [3,10,11,12,39,40,41] di ?_
     exact⟨(m31,(IntKind.wrap .i64 (n27+r40),IntKind.wrap .i64 (i28+1))),h,(Weak.norm (m:=1) (Nat.le_of_ble_eq_true rfl) kp hq rfl rfl),Nat.lt_succ_self _⟩
    ·refine rg hS [3,10,11,12,39,40,41] di ?_
     exact⟨(m31,(n27,IntKind.wrap .i64 (i28+1))),h,(Weak.norm (m:=1) (Nat.le_of_ble_eq_true rfl) kp hq rfl rfl),Nat.lt_succ_self _⟩
   ·refine exit ?_
    refine rg hS [3,10,11,12] di ?_
    exact⟨(m7,(n27,IntKind.wrap .i64 (i4+1))),h,(Weak.norm (m:=0) (Nat.le_of_ble_eq_true rfl) kp hq rfl rfl),Nat.lt_succ_self _⟩
 ·refine exit ?_
  refine srg hS [2] di ?_
  cases h;exact ret fin
theorem g_F31{w15:Y6}{w31:Y8}(c:AllG env [(S15 w15),(S31 w31)]):GoodH env (S31 (F31 w15 w31)):=by
 obtain⟨O,X,hS,hX,hpf,hk⟩:=orp c
 refine gh fn_31 23 ?_
 rintro(w1:Word) (r:Int) h m em
 refine ghs em ?_;clear em m
 replace h:F31 w15 w31 w1=some r:=h
 rw[F31]at h
 refine srg hS [1] di ?_
 refine seq ?_
 obtain⟨r3,q4,h⟩:=obs h
 have f5:=(hk 0 15 rfl).ret w1.cmd_ q4 rfl rfl
 refine rg hS [1,3] (di1 (ap1 15 hpf f5)) ?_
 refine seq ?_
 refine srg hS [3,11,12,13] di ?_
 refine block ?_
 refine lp (α:=Nat×Int×Int) (fun(_,n6,i7)=>⟨sl [(3,ai n6),(11,vWo w1.words_),(12,ai (w1.words_.length:Int)),(13,ai i7)],23,[V17 w1]⟩) (fun x=>iter (F31_b1 w1 w31) x.1 x.2=some r) (fun x=>x.1) (BIG,(IntKind.wrap .i64 (1+r3),0)) (Weak.slots kp) h ?_
 clear h
 intro⟨n18,n6,i7⟩ h
 replace h:=iter_some h;obtain⟨m10,rfl,h⟩:=h
 rw[F31_b1]at h
 try dsimp only at h
 refine AW.st ?_
 refine srg hS [3,11,12,13,14] di ?_
 refine seq ?_
 refine ifs h (fun hb11 h=>?_) fun hb11 h=>?_
 ·refine skip ?_
  refine seq ?_
  refine block ?_
  refine seq ?_
  obtain⟨u12,q13,h⟩:=obs h
  have f14:=lidx_f q13
  refine rg hS [3,5,11,12,13] (di1 (an f14.1 f14.2.1)) ?_
  obtain⟨r15,q16,h⟩:=obs h
  have f17:=(hk 1 31 rfl).ret u12 q16 rfl rfl
  refine rg hS [3,11,12,13] (di1 (ap1 31 hpf f17)) ?_
  refine rg hS [3,11,12,13] di ?_
  exact⟨(m10,(IntKind.wrap .i64 (n6+r15),IntKind.wrap .i64 (i7+1))),h,(Weak.norm (m:=1) (Nat.le_of_ble_eq_true rfl) kp hq rfl rfl),Nat.lt_succ_self _⟩
 ·refine exit ?_
  refine srg hS [2] di ?_
  cases h;exact ret fin
theorem g_F51{w51:Y11}{w86:Y8}(c:AllG env [(S51 w51),(S86 w86),(S32 F32)]):GoodH env (S51 (F51 w51 w86)):=by
 obtain⟨O,X,hS,hX,hpf,hk⟩:=orp c
 refine gh fn_51 51 ?_
 rintro(c1:Cmd) (r:Int) h m em
 refine ghs em ?_;clear em m
 replace h:F51 w51 w86 c1=some r:=h
 rw[F51]at h
 refine srg hS [1] di ?_
 refine srg hS [1,3] di ?_
 refine seq ?_
 refine srg hS [1,3,11,12,13] di ?_
 refine block ?_
 refine lp (α:=Nat×Int×Int) (fun(_,n3,i4)=>⟨sl [(1,.ref 0 0),(3,ai n3),(11,vC c1.kids_),(12,ai (c1.kids_.length:Int)),(13,ai i4)],51,[V6 c1]⟩) (fun x=>iter (F51_b1 c1 w51 w86) x.1 x.2=some r) (fun x=>x.1) (BIG,(0,0)) (Weak.slots kp) h ?_
 clear h
 intro⟨n45,n3,i4⟩ h
 replace h:=iter_some h;obtain⟨m7,rfl,h⟩:=h
 rw[F51_b1]at h
 try dsimp only at h
 refine AW.st ?_
 refine srg hS [1,3,11,12,13,14] di ?_
 refine seq ?_
 refine ifs h (fun hb8 h=>?_) fun hb8 h=>?_
 ·refine skip ?_
  refine seq ?_
  refine block ?_
  refine seq ?_
  obtain⟨u9,q10,h⟩:=obs h
  have f11:=lidx_f q10
  refine rg hS [1,3,5,11,12,13] (di1 (an f11.1 f11.2.1)) ?_
  obtain⟨r12,q13,h⟩:=obs h
  have f14:=(hk 0 51 rfl).ret u9 q13 rfl rfl
  refine reg hS [(1,.ref 0 0),(3,ai (imax n3 r12)),(11,vC c1.kids_),(12,ai (c1.kids_.length:Int)),(13,ai i4)] [V6 c1,V6 u9] (dk1 (ap1 51 hpf f14)) ?_
  refine rg hS [1,3,11,12,13] di ?_
  exact⟨(m7,(imax n3 r12,IntKind.wrap .i64 (i4+1))),h,(Weak.norm (m:=1) (Nat.le_of_ble_eq_true rfl) kp hq rfl rfl),Nat.lt_succ_self _⟩
 ·refine exit ?_
  refine seq ?_
  refine srg hS [1,3,23,24,25] di ?_
  refine block ?_
  refine lp (α:=Nat×Int×Int) (fun(_,n15,i16)=>⟨sl [(1,.ref 0 0),(3,ai n15),(23,vWo c1.words_),(24,ai (c1.words_.length:Int)),(25,ai i16)],51,[V6 c1]⟩) (fun x=>iter (F51_b2 c1 w86) x.1 x.2=some r) (fun x=>x.1) (BIG,(n3,0)) (Weak.slots kp) h ?_
  clear h
  intro⟨n44,n15,i16⟩ h
  replace h:=iter_some h;obtain⟨m19,rfl,h⟩:=h
  rw[F51_b2]at h
  try dsimp only at h
  refine AW.st ?_
  refine srg hS [1,3,23,24,25,26] di ?_
  refine seq ?_
  refine ifs h (fun hb20 h=>?_) fun hb20 h=>?_
  ·refine skip ?_
   refine seq ?_
   refine block ?_
   refine seq ?_
   obtain⟨u21,q22,h⟩:=obs h
   have f23:=lidx_f q22
   refine rg hS [1,3,7,23,24,25] (di1 (an f23.1 f23.2.1)) ?_
   obtain⟨r24,q25,h⟩:=obs h
   have f26:=(hk 1 86 rfl).ret u21 q25 rfl rfl
   refine reg hS [(1,.ref 0 0),(3,ai (imax n15 r24)),(23,vWo c1.words_),(24,ai (c1.words_.length:Int)),(25,ai i16)] [V6 c1,V17 u21] (dk1 (ap1 86 hpf f26)) ?_
   refine rg hS [1,3,23,24,25] di ?_
   exact⟨(m19,(imax n15 r24,IntKind.wrap .i64 (i16+1))),h,(Weak.norm (m:=1) (Nat.le_of_ble_eq_true rfl) kp hq rfl rfl),Nat.lt_succ_self _⟩
  ·refine exit ?_
   refine seq ?_
   refine srg hS [3,35,36,37] di ?_
   refine block ?_
   refine lp (α:=Nat×Int×Int) (fun(_,n27,i28)=>⟨sl [(3,ai n27),(35,vRe c1.redirs_),(36,ai (c1.redirs_.length:Int)),(37,ai i28)],51,[V6 c1]⟩) (fun x=>iter (F51_b3 c1 w86) x.1 x.2=some r) (fun x=>x.1) (BIG,(n15,0)) (Weak.slots kp) h ?_
   clear h
   intro⟨n43,n27,i28⟩ h
   replace h:=iter_some h;obtain⟨m31,rfl,h⟩:=h
   rw[F51_b3]at h
   try dsimp only at h
   refine AW.st ?_
   refine srg hS [3,35,36,37,38] di ?_
   refine seq ?_
   refine ifs h (fun hb32 h=>?_) fun hb32 h=>?_
   ·refine skip ?_
    refine seq ?_
    refine block ?_
    refine seq ?_
    obtain⟨u33,q34,h⟩:=obs h
    have f35:=lidx_f q34
    refine rg hS [3,9,35,36,37] (di1 (an f35.1 f35.2.1)) ?_
    refine seq ?_
    obtain⟨r36,q37,h⟩:=obs h
    have f38:=(hk 2 32 rfl).ret u33 q37 rfl rfl
    refine rg hS [3,9,35,36,37,42] (di1 (ap1 32 hpf f38)) ?_
    refine ifk h (fun hb39 h=>?_) fun hb39 h=>?_
    ·obtain⟨r40,q41,h⟩:=obs h
     have f42:=(hk 1 86 rfl).ret u33.word_ q41 rfl rfl
     refine reg hS [(3,ai (imax n27 r40)),(35,vRe c1.redirs_),(36,ai (c1.redirs_.length:Int)),(37,ai i28)] [V6 c1,V16 u33] (dk1 (ap1 86 hpf f42)) ?_
     refine rg hS [3,35,36,37] di ?_
     exact⟨(m31,(imax n27 r40,IntKind.wrap .i64 (i28+1))),h,(Weak.norm (m:=1) (Nat.le_of_ble_eq_true rfl) kp hq rfl rfl),Nat.lt_succ_self _⟩
    ·refine rg hS [3,35,36,37] di ?_
     exact⟨(m31,(n27,IntKind.wrap .i64 (i28+1))),h,(Weak.norm (m:=1) (Nat.le_of_ble_eq_true rfl) kp hq rfl rfl),Nat.lt_succ_self _⟩
   ·refine exit ?_
    refine srg hS [2] di ?_
    cases h;exact ret fin
theorem g_F86{w51:Y11}{w86:Y8}(c:AllG env [(S86 w86),(S51 w51)]):GoodH env (S86 (F86 w51 w86)):=by
 obtain⟨O,X,hS,hX,hpf,hk⟩:=orp c
 refine gh fn_86 34 ?_
 rintro(w1:Word) (r:Int) h m em
 refine ghs em ?_;clear em m
 replace h:F86 w51 w86 w1=some r:=h
 rw[F86]at h
 refine srg hS [1] di ?_
 refine srg hS [1,3] di ?_
 refine seq ?_
 refine srg hS [1,3,9,10,11] di ?_
 refine block ?_
 refine lp (α:=Nat×Int×Int) (fun(_,n3,i4)=>⟨sl [(1,.ref 0 0),(3,ai n3),(9,vWo w1.words_),(10,ai (w1.words_.length:Int)),(11,ai i4)],34,[V17 w1]⟩) (fun x=>iter (F86_b1 w1 w86 w51) x.1 x.2=some r) (fun x=>x.1) (BIG,(0,0)) (Weak.slots kp) h ?_
 clear h
 intro⟨n28,n3,i4⟩ h
 replace h:=iter_some h;obtain⟨m7,rfl,h⟩:=h
 rw[F86_b1]at h
 try dsimp only at h
 refine AW.st ?_
 refine srg hS [1,3,9,10,11,12] di ?_
 refine seq ?_
 refine ifs h (fun hb8 h=>?_) fun hb8 h=>?_
 ·refine skip ?_
  refine seq ?_
  refine block ?_
  refine seq ?_
  obtain⟨u9,q10,h⟩:=obs h
  have f11:=lidx_f q10
  refine rg hS [1,3,5,9,10,11] (di1 (an f11.1 f11.2.1)) ?_
  obtain⟨r12,q13,h⟩:=obs h
  have f14:=(hk 0 86 rfl).ret u9 q13 rfl rfl
  refine reg hS [(1,.ref 0 0),(3,ai (imax n3 r12)),(9,vWo w1.words_),(10,ai (w1.words_.length:Int)),(11,ai i4)] [V17 w1,V17 u9] (dk1 (ap1 86 hpf f14)) ?_
  refine rg hS [1,3,9,10,11] di ?_
  exact⟨(m7,(imax n3 r12,IntKind.wrap .i64 (i4+1))),h,(Weak.norm (m:=1) (Nat.le_of_ble_eq_true rfl) kp hq rfl rfl),Nat.lt_succ_self _⟩
 ·refine exit ?_
  refine seq ?_
  refine srg hS [3,21,22,23] di ?_
  refine block ?_
  refine lp (α:=Nat×Int×Int) (fun(_,n15,i16)=>⟨sl [(3,ai n15),(21,vC w1.cmd_),(22,ai (w1.cmd_.length:Int)),(23,ai i16)],34,[V17 w1]⟩) (fun x=>iter (F86_b2 w1 w51) x.1 x.2=some r) (fun x=>x.1) (BIG,(n3,0)) (Weak.slots kp) h ?_
  clear h
  intro⟨n27,n15,i16⟩ h
  replace h:=iter_some h;obtain⟨m19,rfl,h⟩:=h
  rw[F86_b2]at h
  try dsimp only at h
  refine AW.st ?_
  refine srg hS [3,21,22,23,24] di ?_
  refine seq ?_
  refine ifs h (fun hb20 h=>?_) fun hb20 h=>?_
  ·refine skip ?_
   refine seq ?_
   refine block ?_
   refine seq ?_
   obtain⟨u21,q22,h⟩:=obs h
   have f23:=lidx_f q22
   refine rg hS [3,7,21,22,23] (di1 (an f23.1 f23.2.1)) ?_
   obtain⟨r24,q25,h⟩:=obs h
   have f26:=(hk 1 51 rfl).ret u21 q25 rfl rfl
   refine reg hS [(3,ai (imax n15 r24)),(21,vC w1.cmd_),(22,ai (w1.cmd_.length:Int)),(23,ai i16)] [V17 w1,V6 u21] (dk1 (ap1 51 hpf f26)) ?_
   refine rg hS [3,21,22,23] di ?_
   exact⟨(m19,(imax n15 r24,IntKind.wrap .i64 (i16+1))),h,(Weak.norm (m:=1) (Nat.le_of_ble_eq_true rfl) kp hq rfl rfl),Nat.lt_succ_self _⟩
  ·refine exit ?_
   refine srg hS [2] di ?_
   cases h;exact ret fin
theorem g_F50(c:AllG env [(S51 (K51 BIG))]):GoodH env (S50 F50):=by
 obtain⟨O,X,hS,hX,hpf,hk⟩:=orp c
 refine gh fn_50 6 ?_
 rintro(c1:Cmd) (r:Bool) h m em
 refine ghs em ?_;clear em m
 replace h:F50 c1=some r:=h
 rw[F50]at h
 refine srg hS [1] di ?_
 refine seq ?_
 obtain⟨r3,q4,h⟩:=obs h
 have f5:=hk 0 51 rfl
 replace f5:=f5.ret c1 q4 rfl rfl
 refine rg hS [2] (di1 (ap1 51 hpf f5)) ?_
 cases h;exact ret fin
theorem g_F85(c:AllG env [(S50 F50)]):GoodH env (S85 F85):=by
 obtain⟨O,X,hS,hX,hpf,hk⟩:=orp c
 refine gh fn_85 19 ?_
 rintro(s1:(List Cmd)) (r:Int) h m em
 refine ghs em ?_;clear em m
 replace h:F85 s1=some r:=h
 rw[F85]at h
 refine srg hS [0,1] di ?_
 refine seq ?_
 refine srg hS [0,1,7,8] di ?_
 refine block ?_
 refine lp (α:=Nat×Int) (fun(_,i3)=>⟨sl [(0,vC s1),(1,.fn 50 []),(7,ai (s1.length:Int)),(8,ai i3)],19,[]⟩) (fun x=>iter (F85_b1 s1) x.1 x.2=some r) (fun x=>x.1) (BIG,0) (Weak.slots kp) h ?_
 clear h
 intro⟨n15,i3⟩ h
 replace h:=iter_some h;obtain⟨m6,rfl,h⟩:=h
 rw[F85_b1]at h
 try dsimp only at h
 refine AW.st ?_
 refine srg hS [0,1,7,8,9] di ?_
 refine seq ?_
 refine ifs h (fun hb7 h=>?_) fun hb7 h=>?_
 ·refine skip ?_
  refine seq ?_
  refine block ?_
  refine srg hS [0,1,5,7,8] di ?_
  refine seq ?_
  obtain⟨u8,q9,h⟩:=obs h
  have f10:=lidx_f q9
  obtain⟨r11,q12,h⟩:=obs h
  have f13:=(hk 0 50 rfl).ret u8 q12 rfl rfl
  refine rg hS [0,1,5,7,8,16] (di1 (an f10.1 (an f10.2.1 (ap1 50 hpf f13)))) ?_
  refine ifk h (fun hb14 h=>?_) fun hb14 h=>?_
  ·refine srg hS [4] di ?_
   cases h;exact ret fin
  ·refine rg hS [0,1,7,8] di ?_
   exact⟨(m6,IntKind.wrap .i64 (i3+1)),h,(Weak.norm (m:=0) (Nat.le_of_ble_eq_true rfl) kp hq rfl rfl),Nat.lt_succ_self _⟩
 ·refine exit ?_
  refine srg hS [4] di ?_
  cases h;exact ret fin
end Go.Abs.U48
