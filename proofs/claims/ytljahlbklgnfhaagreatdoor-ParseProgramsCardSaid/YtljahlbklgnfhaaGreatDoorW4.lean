import Derived.Test.YtljahlbklgnfhaaGreatDoorD1
set_option linter.unusedVariables false
set_option linter.unusedSimpArgs false
set_option maxRecDepth 8000
set_option maxHeartbeats 4000000
namespace Go.Abs.U48
open Go.RowKit Go.Proofs AW
theorem K8c(c:AllG env [S84,S133,S144,S48]):Q0c env S256:=by
 refine hd c V2m 26 λO X hS hX hpf hk ⟨d,e,f,g⟩=>λr (h:F256 d e f g=some r)=>gs ?_
 rw[F256]at h
 refine R [0] ?_
 refine seq (Ua1 h [0,3] (Z5 hk 0 rfl) λa h=>?_)
 obtain⟨i,j,h⟩:=oc h (Zt hk 1 133 a)
 obtain⟨k,b,h⟩:=obs h
 replace b:=Q0d b
 have l:=λm=>(hk 2 144 rfl).ret a.text_ (b m) rfl rfl
 refine seq (seq ?_)
 refine reg hS [(0,.ref 0 0),(3,.ref 1 0),(14,ab (!i||!k))] [V4 d e f g,V1 a] ?_ ?_
 ·clear h hk hS hX c
  exact dh1 (an (ca j) (ap1 144 hpf l))
 refine ik h (λh=>?_) λh=>?_
 ·refine Xa1 h [0,3] (Z4 hk 3 rfl) 1 λ_ h=>?_
  refine R [3] ?_
  exact Rt h [2]
 refine R [3] ?_
 exact Rt h [2]
theorem K8b{a:Y1}(c:AllG env [S168,S84,S129,S252 a]):Q0c env (S257 a):=by
 refine hd c V2l 16 λO X hS hX hpf hk ⟨d,e,f,i⟩=>λr (h:F257 a d e f i=some r)=>gs ?_
 rw[F257]at h
 refine R [0] ?_
 refine seq (rg hS [0,3] di ?_)
 refine weak (Weak.own 3 49 5 (by decide) rfl) ?_
 refine weak (Weak.slots (L:=[(0,.ref 0 0),(3,.vec 1 (List.length ([]:List Word)))]) ⟨rfl,rfl,trivial⟩) ?_
 refine block (Lp h (λ(g,b)=>⟨sl [(0,.ref 0 0),(3,.vec 1 (List.length b))],16,[V4 d e f g,rWo b]⟩) ?_)
 clear h
 rintro⟨g,b⟩ o h
 rw[Q3n]at h
 try dsimp only at h
 refine AW.st (block ?_)
 refine seq (Ua1 h [0,3] (Z4 hk 0 rfl) λp h=>?_)
 obtain⟨j,k,h⟩:=oc h (Z5 hk 1 rfl)
 obtain⟨q,l,h⟩:=oc h (Zt hk 2 129 j)
 refine seq (seq ?_)
 refine rg hS [0,3,9] (di1 (an (cb k) (ca l))) ?_
 refine ik h (λh=>?_) λh=>?_
 ·exact Rt h [2]
 refine xb h (Z4 hk 3 rfl) 2 ?_
 rintro⟨s,t⟩ m h
 replace h:=ap Word.pv h;obtain⟨u,n,h⟩:=h
 refine rg hS [0,3] (di1 (an (cb m) n)) ?_
 exact nx h
theorem K8q{a:Y0}{b:Y1}(c:AllG env [S84,S255,S256,S83,S257 b,S168,S200 a]):Q0c env (S227 a b):=by
 refine hd c V2z 49 λO X hS hX hpf hk ⟨d,e,f,g,i⟩=>λr (h:F227 a b d e f g i=some r)=>gs ?_
 rw[F227]at h
 refine R [0,1,4] ?_
 refine seq (Ua1 h [0,1,4,5] (Z5 hk 0 rfl) λo h=>?_)
 refine R [0,1,4,5] ?_
 refine seq (Xa2 h [0,1,4,5] (Z5 hk 1 rfl) 1 λp q h=>?_)
 refine seq (Xa2 h [0,1,4,5] (Z4 hk 2 rfl) 1 λs t h=>?_)
 obtain⟨j,k,h⟩:=oc h (Z5 hk 0 rfl)
 obtain⟨u,l,h⟩:=oc h (Zt hk 3 83 j)
 refine seq (seq ?_)
 refine rg hS [0,1,4,5,25] (di1 (an (cb k) (ca l))) ?_
 refine iz h (λh=>?_) λh=>?_
 ·refine R [0,1,4,5] ?_
  refine Xa2 h [0,1,4,5] (Z4 hk 4 rfl) 1 λw x h=>?_
  refine seq (Xa2 h [0,1,4,5] (Z5 hk 1 rfl) 1 λy z h=>?_)
  refine seq (Ua1 h [0,1,4,5] (Z4 hk 5 rfl) λA h=>?_)
  refine seq (xb h (Z5 hk 6 rfl) 2 ?_)
  rintro⟨C,D⟩ m h
  refine rg hS [4,5] (di1 (cb m)) ?_
  exact Rt h [4]
 refine rg hS [0,1,4,5] di ?_
 refine seq (Xa2 h [0,1,4,5] (Z5 hk 1 rfl) 1 λE F h=>?_)
 refine seq (Ua1 h [0,1,4,5] (Z4 hk 5 rfl) λH h=>?_)
 refine seq (xb h (Z5 hk 6 rfl) 2 ?_)
 rintro⟨I,J⟩ n h
 refine rg hS [4,5] (di1 (cb n)) ?_
 exact Rt h [4]
theorem K8a{j:Y0}{k:Y1}(c:AllG env [S84,S252 k,S129,S80,S47 j]):Q0c env (S258 j k):=by
 refine hd c V2k 35 λO X hS hX hpf hk ⟨a,b,d,w⟩=>λr (h:F258 j k a b d w=some r)=>?_
 have t:O.pf 252=false:=pft hpf 252 rfl
 refine gs ?_
 rw[F258]at h
 refine R [0,2] ?_
 refine seq (Ua1 h [0,2,3] (Z5 hk 0 rfl) λe h=>?_)
 refine R [0,2,3] ?_
 refine seq (xb h (Z4 hk 1 rfl) 1 ?_)
 rintro⟨f,o⟩ x h
 refine rg hS [0,2,3] (di1 (cb x)) ?_
 refine seq (block ?_)
 refine Lq r (Q3t a b d k j e) (λ(l,g)=>⟨sl [(0,.ref 0 0),(2,.ref 1 0),(3,.ref 2 0)],35,[V4 a b d l,V5 0 0 [],V16 18 e.at_ [] g.length,rWo g]⟩) ?_ ?_
 ·obtain⟨y,z,h⟩:=oc h (Z5 hk 0 rfl)
  obtain⟨A,C,h⟩:=oc h (Zt hk 2 129 y)
  refine seq (seq ?_)
  refine rg hS [0,2,3,21] (di1 (an (cb z) (ca C))) ?_
  refine iz h (λh=>?_) λh=>?_
  ·refine skip (block ?_)
   rcases Q0y h with⟨U,p,rfl⟩|⟨⟨m,n⟩,p,h⟩
   ·have D:=(hk 1 252 rfl).boom (a,b,d,o) p rfl rfl
    have E:=Q5q D rfl rfl
    exact dS 22 7 3 [0,1,2] [.ref 2 3,.full [V14 f],.ref 0 0,.any,.any,.any,.any,.any] [.gone,V5 0 0 [],.var [ai 18,ai e.at_,as_ [],.full [V14 f],.nils,.nils]] trivial E
   dsimp only at h
   have F:=(hk 1 252 rfl).ret (a,b,d,o) p rfl rfl
   have H:=Q3j F rfl rfl rfl rfl
   replace h:=ap Word.pv h;obtain⟨i,I,h⟩:=h
   refine dregV mixed hS [3,5,7] [(0,0),(0,1),(1,0),(1,1),(2,0),(3,0),(4,1),(5,1),(6,2),(7,2)] [.ref 2 3,.full [V14 f],.ref 0 0,.pv (V14 m),.full [V14 m],.vec 3 (List.length i),.ref 2 3,.any] [[V4 a b d o,V5 0 0 [],.var [ai 18,ai e.at_,as_ [],.full [V14 f],.nils,.nils]],[V4 a b d n,V5 0 0 [],.var [ai 18,ai e.at_,as_ [],.full [V14 f],.nils,.nils]],[V4 a b d n,V5 0 0 [],.var [ai 18,ai e.at_,as_ [],.full [V14 f],.nils,.nils],rWo i],[V4 a b d n,V5 0 0 [],V16 18 e.at_ [] i.length,rWo i]] [(22,.ref 2 3),(23,.full [V14 f]),(24,.ref 0 0),(25,.pv (V14 m)),(26,.full [V14 m]),(27,.vec 3 (List.length i)),(28,.ref 2 3),(0,.ref 0 0),(2,.ref 1 0),(3,.ref 2 0),(21,ab A)] (by kernel_rfl) (by kernel_rfl) (by kernel_rfl) ?_ [(0,.ref 0 0),(2,.ref 1 0),(3,.ref 2 0)] [V4 a b d n,V5 0 0 [],V16 18 e.at_ [] i.length,rWo i] ⟨rfl,rfl,rfl,trivial⟩ rfl ?_
   ·repeat'(first|exact Q4p.nil|refine Q4p.cons rfl rfl rfl ?_ ?_)
    all_goals exact dv1 (an t (an H I))
   exact ny h
  refine exit (seq ?_)
  refine seq (Ua2 h [0,2,3,30] (Z4 hk 3 rfl) λV W h=>?_)
  refine ik h (λh=>?_) λh=>?_
  ·refine Xa2 h [2,3] (Z5 hk 4 rfl) 1 λY aa h=>?_
   exact Rt h [2]
  exact Rt h [2]
 clear h
 rintro⟨l,g⟩ ac h
 unfold Q3t at h
 try dsimp only at h
 obtain⟨J,K,h⟩:=oc h (Z5 hk 0 rfl)
 obtain⟨ad,L,h⟩:=oc h (Zt hk 2 129 J)
 refine AW.st (seq ?_)
 refine seq (rg hS [0,2,3,21] (di1 (an (cb K) (ca L))) ?_)
 refine iz h (λh=>?_) λh=>?_
 ·refine skip (block ?_)
  rcases Q0y h with⟨ae,q,rfl⟩|⟨⟨u,M⟩,q,h⟩
  ·have N:=(hk 1 252 rfl).boom (a,b,d,l) q rfl rfl
   have P:=Q5q N rfl rfl
   exact dS 22 7 3 [0,1,2] [.ref 2 3,.vec 3 (List.length g),.ref 0 0,.any,.any,.any,.any,.any] [.gone,V5 0 0 [],V16 18 e.at_ [] g.length,rWo g] trivial P
  dsimp only at h
  have Q:=(hk 1 252 rfl).ret (a,b,d,l) q rfl rfl
  have S:=Q3j Q rfl rfl rfl rfl
  replace h:=ap Word.pv h;obtain⟨s,T,h⟩:=h
  refine dV 22 7 [3,5,7] [(0,0),(0,1),(1,0),(1,1),(2,0),(3,0),(4,1),(5,1),(6,2),(7,2)] [.ref 2 3,.vec 3 (List.length g),.ref 0 0,.pv (V14 u),.full [V14 u],.vec 3 (List.length s),.ref 2 3,.any] [[(0,V4 a b d M)],[(3,rWo s)],[(2,V16 18 e.at_ [] s.length)]] [0,2,3] (an t (an S T)) ?_
  exact nx h
 refine exit (seq ?_)
 refine seq (Ua2 h [0,2,3,30] (Z4 hk 3 rfl) λaf ag h=>?_)
 refine ik h (λh=>?_) λh=>?_
 ·refine Xa2 h [2,3] (Z5 hk 4 rfl) 1 λah aj h=>?_
  exact Rt h [2]
 exact Rt h [2]
theorem K8p{i:Y0}{f:Y1}(c:AllG env [S84,S252 f,S255,S80,S83,S258 i f]):Q0c env (S228 i f):=by
 refine hd c V2y 37 λO X hS hX hpf hk ⟨b,d,e,o⟩=>λr (h:F228 i f b d e o=some r)=>?_
 have p:O.pf 258=false:=pft hpf 258 rfl
 refine gs ?_
 rw[F228]at h
 refine R [0,2] ?_
 obtain⟨j,q,h⟩:=oc h (Z5 hk 0 rfl)
 refine seq (AW.after ?_)
 refine rg hS [0,2,3] (di1 (cb q)) ?_
 refine oC Cmd.pv 2 5 36 6 ?_
 refine R [0,2,3] ?_
 refine seq (xb h (Z4 hk 1 rfl) 1 ?_)
 rintro⟨k,E⟩ s h
 refine rg hS [0,2,3] (di1 (cb s)) ?_
 refine seq (Xa2 h [0,2,3] (Z5 hk 2 rfl) 1 λF H h=>?_)
 refine seq (Ua2 h [0,2,3] (Z4 hk 3 rfl) λI J h=>?_)
 refine seq (block ?_)
 refine Lp h (λ(g,a)=>⟨sl [(0,.ref 0 0),(2,.ref 1 0),(3,.ref 2 0)],37,[V4 b d e g,V5 0 0 [],.var [ai 17,ai j.at_,as_ [],.full [V14 k],.nils,.vec 3 (List.length a)],rCm a]⟩) ?_
 clear h
 rintro⟨g,a⟩ K h
 rw[Q7s]at h
 try dsimp only at h
 obtain⟨t,u,h⟩:=oc h (Z5 hk 0 rfl)
 obtain⟨L,w,h⟩:=oc h (Zt hk 4 83 t)
 refine AW.st (seq ?_)
 refine seq (rg hS [0,2,3,26] (di1 (an (cb u) (ca w))) ?_)
 refine iz h (λh=>?_) λh=>?_
 ·refine skip (block ?_)
  rcases Q0y h with⟨M,l,rfl⟩|⟨⟨n,x⟩,l,h⟩
  ·have y:=(hk 5 258 rfl).boom (b,d,e,g) l rfl rfl
   have z:=Q5q y rfl rfl
   exact dS 27 7 3 [0,1,2] [.ref 2 5,.vec 3 (List.length a),.ref 0 0,.any,.any,.any,.any,.any] [.gone,V5 0 0 [],.var [ai 17,ai j.at_,as_ [],.full [V14 k],.nils,.vec 3 (List.length a)],rCm a] trivial z
  dsimp only at h
  have A:=(hk 5 258 rfl).ret (b,d,e,g) l rfl rfl
  have C:=Q3j A rfl rfl rfl rfl
  replace h:=ap Cmd.pv h;obtain⟨m,D,h⟩:=h
  refine dV 27 7 [3,5,7] [(0,0),(0,1),(1,0),(1,1),(2,0),(3,0),(4,1),(5,1),(6,2),(7,2)] [.ref 2 5,.vec 3 (List.length a),.ref 0 0,.pv (V7 n),.full [V7 n],.vec 3 (List.length m),.ref 2 5,.any] [[(0,V4 b d e x)],[(3,rCm m)],[(2,.var [ai 17,ai j.at_,as_ [],.full [V14 k],.nils,.vec 3 (List.length m)])]] [0,2,3] (an p (an C D)) ?_
  exact nx h
 refine exit (seq ?_)
 refine Xa2 h [2,3] (Z5 hk 2 rfl) 1 λN P h=>?_
 exact Rt h [2]
theorem K8o{a:Y0}(c:AllG env [S84,S256,S127,S253 a]):Q0c env (S229 a):=by
 refine hd c V2x 33 λO X hS hX hpf hk ⟨b,d,e,f⟩=>λr (h:F229 a b d e f=some r)=>gs ?_
 rw[F229]at h
 refine R [0,2] ?_
 refine seq (Ua1 h [0,2,3] (Z5 hk 0 rfl) λg h=>?_)
 refine R [0,2,3] ?_
 refine seq (Xa2 h [0,2,3] (Z4 hk 1 rfl) 1 λi j h=>?_)
 refine seq (seq ?_)
 refine Ua1 h [0,2,3,20] (Z5 hk 2 rfl) λk h=>?_
 refine ik h (λh=>?_) λh=>?_
 ·exact Rt h [2]
 refine seq (Xa2 h [2,3] (Z4 hk 3 rfl) 1 λl m h=>?_)
 refine seq (R [2,3,28] ?_)
 refine ik h (λh=>?_) λh=>?_
 ·refine rg hS [2,3] di ?_
  exact Rt h [2]
 exact Rt h [2]
theorem K8n{j:Y1}(c:AllG env [S84,S252 j,S129]):Q0c env (S230 j):=by
 refine hd c V2w 30 λO X hS hX hpf hk ⟨a,b,d,u⟩=>λr (h:F230 j a b d u=some r)=>?_
 have s:O.pf 252=false:=pft hpf 252 rfl
 refine gs ?_
 rw[F230]at h
 refine R [0,2] ?_
 refine seq (Ua1 h [0,2,3] (Z5 hk 0 rfl) λe h=>?_)
 refine R [0,2,3] ?_
 refine seq (xb h (Z4 hk 1 rfl) 1 ?_)
 rintro⟨f,n⟩ w h
 refine rg hS [0,2,3] (di1 (cb w)) ?_
 refine seq (block ?_)
 refine Lq r (Q6k a b d j e) (λ(k,g)=>⟨sl [(0,.ref 0 0),(2,.ref 1 0),(3,.ref 2 0)],30,[V4 a b d k,V5 0 0 [],V16 16 e.at_ [] g.length,rWo g]⟩) ?_ ?_
 ·obtain⟨x,y,h⟩:=oc h (Z5 hk 0 rfl)
  obtain⟨z,A,h⟩:=oc h (Zt hk 2 129 x)
  refine seq (seq ?_)
  refine rg hS [0,2,3,21] (di1 (an (cb y) (ca A))) ?_
  refine iz h (λh=>?_) λh=>?_
  ·refine skip (block ?_)
   rcases Q0y h with⟨T,o,rfl⟩|⟨⟨l,m⟩,o,h⟩
   ·have C:=(hk 1 252 rfl).boom (a,b,d,n) o rfl rfl
    have D:=Q5q C rfl rfl
    exact dS 22 7 3 [0,1,2] [.ref 2 3,.full [V14 f],.ref 0 0,.any,.any,.any,.any,.any] [.gone,V5 0 0 [],.var [ai 16,ai e.at_,as_ [],.full [V14 f],.nils,.nils]] trivial D
   dsimp only at h
   have E:=(hk 1 252 rfl).ret (a,b,d,n) o rfl rfl
   have F:=Q3j E rfl rfl rfl rfl
   replace h:=ap Word.pv h;obtain⟨i,H,h⟩:=h
   refine dregV mixed hS [3,5,7] [(0,0),(0,1),(1,0),(1,1),(2,0),(3,0),(4,1),(5,1),(6,2),(7,2)] [.ref 2 3,.full [V14 f],.ref 0 0,.pv (V14 l),.full [V14 l],.vec 3 (List.length i),.ref 2 3,.any] [[V4 a b d n,V5 0 0 [],.var [ai 16,ai e.at_,as_ [],.full [V14 f],.nils,.nils]],[V4 a b d m,V5 0 0 [],.var [ai 16,ai e.at_,as_ [],.full [V14 f],.nils,.nils]],[V4 a b d m,V5 0 0 [],.var [ai 16,ai e.at_,as_ [],.full [V14 f],.nils,.nils],rWo i],[V4 a b d m,V5 0 0 [],V16 16 e.at_ [] i.length,rWo i]] [(22,.ref 2 3),(23,.full [V14 f]),(24,.ref 0 0),(25,.pv (V14 l)),(26,.full [V14 l]),(27,.vec 3 (List.length i)),(28,.ref 2 3),(0,.ref 0 0),(2,.ref 1 0),(3,.ref 2 0),(21,ab z)] (by kernel_rfl) (by kernel_rfl) (by kernel_rfl) ?_ [(0,.ref 0 0),(2,.ref 1 0),(3,.ref 2 0)] [V4 a b d m,V5 0 0 [],V16 16 e.at_ [] i.length,rWo i] ⟨rfl,rfl,rfl,trivial⟩ rfl ?_
   ·repeat'(first|exact Q4p.nil|refine Q4p.cons rfl rfl rfl ?_ ?_)
    all_goals exact dv1 (an s (an F H))
   exact ny h
  exact exit (Rt h [2])
 clear h
 rintro⟨k,g⟩ U h
 unfold Q6k at h
 try dsimp only at h
 obtain⟨I,J,h⟩:=oc h (Z5 hk 0 rfl)
 obtain⟨V,K,h⟩:=oc h (Zt hk 2 129 I)
 refine AW.st (seq ?_)
 refine seq (rg hS [0,2,3,21] (di1 (an (cb J) (ca K))) ?_)
 refine iz h (λh=>?_) λh=>?_
 ·refine skip (block ?_)
  rcases Q0y h with⟨W,p,rfl⟩|⟨⟨t,L⟩,p,h⟩
  ·have M:=(hk 1 252 rfl).boom (a,b,d,k) p rfl rfl
   have N:=Q5q M rfl rfl
   exact dS 22 7 3 [0,1,2] [.ref 2 3,.vec 3 (List.length g),.ref 0 0,.any,.any,.any,.any,.any] [.gone,V5 0 0 [],V16 16 e.at_ [] g.length,rWo g] trivial N
  dsimp only at h
  have P:=(hk 1 252 rfl).ret (a,b,d,k) p rfl rfl
  have Q:=Q3j P rfl rfl rfl rfl
  replace h:=ap Word.pv h;obtain⟨q,S,h⟩:=h
  refine dV 22 7 [3,5,7] [(0,0),(0,1),(1,0),(1,1),(2,0),(3,0),(4,1),(5,1),(6,2),(7,2)] [.ref 2 3,.vec 3 (List.length g),.ref 0 0,.pv (V14 t),.full [V14 t],.vec 3 (List.length q),.ref 2 3,.any] [[(0,V4 a b d L)],[(3,rWo q)],[(2,V16 16 e.at_ [] q.length)]] [0,2,3] (an s (an Q S)) ?_
  exact nx h
 exact exit (Rt h [2])
theorem K8m{k:Y1}(c:AllG env [S84,S83,S48,S129,S252 k,S130,S254 k]):Q0c env (S231 k):=by
 refine hd c V2v 60 λO X hS hX hpf hk ⟨d,e,f,u⟩=>λr (h:F231 k d e f u=some r)=>?_
 have w:O.pf 252=false:=pft hpf 252 rfl
 have x:O.pf 254=false:=pft hpf 254 rfl
 refine gs ?_
 rw[F231]at h
 refine R [0,2] ?_
 obtain⟨i,y,h⟩:=oc h (Z5 hk 0 rfl)
 refine seq (AW.after ?_)
 refine rg hS [0,2,3] (di1 (cb y)) ?_
 refine o2 (oC Word.pv 2 3 49 5 ?_)
 refine oC Redir.pv 2 4 51 9 ?_
 refine block (Lp h (λ(g,a,b)=>⟨sl [(0,.ref 0 0),(2,.ref 1 0),(3,.ref 2 0)],60,[V4 d e f g,V5 0 0 [],V17 1 i.at_ [] a.length b.length,rWo a,rRe b]⟩) ?_)
 clear h
 rintro⟨g,a,b⟩ m16 h
 rw[Q5i]at h
 try dsimp only at h
 refine AW.st (block ?_)
 refine seq (Ua1 h [0,2,3,4] (Z5 hk 0 rfl) λj h=>?_)
 obtain⟨l,m,h⟩:=obs h
 replace m:=Q0d m
 have z:=λA=>(hk 1 83 rfl).ret j (m A) rfl rfl
 refine block (seq ?_)
 refine reg hS [(0,.ref 0 0),(2,.ref 1 0),(3,.ref 2 0),(4,.ref 5 0),(12,ab ((((decide ((a.length:Int)=0)&&decide (0<(b.length:Int)))&&!decide (l=[]))&&!decide (l=[110,111,116]))&&!decide (l=[105,110])))] [V4 d e f g,V5 0 0 [],V17 1 i.at_ [] a.length b.length,rWo a,rRe b,V1 j] ?_ ?_
 ·clear h hk hS hX c
  exact dh1 (ap1 83 hpf z)
 refine iz h (λh=>?_) λh=>?_
 ·refine Xa1 h [0,2,3] (Z4 hk 2 rfl) 1 λ_ h=>?_
  exact nx h
 refine seq (Ua1 h [0,2,3,4,40] (Zt hk 3 129 j) λP h=>?_)
 refine iz h (λh=>?_) λh=>?_
 ·rcases Q0y h with⟨Q,n,rfl⟩|⟨⟨s,C⟩,n,h⟩
  ·have D:=(hk 4 252 rfl).boom (d,e,f,g) n rfl rfl
   have E:=Q5q D rfl rfl
   exact dS 43 7 3 [0,1,2] [.ref 2 3,.vec 3 (List.length a),.ref 0 0,.any,.any,.any,.any,.any] [.gone,V5 0 0 [],V17 1 i.at_ [] a.length b.length,rWo a,rRe b,V1 j] trivial E
  dsimp only at h
  have F:=(hk 4 252 rfl).ret (d,e,f,g) n rfl rfl
  have H:=Q3j F rfl rfl rfl rfl
  replace h:=ap Word.pv h;obtain⟨o,f45,h⟩:=h
  refine dV 43 7 [3,5,7] [(0,0),(0,1),(1,0),(1,1),(2,0),(3,0),(4,1),(5,1),(6,2),(7,2)] [.ref 2 3,.vec 3 (List.length a),.ref 0 0,.pv (V14 s),.full [V14 s],.vec 3 (List.length o),.ref 2 3,.any] [[(0,V4 d e f C)],[(3,rWo o)],[(2,V17 1 i.at_ [] o.length b.length)]] [0,2,3] (an w (an H f45)) ?_
  exact nx h
 refine seq (Ua1 h [0,2,3,50] (Zt hk 5 130 j) λS h=>?_)
 refine iz h (λh=>?_) λh=>?_
 ·rcases Q0y h with⟨T,p,rfl⟩|⟨⟨t,I⟩,p,h⟩
  ·have J:=(hk 6 254 rfl).boom (d,e,f,g) p rfl rfl
   have K:=Q5q J rfl rfl
   exact dS 53 7 3 [0,1,2] [.ref 2 4,.vec 4 (List.length b),.ref 0 0,.any,.any,.any,.any,.any] [.gone,V5 0 0 [],V17 1 i.at_ [] a.length b.length,rWo a,rRe b,V1 j] trivial K
  dsimp only at h
  have L:=(hk 6 254 rfl).ret (d,e,f,g) p rfl rfl
  have M:=Q3j L rfl rfl rfl rfl
  replace h:=ap Redir.pv h;obtain⟨q,N,h⟩:=h
  refine dV 53 7 [3,5,7] [(0,0),(0,1),(1,0),(1,1),(2,0),(3,0),(4,1),(5,1),(6,2),(7,2)] [.ref 2 4,.vec 4 (List.length b),.ref 0 0,.pv (V15 t),.full [V15 t],.vec 4 (List.length q),.ref 2 4,.any] [[(0,V4 d e f I)],[(4,rRe q)],[(2,V17 1 i.at_ [] a.length q.length)]] [0,2,3] (an x (an M N)) ?_
  exact nx h
 exact Rt h [2]
end Go.Abs.U48
