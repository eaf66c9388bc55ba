import Derived.Test.YtljahlbklgnfhaaGreatDoorA35
import Derived.Test.YtljahlbklgnfhaaGreatDoorA45
import Derived.Test.YtljahlbklgnfhaaGreatDoorLB
import Derived.Test.YtljahlbklgnfhaaGreatDoorL1
import Derived.Test.YtljahlbklgnfhaaGreatDoorL2
set_option linter.unusedVariables false
set_option linter.unusedSimpArgs false
namespace Go.Abs.U48
open Go.RowKit Go.Proofs
theorem X2d{w:World}(h:env.GI w):∃m,w.cell? ⟨0,0,none⟩=some (.int .i64 m):=h.1
theorem V6n{w:World}(h:env.GI w):∃ev,w.cell? ⟨1,0,none⟩=some ev/\(ev=.nilIface\/∃a b,ev=.iface a b):=h.2.1
theorem V6o{w:World}(h:env.GI w):∃ev,w.cell? ⟨2,0,none⟩=some ev/\(ev=.nilIface\/∃a b,ev=.iface a b):=h.2.2.1
theorem Z0g{Φ:Nat->Nat->Prop}{w:World}{rs:List PV}{us:List Value}{e:Ending}(a:e=.returned (retV us))(d:us.length=rs.length)(f:∀b k,Φ b k->b<w.heap.size)(h:∀ (i:Nat) u r,us[i]?=some u->rs[i]?=some r->Rep Φ w u r):
 ∃ (us:List Value) (Φ':Nat->Nat->Prop),e=.returned (retV us)/\us.length=rs.length/\Below w.heap.size w w/\(∀b k,Φ b k->Φ' b k)/\(∀b k,Φ' b k->b<w.heap.size->Φ b k)/\(∀b k,Φ' b k->b<w.heap.size)/\∀ (i:Nat) u r,us[i]?=some u->rs[i]?=some r->Rep Φ' w u r:=
 ⟨us,Φ,a,d,Below.refl _ _,λ_ _ h=>h,λ_ _ h _=>h,f,h⟩
theorem Q7t{Φ:Nat->Nat->Prop}{w:World}{v:Value}{p:PV}(h:Rep Φ w v p):∀ (i:Nat) u r,[v][i]?=some u->[p][i]?=some r->Rep Φ w u r:=by
 intro i u r a b
 match i,a,b with
 | 0,a,b=>cases a;cases b;exact h
theorem Z8l(xs:List Str):flat (xs.map PV.str)=xs.map PV.str:=by
 induction xs with
 | nil=>rfl
 | cons x xs a=>rw[G2i,Q3q,a];rfl
theorem K3d{Φ:Nat->Nat->Prop}{w:World}{b cap:Nat}(xs:List Str)(a:xs.length<=cap)(e:cap<=maxLen)(f:∀ (k:Nat) x,xs[k]?=some x->Φ b k/\w.cell? ⟨b,k,none⟩=some (.string ⟨⟨x⟩⟩)):Rep Φ w (.slice (some ⟨b,0,none⟩) xs.length cap) (.slice (xs.map PV.str)):=by
 refine .slice b 0 xs.length cap 1 (xs.map PV.str) (λk=>.string ⟨⟨xs.getD k []⟩⟩) (G1h _) a e (λx g=>?_) (λc a=>?_) (λk hk=>?_) (λk c d=>?_)
 ·obtain⟨y,_,rfl⟩:=G3r.1 g
  rfl
 ·rw[Z8l]at a
  obtain⟨y,_,rfl⟩:=G3r.1 a
  rfl
 ·rw[Z8l,G1h]at hk
  have:=f k xs[k] (G0f hk)
  rw[G3h,G0y,G0f hk]
  exact this
 rw[Z8l,G1i]at d
 obtain⟨y,i,rfl⟩:=G0k.1 d
 have:xs.getD k []=y:=by rw[G0y,i];rfl
 rw[this]
 exact .str y
theorem J3n(s:Str)(c n:Int)(h:Q0h s c=some n):Good env 40 [.pv (.str s),.pv (.int .u8 c)] [] [.pv (.int .i64 n)] []:=by
 unfold Q0h at h
 cases h
 refine Good.lib (ps:=[.str s,.int .u8 c]) (rs:=[.int .i64 (Lib.indexByte s c.toNat.toUInt8)]) λw Φ vs _ b d a=>?_
 match vs,d with
 | [x,y],_=>
   have f:=Q1z (a 0 x _ rfl rfl)
   have hb:=Q2v (a 1 y _ rfl rfl)
   subst f hb
   refine(Z0k ⟨⟨s⟩⟩ c w).mono λe w' ⟨g,i⟩=>?_
   subst i
   exact Z0g (us:=[.int .i64 (Lib.indexByte s c.toNat.toUInt8)]) g rfl b (Q7t (.int _ _))
theorem V1d(s f a b:Str)(ok:Bool)(h:Z9k s f=some (a,b,ok)):Good env 161 [.pv (.str s),.pv (.str f)] [] [.pv (.str a),.pv (.str b),.pv (.bool ok)] []:=by
 unfold Z9k at h
 split at h
 ·rename_i hs
  have e:Lib.cut s f=(a,b,ok):=G3p h
  refine Good.lib (ps:=[.str s,.str f]) (rs:=[.str a,.str b,.bool ok]) λw Φ vs hG l o d=>?_
  obtain⟨m,p⟩:=X2d hG
  match vs,o with
  | [x,y],_=>
    have q:=Q1z (d 0 x _ rfl rfl)
    have hb:=Q1z (d 1 y _ rfl rfl)
    subst q hb
    refine(J0l ⟨⟨s⟩⟩ ⟨⟨f⟩⟩ m w hs p).mono λt w' ⟨z,n,A⟩=>?_
    subst A
    have j:t=.returned (.tuple #[.string ⟨⟨(Lib.cut s f).1⟩⟩,.string ⟨⟨(Lib.cut s f).2.1⟩⟩,.bool (Lib.cut s f).2.2]):=z
    rw[e]at j
    refine⟨[.string ⟨⟨a⟩⟩,.string ⟨⟨b⟩⟩,.bool ok],Φ,j,rfl,⟨rfl,rfl,rfl,G0r _,λ_ _=>rfl⟩,λ_ _ h=>h,λ_ _ h _=>h,l,λi u r g d=>?_⟩
    match i,g,d with
    | 0,g,d=>cases g;cases d;exact .str _
    | 1,g,d=>cases g;cases d;exact .str _
    | 2,g,d=>cases g;cases d;exact .bool _
 cases h
theorem K4j(xs:List Str)(g s:Str)(h:J6z xs g=some s):Good env 119 [.pv (.slice (xs.map PV.str)),.pv (.str g)] [] [.pv (.str s)] []:=by
 unfold J6z at h
 split at h
 ·rename_i p
  cases h
  obtain⟨p,F⟩:=p
  refine Good.lib (ps:=[.slice (xs.map PV.str),.str g]) (rs:=[.str (Lib.join xs g)]) λw Φ vs _ m H d=>?_
  match vs,H with
  | [a,b],_=>
    have hb:=Q1z (d 1 b _ rfl rfl)
    subst hb
    rcases J0v (d 0 a _ rfl rfl)with⟨rfl,rfl⟩|⟨A,cap,rfl,rfl,_⟩|⟨t,o,cap,rfl,I,_,z⟩
    ·refine(Q2w none 0 ⟨⟨g⟩⟩ w).mono λe w' ⟨l,n⟩=>?_
     subst n
     exact⟨[.string ⟨⟨[]⟩⟩],Φ,l,rfl,Below.refl _ _,λ_ _ h=>h,λ_ _ h _=>h,m,λi u r f d=>by
      match i,f,d with
      | 0,f,d=>cases f;cases d;exact .str _⟩
    ·refine(Q2w (some A) cap ⟨⟨g⟩⟩ w).mono λe w' ⟨l,n⟩=>?_
     subst n
     exact⟨[.string ⟨⟨[]⟩⟩],Φ,l,rfl,Below.refl _ _,λ_ _ h=>h,λ_ _ h _=>h,m,λi u r f d=>by
      match i,f,d with
      | 0,f,d=>cases f;cases d;exact .str _⟩
    cases xs with
    | nil=>
      refine(Q2w (some ⟨t,o,none⟩) cap ⟨⟨g⟩⟩ w).mono λe w' ⟨l,n⟩=>?_
      subst n
      exact⟨[.string ⟨⟨[]⟩⟩],Φ,l,rfl,Below.refl _ _,λ_ _ h=>h,λ_ _ h _=>h,m,λi u r f d=>by
       match i,f,d with
       | 0,f,d=>cases f;cases d;exact .str _⟩
    | cons x xs=>
      have C:((x::xs).map λs=>(⟨⟨s⟩⟩:ByteArray)).map (·.data.toList)=x::xs:=by
       rw[List.map_map]
       exact List.map_id _
      have q:((x::xs).map λs=>(⟨⟨s⟩⟩:ByteArray)).length=(x::xs).length:=G1h _
      have D:=Z9e t o cap ((x::xs).map λs=>⟨⟨s⟩⟩) ⟨⟨g⟩⟩ w (λj y E=>by
       rw[G1i]at E
       obtain⟨s,hs,rfl⟩:=G0k.1 E
       exact(z j s hs).2) (m _ _ (z 0 x rfl).1) (by rw[q];exact F) (by rw[q];exact I) (by rw[C];exact p)
      rw[C,q]at D
      refine D.mono λe w' ⟨l,hb⟩=>?_
      exact⟨[.string ⟨⟨Lib.join (x::xs) g⟩⟩],Φ,l,rfl,hb,λ_ _ h=>h,λ_ _ h _=>h,λb k h=>G1m (m b k h) hb.size,λi u r f d=>by
       match i,f,d with
       | 0,f,d=>cases f;cases d;exact .str _⟩
 cases h
theorem J3l(b:Str)(c:Int)(d:Str)(h:Q2g b c=some d):Good env 121 [.ref 0 0,.pv (.int .u8 c)] [.bld b] [.pv .nil] [.bld d]:=by
 unfold Q2g at h
 split at h
 ·rename_i a
  cases h
  obtain⟨l,m,e⟩:=a
  have g:((c.toNat.toUInt8).toNat:Int)=c:=by
   have i:(c.toNat.toUInt8).toNat=c.toNat % 256:=rfl
   rw[i,Nat.mod_eq_of_lt (by omega)]
   omega
  have:=Good.writeByte (E:=env) (f:=121) (λb p v bs w c j a=>J7h X5o Z0m c j a) b c.toNat.toUInt8 e
  rw[g]at this
  exact this
 cases h
theorem Z8j(b s:Str)(n:Int)(c:Str)(h:Q1n b s=some (n,c)):Good env 123 [.ref 0 0,.pv (.str s)] [.bld b] [.pv (.int .i64 n),.pv (.nil)] [.bld c]:=by
 unfold Q1n at h
 split at h
 ·rename_i a
  cases h
  exact Good.writeString (E:=env) (f:=123) (λb p v bs w s d a=>J2k X5p Z0n s d a) b s a
 cases h
theorem X5b(b s:Str)(h:Q4i b=some s):Good env 36 [.ref 0 0] [.bld b] [.pv (.str s)] [.gone]:=by
 unfold Q4i at h
 cases h
 exact Good.string (E:=env) (f:=36) (λb p v l w a=>K3e X5n Z0l a) b
theorem X5c(s:Str)(n:Int)(t:Str)(h:Q2u s n=some t):Good env 124 [.pv (.str s),.pv (.int .i64 n)] [] [.pv (.str t)] []:=by
 unfold Q2u at h
 split at h
 ·rename_i f
  cases h
  obtain⟨g,p,i⟩:=f
  refine Good.lib (ps:=[.str s,.int .i64 n]) (rs:=[.str (Lib.repeatL s n.toNat)]) λw Φ vs _ j l a=>?_
  match vs,l with
  | [x,y],_=>
    have m:=Q1z (a 0 x _ rfl rfl)
    have hb:=Q2v (a 1 y _ rfl rfl)
    subst m hb
    have d:=Z4h ⟨⟨s⟩⟩ n.toNat w (by omega) i
    rw[G5e g]at d
    refine d.mono λe w' ⟨o,hb⟩=>?_
    exact⟨[.string ⟨⟨Lib.repeatL s n.toNat⟩⟩],Φ,o,rfl,hb,λ_ _ h=>h,λ_ _ h _=>h,λb k h=>G1m (j b k h) hb.size,Q7t (.str _)⟩
 cases h
theorem J7j{Φ:Nat->Nat->Prop}{w:World}{v u:Value}{p q:PV}(h:Rep Φ w v p)(k:Rep Φ w u q):∀ (i:Nat) x r,[v,u][i]?=some x->[p,q][i]?=some r->Rep Φ w x r:=by
 intro i x r a b
 match i,a,b with
 | 0,a,b=>cases a;cases b;exact h
 | 1,a,b=>cases a;cases b;exact k
theorem K4l(s:Str)(n:Int)(f:Bool)(h:Z3g s=some (n,f)):Good env 199 [.pv (.str s)] [] [.pv (.int .i64 n),.pv ((bif f then PV.ifc else PV.nil))] []:=by
 unfold Z3g at h
 split at h
 ·rename_i hs
  refine Good.lib (ps:=[.str s]) (rs:=[.int .i64 n,bif f then PV.ifc else PV.nil]) λw Φ vs hG g j l=>?_
  match vs,j with
  | [x],_=>
    have m:=Q1z (l 0 x _ rfl rfl)
    subst m
    have i:(⟨⟨s⟩⟩:ByteArray).size=s.length:=rfl
    have hd:(⟨⟨s⟩⟩:ByteArray).data.toList=s:=rfl
    obtain⟨o,p,q⟩:=V6n hG
    obtain⟨r,u,y⟩:=V6o hG
    split at h
    ·rename_i v a
     cases h
     refine(Z3d ⟨⟨s⟩⟩ (by rw[i];omega) n (by rw[hd];exact a) w).mono λe w' ⟨d,z⟩=>?_
     have hb:Below w.heap.size w w':=by
      rcases z with rfl|⟨t,rfl⟩
      ·exact Below.refl _ _
      exact Lib.bytesWorld_below _ _ _
     exact⟨[.int .i64 n,.nilIface],Φ,d,rfl,hb,λ_ _ h=>h,λ_ _ h _=>h,λb k h=>G1m (g b k h) hb.size,J7j (.int _ _) .nil⟩
    ·rename_i a
     cases h
     refine(Q8k ⟨⟨s⟩⟩ (by rw[i];omega) (by rw[hd];exact a) o w p q).mono λe w' ⟨N,d,_,_,hb⟩=>?_
     exact⟨[.int .i64 0,_],Φ,d,rfl,hb,λ_ _ h=>h,λ_ _ h _=>h,λb k h=>G1m (g b k h) hb.size,J7j (.int _ _) (.ifc _ _)⟩
    rename_i a
    cases h
    refine(Q9l ⟨⟨s⟩⟩ (by rw[i];omega) (by rw[hd];exact a) r w u y).mono λe w' ⟨N,d,_,_,hb⟩=>?_
    exact⟨[.int .i64 (Lib.atoiSat s),_],Φ,d,rfl,hb,λ_ _ h=>h,λ_ _ h _=>h,λb k h=>G1m (g b k h) hb.size,J7j (.int _ _) (.ifc _ _)⟩
 cases h
theorem K4k(n:Int)(s:Str)(h:Q4z n=some s):Good env 189 [.pv (.int .i64 n)] [] [.pv (.str s)] []:=by
 unfold Q4z at h
 split at h
 ·rename_i b
  cases h
  obtain⟨d,o⟩:=b
  refine Good.lib (ps:=[.int .i64 n]) (rs:=[.str (Lib.decDigits n.toNat)]) λw Φ vs _ f g i=>?_
  match vs,g with
  | [x],_=>
    have j:=Q2v (i 0 x _ rfl rfl)
    subst j
    have a:=Q9k n.toNat (by omega) w
    rw[G5e d]at a
    refine a.mono λe w' ⟨l,m⟩=>?_
    subst m
    exact Z0g (us:=[.string ⟨⟨Lib.decDigits n.toNat⟩⟩]) l rfl f (Q7t (.str _))
 cases h
theorem J3m(s p:Str)(ok:Bool)(h:Q6b s p=some ok):Good env 169 [.pv (.str s),.pv (.str p)] [] [.pv (.bool ok)] []:=by
 unfold Q6b at h
 split at h
 ·rename_i hs
  cases h
  refine Good.lib (ps:=[.str s,.str p]) (rs:=[.bool (Lib.contains s p)]) λw Φ vs hG f g d=>?_
  obtain⟨m,i⟩:=X2d hG
  match vs,g with
  | [a,b],_=>
    have j:=Q1z (d 0 a _ rfl rfl)
    have hb:=Q1z (d 1 b _ rfl rfl)
    subst j hb
    refine(Z1s ⟨⟨s⟩⟩ ⟨⟨p⟩⟩ m w hs i).mono λe w' ⟨l,n⟩=>?_
    subst n
    exact Z0g (us:=[.bool (Lib.contains s p)]) l rfl f (Q7t (.bool _))
 cases h
theorem X9f(s d:Str)(l:List Str)(h:Z4i s d=some l):Good env 156 [.pv (.str s),.pv (.str d)] [] [.pv (.slice (l.map PV.str))] []:=by
 unfold Z4i at h
 split at h
 ·rename_i o
  cases h
  obtain⟨hs,g⟩:=o
  refine Good.lib (ps:=[.str s,.str d]) (rs:=[.slice ((Z0r s d).map PV.str)]) λw Φ vs hG p q i=>?_
  obtain⟨m,r⟩:=X2d hG
  match vs,q with
  | [a,b],_=>
    have t:=Q1z (i 0 a _ rfl rfl)
    have hb:=Q1z (i 1 b _ rfl rfl)
    subst t hb
    refine(Z6f ⟨⟨s⟩⟩ ⟨⟨d⟩⟩ m w hs r g).mono λe w' ⟨j,u⟩=>?_
    subst u
    have n:(Z0r s d).length=Lib.countB ⟨⟨s⟩⟩ ⟨⟨d⟩⟩+1:=by
     unfold Z0r
     rw[G1h]
     exact Lib.splitB_all ⟨⟨d⟩⟩ g 0 _ ⟨⟨s⟩⟩ rfl
    have C:Lib.countB ⟨⟨s⟩⟩ ⟨⟨d⟩⟩<=s.length:=Lib.countB_le ⟨⟨d⟩⟩ g s.length ⟨⟨s⟩⟩ (G0r _)
    rw[<-n]at j
    refine⟨[.slice (some ⟨w.heap.size,0,none⟩) (Z0r s d).length (Z0r s d).length],λb k=>Φ b k\/(b=w.heap.size/\k<(Z0r s d).length),j,rfl,⟨rfl,rfl,rfl,?_,λk hk=>Below.heap_alloc w _ k hk⟩,λ_ _ h=>.inl h,λb k h hb=>?_,λb k h=>?_,Q7t ?_⟩
    ·show w.heap.size<=(w.heap.push _).size
     simp
    ·rcases h with h|⟨h,_⟩
     ·exact h
     omega
    ·show b<(w.heap.push _).size
     rw[Array.size_push]
     rcases h with h|⟨h,_⟩
     ·have:=p b k h
      omega
     omega
    refine K3d _ (G0r _) (by rw[n];unfold maxLen;omega) (λk x f=>⟨.inr ⟨rfl,(G0j.1 f).1⟩,?_⟩)
    unfold Z0r at f
    rw[G1i]at f
    obtain⟨y,z,rfl⟩:=G0k.1 f
    have A:=G4r w (.cells ((Lib.splitB ⟨⟨d⟩⟩ 0 (Lib.countB ⟨⟨s⟩⟩ ⟨⟨d⟩⟩) ⟨⟨s⟩⟩).map Value.string).toArray 9)
    unfold World.cell?
    simp only[A]
    simp[z]
 cases h
theorem J6g(xs:List Str)(s:Str)(ok:Bool)(h:Z0h xs s=some ok):Good env 157 [.pv (.slice (xs.map PV.str)),.pv (.str s)] [] [.pv (.bool ok)] []:=by
 unfold Z0h at h
 cases h
 refine Good.lib (ps:=[.slice (xs.map PV.str),.str s]) (rs:=[.bool (xs.any λm=>decide (m=s))]) λw Φ vs _ g p n=>?_
 match vs,p with
 | [a,b],_=>
   have hb:=Q1z (n 1 b _ rfl rfl)
   subst hb
   rcases J0v (n 0 a _ rfl rfl)with⟨rfl,rfl⟩|⟨A,cap,rfl,rfl,_⟩|⟨q,o,cap,rfl,z,r,t⟩
   ·refine(Q2c none 0 ⟨⟨s⟩⟩ w).mono λe w' ⟨d,f⟩=>?_
    subst f
    exact Z0g (us:=[.bool false]) d rfl g (Q7t (.bool _))
   ·refine(Q2c (some A) cap ⟨⟨s⟩⟩ w).mono λe w' ⟨d,f⟩=>?_
    subst f
    exact Z0g (us:=[.bool false]) d rfl g (Q7t (.bool _))
   have u:(xs.map λs=>(⟨⟨s⟩⟩:ByteArray)).length=xs.length:=G1h _
   refine(Q7a q o xs.length cap (xs.map λs=>⟨⟨s⟩⟩) ⟨⟨s⟩⟩ w (by omega) (by unfold maxLen at r;omega) (λj i=>?_)).mono λe w' ⟨d,f⟩=>?_
   ·rw[u]at i
    rw[(t j xs[j] (G0f i)).2]
    simp[G0y,i]
   subst f
   have y:Lib.containsS ((xs.map λs=>(⟨⟨s⟩⟩:ByteArray)).take xs.length) ⟨⟨s⟩⟩=xs.any λm=>decide (m=s):=by
    rw[G5y (by omega),G6d,Lib.containsS_iff,G4v]
    constructor
    ·intro h
     obtain⟨x,l,e⟩:=G3r.1 h
     injection e with e
     injection e with e
     exact⟨x,l,by simpa using e⟩
    intro⟨x,l,e⟩
    have e:=G3e e
    subst e
    exact G3r.2 ⟨x,l,rfl⟩
   rw[y]at d
   exact Z0g (us:=[.bool (xs.any λm=>decide (m=s))]) d rfl g (Q7t (.bool _))
theorem J0e(s old a t:Str)(h:Q2p s old a=some t):Good env 216 [.pv (.str s),.pv (.str old),.pv (.str a)] [] [.pv (.str t)] []:=by
 unfold Q2p at h
 split at h
 ·rename_i d
  cases h
  obtain⟨g,i,j⟩:=d
  refine Good.lib (ps:=[.str s,.str old,.str a]) (rs:=[.str (Lib.replaceAll s old a)]) λw Φ vs hG l n f=>?_
  obtain⟨m,o⟩:=X2d hG
  match vs,n with
  | [x,y,z],_=>
    have p:=Q1z (f 0 x _ rfl rfl)
    have hb:=Q1z (f 1 y _ rfl rfl)
    have d:=Q1z (f 2 z _ rfl rfl)
    subst p hb d
    refine(Q9j ⟨⟨s⟩⟩ ⟨⟨old⟩⟩ ⟨⟨a⟩⟩ m w g o i j).mono λe w' ⟨q,hb⟩=>?_
    exact⟨[.string ⟨⟨Lib.replaceAll s old a⟩⟩],Φ,q,rfl,hb,λ_ _ h=>h,λ_ _ h _=>h,λb k h=>G1m (l b k h) hb.size,Q7t (.str _)⟩
 cases h
end Go.Abs.U48
