import Derived.Test.YtljahlbklgnfhaaGreatDoorA39
import Derived.Test.YtljahlbklgnfhaaGreatDoorA41
import Derived.Test.YtljahlbklgnfhaaGreatDoorLB
import Derived.Test.YtljahlbklgnfhaaGreatDoorL1
import Derived.Test.YtljahlbklgnfhaaGreatDoorL2
set_option linter.unusedVariables false
namespace Go.Abs.U48
open Go.RowKit Go.Proofs
theorem X3k{w:World}(h:env.GI w):∃m,w.cell? ⟨0,0,none⟩=some (.int .i64 m):=h.1
theorem K7e{w:World}(h:env.GI w):∃ev,w.cell? ⟨1,0,none⟩=some ev/\(ev=.nilIface\/∃a b,ev=.iface a b):=h.2.1
theorem K7f{w:World}(h:env.GI w):∃ev,w.cell? ⟨2,0,none⟩=some ev/\(ev=.nilIface\/∃a b,ev=.iface a b):=h.2.2.1
theorem J0x{Φ:Nat->Nat->Prop}{w:World}{rs:List PV}{us:List Value}{e:Ending}(a:e=.returned (retV us))(d:us.length=rs.length)(f:∀b k,Φ b k->b<w.heap.size)(h:∀ (i:Nat) u r,us[i]?=some u->rs[i]?=some r->Rep Φ w u r):
 ∃ (us:List Value) (Φ':Nat->Nat->Prop),e=.returned (retV us)/\us.length=rs.length/\Below w.heap.size w w/\(∀b k,Φ b k->Φ' b k)/\(∀b k,Φ' b k->b<w.heap.size->Φ b k)/\(∀b k,Φ' b k->b<w.heap.size)/\∀ (i:Nat) u r,us[i]?=some u->rs[i]?=some r->Rep Φ' w u r:=
 ⟨us,Φ,a,d,Below.refl _ _,λ_ _ h=>h,λ_ _ h _=>h,f,h⟩
theorem Z5t{Φ:Nat->Nat->Prop}{w:World}{v:Value}{p:PV}(h:Rep Φ w v p):∀ (i:Nat) u r,[v][i]?=some u->[p][i]?=some r->Rep Φ w u r:=by
 intro i u r a b
 match i,a,b with
 | 0,a,b=>cases a;cases b;exact h
theorem J0o(s:Str)(c n:Int)(h:Q0h s c=some n):Good env 40 [.pv (.str s),.pv (.int .u8 c)] [] [.pv (.int .i64 n)] []:=by
 unfold Q0h at h
 cases h
 refine Good.lib (ps:=[.str s,.int .u8 c]) (rs:=[.int .i64 (Lib.indexByte s c.toNat.toUInt8)]) λw Φ vs _ b d a=>?_
 match vs,d with
 | [x,y],_=>
   have f:=Q2a (a 0 x _ rfl rfl)
   have hb:=Q2t (a 1 y _ rfl rfl)
   subst f hb
   refine(Tryz.strings_IndexByte ⟨⟨s⟩⟩ c w).mono λe w' ⟨g,i⟩=>?_
   subst i
   exact J0x (us:=[.int .i64 (Lib.indexByte s c.toNat.toUInt8)]) g rfl b (Z5t (.int _ _))
theorem K3e(s f a b:Str)(ok:Bool)(h:Z4k s f=some (a,b,ok)):Good env 161 [.pv (.str s),.pv (.str f)] [] [.pv (.str a),.pv (.str b),.pv (.bool ok)] []:=by
 unfold Z4k at h
 split at h
 ·rename_i hs
  have e:Lib.cut s f=(a,b,ok):=G3g h
  refine Good.lib (ps:=[.str s,.str f]) (rs:=[.str a,.str b,.bool ok]) λw Φ vs hG k l d=>?_
  obtain⟨m,o⟩:=X3k hG
  match vs,l with
  | [x,y],_=>
    have p:=Q2a (d 0 x _ rfl rfl)
    have hb:=Q2a (d 1 y _ rfl rfl)
    subst p hb
    refine(Tryz.strings_Cut ⟨⟨s⟩⟩ ⟨⟨f⟩⟩ m w hs o).mono λq w' ⟨t,n,z⟩=>?_
    subst z
    have j:q=.returned (.tuple #[.string ⟨⟨(Lib.cut s f).1⟩⟩,.string ⟨⟨(Lib.cut s f).2.1⟩⟩,.bool (Lib.cut s f).2.2]):=t
    rw[e]at j
    refine⟨[.string ⟨⟨a⟩⟩,.string ⟨⟨b⟩⟩,.bool ok],Φ,j,rfl,⟨rfl,rfl,rfl,G0o _,λ_ _=>rfl⟩,λ_ _ h=>h,λ_ _ h _=>h,k,λi u r g d=>?_⟩
    match i,g,d with
    | 0,g,d=>cases g;cases d;exact .str _
    | 1,g,d=>cases g;cases d;exact .str _
    | 2,g,d=>cases g;cases d;exact .bool _
 cases h
theorem X7r(xs:List Str)(g s:Str)(h:J3l xs g=some s):Good env 119 [.pv (.slice (xs.map PV.str)),.pv (.str g)] [] [.pv (.str s)] []:=by
 unfold J3l at h
 split at h
 ·rename_i p
  cases h
  obtain⟨p,F⟩:=p
  refine Good.lib (ps:=[.slice (xs.map PV.str),.str g]) (rs:=[.str (Lib.join xs g)]) λw Φ vs _ m H d=>?_
  match vs,H with
  | [a,b],_=>
    have hb:=Q2a (d 1 b _ rfl rfl)
    subst hb
    rcases J8n (d 0 a _ rfl rfl)with⟨rfl,rfl⟩|⟨A,cap,rfl,rfl,_⟩|⟨t,o,cap,rfl,I,_,z⟩
    ·refine(Tryz.strings_Join_none none 0 ⟨⟨g⟩⟩ w).mono λe w' ⟨l,n⟩=>?_
     subst n
     exact⟨[.string ⟨⟨[]⟩⟩],Φ,l,rfl,Below.refl _ _,λ_ _ h=>h,λ_ _ h _=>h,m,λi u r f d=>by
      match i,f,d with
      | 0,f,d=>cases f;cases d;exact .str _⟩
    ·refine(Tryz.strings_Join_none (some A) cap ⟨⟨g⟩⟩ w).mono λe w' ⟨l,n⟩=>?_
     subst n
     exact⟨[.string ⟨⟨[]⟩⟩],Φ,l,rfl,Below.refl _ _,λ_ _ h=>h,λ_ _ h _=>h,m,λi u r f d=>by
      match i,f,d with
      | 0,f,d=>cases f;cases d;exact .str _⟩
    cases xs with
    | nil=>
      refine(Tryz.strings_Join_none (some ⟨t,o,none⟩) cap ⟨⟨g⟩⟩ w).mono λe w' ⟨l,n⟩=>?_
      subst n
      exact⟨[.string ⟨⟨[]⟩⟩],Φ,l,rfl,Below.refl _ _,λ_ _ h=>h,λ_ _ h _=>h,m,λi u r f d=>by
       match i,f,d with
       | 0,f,d=>cases f;cases d;exact .str _⟩
    | cons x xs=>
      have C:((x::xs).map λs=>(⟨⟨s⟩⟩:ByteArray)).map (·.data.toList)=x::xs:=by
       rw[List.map_map]
       exact List.map_id _
      have q:((x::xs).map λs=>(⟨⟨s⟩⟩:ByteArray)).length=(x::xs).length:=G1m _
      have D:=Tryz.strings_Join t o cap ((x::xs).map λs=>⟨⟨s⟩⟩) ⟨⟨g⟩⟩ w (λj y E=>by
       rw[G0x]at E
       obtain⟨s,hs,rfl⟩:=G0g.1 E
       exact(z j s hs).2) (m _ _ (z 0 x rfl).1) (by rw[q];exact F) (by rw[q];exact I) (by rw[C];exact p)
      rw[C,q]at D
      refine D.mono λe w' ⟨l,hb⟩=>?_
      exact⟨[.string ⟨⟨Lib.join (x::xs) g⟩⟩],Φ,l,rfl,hb,λ_ _ h=>h,λ_ _ h _=>h,λb k h=>G1f (m b k h) hb.size,λi u r f d=>by
       match i,f,d with
       | 0,f,d=>cases f;cases d;exact .str _⟩
 cases h
theorem J0m(b:Str)(c:Int)(d:Str)(h:Q1v b c=some d):Good env 121 [.ref 0 0,.pv (.int .u8 c)] [.bld b] [.pv .nil] [.bld d]:=by
 unfold Q1v at h
 split at h
 ·rename_i a
  cases h
  obtain⟨k,l,e⟩:=a
  have g:((c.toNat.toUInt8).toNat:Int)=c:=by
   have i:(c.toNat.toUInt8).toNat=c.toNat % 256:=rfl
   rw[i,G6w (by omega)]
   omega
  have:=Good.writeByte (E:=env) (f:=121) (λb p v bs w c j a=>J3v Tryz.lays167 Tryz.Builder_Extra_167 c j a) b c.toNat.toUInt8 e
  rw[g]at this
  exact this
 cases h
theorem Z6b(b s:Str)(n:Int)(c:Str)(h:Q1k b s=some (n,c)):Good env 123 [.ref 0 0,.pv (.str s)] [.bld b] [.pv (.int .i64 n),.pv (.nil)] [.bld c]:=by
 unfold Q1k at h
 split at h
 ·rename_i a
  cases h
  exact Good.writeString (E:=env) (f:=123) (λb p v bs w s d a=>Z9p Tryz.lays166 Tryz.Builder_Extra_166 s d a) b s a
 cases h
theorem J9r(b s:Str)(h:Q3z b=some s):Good env 36 [.ref 0 0] [.bld b] [.pv (.str s)] [.gone]:=by
 unfold Q3z at h
 cases h
 exact Good.string (E:=env) (f:=36) (λb p v l w a=>X6t Tryz.lays169 Tryz.Builder_Extra_169 a) b
theorem J9s(s:Str)(n:Int)(t:Str)(h:Q2r s n=some t):Good env 124 [.pv (.str s),.pv (.int .i64 n)] [] [.pv (.str t)] []:=by
 unfold Q2r at h
 split at h
 ·rename_i f
  cases h
  obtain⟨g,p,i⟩:=f
  refine Good.lib (ps:=[.str s,.int .i64 n]) (rs:=[.str (Lib.repeatL s n.toNat)]) λw Φ vs _ j l a=>?_
  match vs,l with
  | [x,y],_=>
    have m:=Q2a (a 0 x _ rfl rfl)
    have hb:=Q2t (a 1 y _ rfl rfl)
    subst m hb
    have d:=Tryz.strings_Repeat ⟨⟨s⟩⟩ n.toNat w (by omega) i
    rw[G4w g]at d
    refine d.mono λe w' ⟨o,hb⟩=>?_
    exact⟨[.string ⟨⟨Lib.repeatL s n.toNat⟩⟩],Φ,o,rfl,hb,λ_ _ h=>h,λ_ _ h _=>h,λb k h=>G1f (j b k h) hb.size,Z5t (.str _)⟩
 cases h
theorem J3x{Φ:Nat->Nat->Prop}{w:World}{v u:Value}{p q:PV}(h:Rep Φ w v p)(k:Rep Φ w u q):∀ (i:Nat) x r,[v,u][i]?=some x->[p,q][i]?=some r->Rep Φ w x r:=by
 intro i x r a b
 match i,a,b with
 | 0,a,b=>cases a;cases b;exact h
 | 1,a,b=>cases a;cases b;exact k
theorem X7t(s:Str)(n:Int)(bad:Bool)(h:Z1v s=some (n,bad)):Good env 199 [.pv (.str s)] [] [.pv (.int .i64 n),.pv ((bif bad then PV.ifc else PV.nil))] []:=by
 unfold Z1v at h
 split at h
 ·rename_i hs
  refine Good.lib (ps:=[.str s]) (rs:=[.int .i64 n,bif bad then PV.ifc else PV.nil]) λw Φ vs hG f i j=>?_
  match vs,i with
  | [x],_=>
    have l:=Q2a (j 0 x _ rfl rfl)
    subst l
    have g:(⟨⟨s⟩⟩:ByteArray).size=s.length:=rfl
    have hd:(⟨⟨s⟩⟩:ByteArray).data.toList=s:=rfl
    obtain⟨m,c3,o⟩:=K7e hG
    obtain⟨p,c4,q⟩:=K7f hG
    split at h
    ·rename_i v a
     cases h
     refine(Tryz.strconv_Atoi_ok ⟨⟨s⟩⟩ (by rw[g];omega) n (by rw[hd];exact a) w).mono λe w' ⟨d,r⟩=>?_
     have hb:Below w.heap.size w w':=by
      rcases r with rfl|⟨t,rfl⟩
      ·exact Below.refl _ _
      exact Lib.bytesWorld_below _ _ _
     exact⟨[.int .i64 n,.nilIface],Φ,d,rfl,hb,λ_ _ h=>h,λ_ _ h _=>h,λb k h=>G1f (f b k h) hb.size,J3x (.int _ _) .nil⟩
    ·rename_i a
     cases h
     refine(Tryz.strconv_Atoi_syntax ⟨⟨s⟩⟩ (by rw[g];omega) (by rw[hd];exact a) m w c3 o).mono λe w' ⟨N,d,_,_,hb⟩=>?_
     exact⟨[.int .i64 0,_],Φ,d,rfl,hb,λ_ _ h=>h,λ_ _ h _=>h,λb k h=>G1f (f b k h) hb.size,J3x (.int _ _) (.ifc _ _)⟩
    rename_i a
    cases h
    refine(Tryz.strconv_Atoi_range ⟨⟨s⟩⟩ (by rw[g];omega) (by rw[hd];exact a) p w c4 q).mono λe w' ⟨N,d,_,_,hb⟩=>?_
    exact⟨[.int .i64 (Lib.atoiSat s),_],Φ,d,rfl,hb,λ_ _ h=>h,λ_ _ h _=>h,λb k h=>G1f (f b k h) hb.size,J3x (.int _ _) (.ifc _ _)⟩
 cases h
theorem X7s(n:Int)(s:Str)(h:Q9z n=some s):Good env 189 [.pv (.int .i64 n)] [] [.pv (.str s)] []:=by
 unfold Q9z at h
 split at h
 ·rename_i b
  cases h
  obtain⟨d,m⟩:=b
  refine Good.lib (ps:=[.int .i64 n]) (rs:=[.str (Lib.decDigits n.toNat)]) λw Φ vs _ f g i=>?_
  match vs,g with
  | [x],_=>
    have j:=Q2t (i 0 x _ rfl rfl)
    subst j
    have a:=Tryz.strconv_Itoa_small n.toNat (by omega) w
    rw[G4w d]at a
    refine a.mono λe w' ⟨k,l⟩=>?_
    subst l
    exact J0x (us:=[.string ⟨⟨Lib.decDigits n.toNat⟩⟩]) k rfl f (Z5t (.str _))
 cases h
theorem J0n(s p:Str)(ok:Bool)(h:Q5f s p=some ok):Good env 169 [.pv (.str s),.pv (.str p)] [] [.pv (.bool ok)] []:=by
 unfold Q5f at h
 split at h
 ·rename_i hs
  cases h
  refine Good.lib (ps:=[.str s,.str p]) (rs:=[.bool (Lib.contains s p)]) λw Φ vs hG f g d=>?_
  obtain⟨m,i⟩:=X3k hG
  match vs,g with
  | [a,b],_=>
    have j:=Q2a (d 0 a _ rfl rfl)
    have hb:=Q2a (d 1 b _ rfl rfl)
    subst j hb
    refine(Tryz.strings_Contains ⟨⟨s⟩⟩ ⟨⟨p⟩⟩ m w hs i).mono λe w' ⟨k,l⟩=>?_
    subst l
    exact J0x (us:=[.bool (Lib.contains s p)]) k rfl f (Z5t (.bool _))
 cases h
theorem Z7u(s old a t:Str)(h:Q6d s old a=some t):Good env 216 [.pv (.str s),.pv (.str old),.pv (.str a)] [] [.pv (.str t)] []:=by
 unfold Q6d at h
 split at h
 ·rename_i d
  cases h
  obtain⟨g,i,j⟩:=d
  refine Good.lib (ps:=[.str s,.str old,.str a]) (rs:=[.str (Lib.replaceAll s old a)]) λw Φ vs hG l n f=>?_
  obtain⟨m,o⟩:=X3k hG
  match vs,n with
  | [x,y,z],_=>
    have p:=Q2a (f 0 x _ rfl rfl)
    have hb:=Q2a (f 1 y _ rfl rfl)
    have d:=Q2a (f 2 z _ rfl rfl)
    subst p hb d
    refine(Tryz.strings_ReplaceAll ⟨⟨s⟩⟩ ⟨⟨old⟩⟩ ⟨⟨a⟩⟩ m w g o i j).mono λe w' ⟨q,hb⟩=>?_
    exact⟨[.string ⟨⟨Lib.replaceAll s old a⟩⟩],Φ,q,rfl,hb,λ_ _ h=>h,λ_ _ h _=>h,λb k h=>G1f (l b k h) hb.size,Z5t (.str _)⟩
 cases h
end Go.Abs.U48
