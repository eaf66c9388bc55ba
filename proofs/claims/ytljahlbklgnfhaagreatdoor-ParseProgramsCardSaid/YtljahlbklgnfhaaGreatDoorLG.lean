import Derived.Test.YtljahlbklgnfhaaGreatDoorA39
import Derived.Test.YtljahlbklgnfhaaGreatDoorA41
import Derived.Test.YtljahlbklgnfhaaGreatDoorLB
import Derived.Test.YtljahlbklgnfhaaGreatDoorL1
import Derived.Test.YtljahlbklgnfhaaGreatDoorL2
set_option linter.unusedVariables false
set_option linter.unusedSimpArgs false
set_option linter.defProp false
namespace Go.Abs.U48
open Go.RowKit Go.Proofs
theorem X0i{w:World}(h:env.GI w):∃m,w.cell? ⟨0,0,none⟩=some (.int .i64 m):=h.1
theorem K2n{w:World}(h:env.GI w):∃ev,w.cell? ⟨1,0,none⟩=some ev∧(ev=.nilIface∨∃te pe,ev=.iface te pe):=h.2.1
theorem K2o{w:World}(h:env.GI w):∃ev,w.cell? ⟨2,0,none⟩=some ev∧(ev=.nilIface∨∃te pe,ev=.iface te pe):=h.2.2.1
theorem Z8p{Φ:Nat→Nat→Prop}{w:World}{rs:List PV}{us:List Value}{e:Ending}(he:e=.returned (retV us))(hl:us.length=rs.length)(hΦ:∀b k,Φ b k→b<w.heap.size)(h:∀ (i:Nat) u r,us[i]?=some u→rs[i]?=some r→Rep Φ w u r):
 ∃ (us:List Value) (Φ':Nat→Nat→Prop),e=.returned (retV us)∧us.length=rs.length∧Below w.heap.size w w∧(∀b k,Φ b k→Φ' b k)∧(∀b k,Φ' b k→b<w.heap.size→Φ b k)∧(∀b k,Φ' b k→b<w.heap.size)∧∀ (i:Nat) u r,us[i]?=some u→rs[i]?=some r→Rep Φ' w u r:=
 ⟨us,Φ,he,hl,Below.refl _ _,fun _ _ h=>h,fun _ _ h _=>h,hΦ,h⟩
theorem Z3z{Φ:Nat→Nat→Prop}{w:World}{v:Value}{p:PV}(h:Rep Φ w v p):∀ (i:Nat) u r,[v][i]?=some u→[p][i]?=some r→Rep Φ w u r:=by
 intro i u r hu hr
 match i,hu,hr with
 | 0,hu,hr=>cases hu;cases hr;exact h
theorem Z8h(s:Str)(c n:Int)(h:Q0m s c=some n):Good env 40 [.pv (.str s),.pv (.int .u8 c)] [] [.pv (.int .i64 n)] []:=by
 unfold Q0m at h
 cases h
 refine Good.lib (ps:=[.str s,.int .u8 c]) (rs:=[.int .i64 (Lib.indexByte s c.toNat.toUInt8)]) fun w Φ vs _ hΦ hl hr=>?_
 match vs,hl with
 | [x,y],_=>
   have ha:=Q1u (hr 0 x _ rfl rfl)
   have hb:=Q2j (hr 1 y _ rfl rfl)
   subst ha hb
   refine(Tryz.strings_IndexByte ⟨⟨s⟩⟩ c w).mono fun e w' ⟨he,hw⟩=>?_
   subst hw
   exact Z8p (us:=[.int .i64 (Lib.indexByte s c.toNat.toUInt8)]) he rfl hΦ (Z3z (.int _ _))
theorem X9i(s sep a b:Str)(ok:Bool)(h:Z5y s sep=some (a,b,ok)):Good env 161 [.pv (.str s),.pv (.str sep)] [] [.pv (.str a),.pv (.str b),.pv (.bool ok)] []:=by
 unfold Z5y at h
 split at h
 ·rename_i hs
  have e:Lib.cut s sep=(a,b,ok):=Option.some.inj h
  refine Good.lib (ps:=[.str s,.str sep]) (rs:=[.str a,.str b,.bool ok]) fun w Φ vs hG hΦ hl hr=>?_
  obtain⟨m,hm⟩:=X0i hG
  match vs,hl with
  | [x,y],_=>
    have ha:=Q1u (hr 0 x _ rfl rfl)
    have hb:=Q1u (hr 1 y _ rfl rfl)
    subst ha hb
    refine(Tryz.strings_Cut ⟨⟨s⟩⟩ ⟨⟨sep⟩⟩ m w hs hm).mono fun e' w' ⟨he,n,hw⟩=>?_
    subst hw
    have he2:e'=.returned (.tuple #[.string ⟨⟨(Lib.cut s sep).1⟩⟩,.string ⟨⟨(Lib.cut s sep).2.1⟩⟩,.bool (Lib.cut s sep).2.2]):=he
    rw[e]at he2
    refine⟨[.string ⟨⟨a⟩⟩,.string ⟨⟨b⟩⟩,.bool ok],Φ,he2,rfl,⟨rfl,rfl,rfl,Nat.le_refl _,fun _ _=>rfl⟩,fun _ _ h=>h,fun _ _ h _=>h,hΦ,fun i u r hu hr=>?_⟩
    match i,hu,hr with
    | 0,hu,hr=>cases hu;cases hr;exact .str _
    | 1,hu,hr=>cases hu;cases hr;exact .str _
    | 2,hu,hr=>cases hu;cases hr;exact .bool _
 cases h
theorem X4g(xs:List Str)(sep s:Str)(h:J4t xs sep=some s):Good env 119 [.pv (.slice (xs.map PV.str)),.pv (.str sep)] [] [.pv (.str s)] []:=by
 unfold J4t at h
 split at h
 ·rename_i hj
  cases h
  obtain⟨hj,hx⟩:=hj
  refine Good.lib (ps:=[.slice (xs.map PV.str),.str sep]) (rs:=[.str (Lib.join xs sep)]) fun w Φ vs _ hΦ hl hr=>?_
  match vs,hl with
  | [a,b],_=>
    have hb:=Q1u (hr 1 b _ rfl rfl)
    subst hb
    rcases J5x (hr 0 a _ rfl rfl)with⟨rfl,rfl⟩|⟨A,cap,rfl,rfl,_⟩|⟨bk,o,cap,rfl,hc,_,hcell⟩
    ·refine(Tryz.strings_Join_none none 0 ⟨⟨sep⟩⟩ w).mono fun e w' ⟨he,hw⟩=>?_
     subst hw
     exact⟨[.string ⟨⟨[]⟩⟩],Φ,he,rfl,Below.refl _ _,fun _ _ h=>h,fun _ _ h _=>h,hΦ,fun i u r hu hr=>by
      match i,hu,hr with
      | 0,hu,hr=>cases hu;cases hr;exact .str _⟩
    ·refine(Tryz.strings_Join_none (some A) cap ⟨⟨sep⟩⟩ w).mono fun e w' ⟨he,hw⟩=>?_
     subst hw
     exact⟨[.string ⟨⟨[]⟩⟩],Φ,he,rfl,Below.refl _ _,fun _ _ h=>h,fun _ _ h _=>h,hΦ,fun i u r hu hr=>by
      match i,hu,hr with
      | 0,hu,hr=>cases hu;cases hr;exact .str _⟩
    cases xs with
    | nil=>
      refine(Tryz.strings_Join_none (some ⟨bk,o,none⟩) cap ⟨⟨sep⟩⟩ w).mono fun e w' ⟨he,hw⟩=>?_
      subst hw
      exact⟨[.string ⟨⟨[]⟩⟩],Φ,he,rfl,Below.refl _ _,fun _ _ h=>h,fun _ _ h _=>h,hΦ,fun i u r hu hr=>by
       match i,hu,hr with
       | 0,hu,hr=>cases hu;cases hr;exact .str _⟩
    | cons x xs=>
      have hmap:((x::xs).map fun s=>(⟨⟨s⟩⟩:ByteArray)).map (·.data.toList)=x::xs:=by
       rw[List.map_map]
       exact List.map_id _
      have hlen:((x::xs).map fun s=>(⟨⟨s⟩⟩:ByteArray)).length=(x::xs).length:=List.length_map _
      have h0:=Tryz.strings_Join bk o cap ((x::xs).map fun s=>⟨⟨s⟩⟩) ⟨⟨sep⟩⟩ w (fun j y hy=>by
       rw[List.getElem?_map]at hy
       obtain⟨s,hs,rfl⟩:=Option.map_eq_some_iff.1 hy
       exact(hcell j s hs).2) (hΦ _ _ (hcell 0 x rfl).1) (by rw[hlen];exact hx) (by rw[hlen];exact hc) (by rw[hmap];exact hj)
      rw[hmap,hlen]at h0
      refine h0.mono fun e w' ⟨he,hb⟩=>?_
      exact⟨[.string ⟨⟨Lib.join (x::xs) sep⟩⟩],Φ,he,rfl,hb,fun _ _ h=>h,fun _ _ h _=>h,fun b k h=>Nat.lt_of_lt_of_le (hΦ b k h) hb.size,fun i u r hu hr=>by
       match i,hu,hr with
       | 0,hu,hr=>cases hu;cases hr;exact .str _⟩
 cases h
theorem Z8f(b:Str)(c:Int)(d:Str)(h:Q3e b c=some d):Good env 121 [.ref 0 0,.pv (.int .u8 c)] [.bld b] [.pv .nil] [.bld d]:=by
 unfold Q3e at h
 split at h
 ·rename_i hl
  cases h
  obtain⟨h0,h1,h2⟩:=hl
  have hc:((c.toNat.toUInt8).toNat:Int)=c:=by
   have h3:(c.toNat.toUInt8).toNat=c.toNat % 256:=rfl
   rw[h3,Nat.mod_eq_of_lt (by omega)]
   omega
  have:=Good.writeByte (E:=env) (f:=121) (fun b p v bs w c hB hl=>J1m Tryz.lays167 Tryz.Builder_Extra_167 c hB hl) b c.toNat.toUInt8 h2
  rw[hc]at this
  exact this
 cases h
theorem Z4f(b s:Str)(n:Int)(c:Str)(h:Q2i b s=some (n,c)):Good env 123 [.ref 0 0,.pv (.str s)] [.bld b] [.pv (.int .i64 n),.pv (.nil)] [.bld c]:=by
 unfold Q2i at h
 split at h
 ·rename_i hl
  cases h
  exact Good.writeString (E:=env) (f:=123) (fun b p v bs w s hB hl=>Z7m Tryz.lays166 Tryz.Builder_Extra_166 s hB hl) b s hl
 cases h
theorem J7d(b s:Str)(h:Q8l b=some s):Good env 36 [.ref 0 0] [.bld b] [.pv (.str s)] [.gone]:=by
 unfold Q8l at h
 cases h
 exact Good.string (E:=env) (f:=36) (fun b p v l w hB=>X3j Tryz.lays169 Tryz.Builder_Extra_169 hB) b
theorem J7e(s:Str)(n:Int)(t:Str)(h:Q5j s n=some t):Good env 124 [.pv (.str s),.pv (.int .i64 n)] [] [.pv (.str t)] []:=by
 unfold Q5j at h
 split at h
 ·rename_i hc
  cases h
  obtain⟨h1,h2,h3⟩:=hc
  refine Good.lib (ps:=[.str s,.int .i64 n]) (rs:=[.str (Lib.repeatL s n.toNat)]) fun w Φ vs _ hΦ hl hr=>?_
  match vs,hl with
  | [x,y],_=>
    have ha:=Q1u (hr 0 x _ rfl rfl)
    have hb:=Q2j (hr 1 y _ rfl rfl)
    subst ha hb
    have h0:=Tryz.strings_Repeat ⟨⟨s⟩⟩ n.toNat w (by omega) h3
    rw[Int.toNat_of_nonneg h1]at h0
    refine h0.mono fun e w' ⟨he,hb⟩=>?_
    exact⟨[.string ⟨⟨Lib.repeatL s n.toNat⟩⟩],Φ,he,rfl,hb,fun _ _ h=>h,fun _ _ h _=>h,fun b k h=>Nat.lt_of_lt_of_le (hΦ b k h) hb.size,Z3z (.str _)⟩
 cases h
theorem J1o{Φ:Nat→Nat→Prop}{w:World}{v u:Value}{p q:PV}(h:Rep Φ w v p)(k:Rep Φ w u q):∀ (i:Nat) x r,[v,u][i]?=some x→[p,q][i]?=some r→Rep Φ w x r:=by
 intro i x r hu hr
 match i,hu,hr with
 | 0,hu,hr=>cases hu;cases hr;exact h
 | 1,hu,hr=>cases hu;cases hr;exact k
theorem X4i(s:Str)(n:Int)(bad:Bool)(h:J1c s=some (n,bad)):Good env 199 [.pv (.str s)] [] [.pv (.int .i64 n),.pv ((bif bad then PV.ifc else PV.nil))] []:=by
 unfold J1c at h
 split at h
 ·rename_i hs
  refine Good.lib (ps:=[.str s]) (rs:=[.int .i64 n,bif bad then PV.ifc else PV.nil]) fun w Φ vs hG hΦ hl hr=>?_
  match vs,hl with
  | [x],_=>
    have ha:=Q1u (hr 0 x _ rfl rfl)
    subst ha
    have hsz:(⟨⟨s⟩⟩:ByteArray).size=s.length:=rfl
    have hd:(⟨⟨s⟩⟩:ByteArray).data.toList=s:=rfl
    obtain⟨e3,c3,k3⟩:=K2n hG
    obtain⟨e4,c4,k4⟩:=K2o hG
    split at h
    ·rename_i v hv
     cases h
     refine(Tryz.strconv_Atoi_ok ⟨⟨s⟩⟩ (by rw[hsz];omega) n (by rw[hd];exact hv) w).mono fun e w' ⟨he,hw⟩=>?_
     have hb:Below w.heap.size w w':=by
      rcases hw with rfl|⟨t,rfl⟩
      ·exact Below.refl _ _
      exact Lib.bytesWorld_below _ _ _
     exact⟨[.int .i64 n,.nilIface],Φ,he,rfl,hb,fun _ _ h=>h,fun _ _ h _=>h,fun b k h=>Nat.lt_of_lt_of_le (hΦ b k h) hb.size,J1o (.int _ _) .nil⟩
    ·rename_i hv
     cases h
     refine(Tryz.strconv_Atoi_syntax ⟨⟨s⟩⟩ (by rw[hsz];omega) (by rw[hd];exact hv) e3 w c3 k3).mono fun e w' ⟨N,he,_,_,hb⟩=>?_
     exact⟨[.int .i64 0,_],Φ,he,rfl,hb,fun _ _ h=>h,fun _ _ h _=>h,fun b k h=>Nat.lt_of_lt_of_le (hΦ b k h) hb.size,J1o (.int _ _) (.ifc _ _)⟩
    rename_i hv
    cases h
    refine(Tryz.strconv_Atoi_range ⟨⟨s⟩⟩ (by rw[hsz];omega) (by rw[hd];exact hv) e4 w c4 k4).mono fun e w' ⟨N,he,_,_,hb⟩=>?_
    exact⟨[.int .i64 (Lib.atoiSat s),_],Φ,he,rfl,hb,fun _ _ h=>h,fun _ _ h _=>h,fun b k h=>Nat.lt_of_lt_of_le (hΦ b k h) hb.size,J1o (.int _ _) (.ifc _ _)⟩
 cases h
theorem X4h(n:Int)(s:Str)(h:J4u n=some s):Good env 189 [.pv (.int .i64 n)] [] [.pv (.str s)] []:=by
 unfold J4u at h
 split at h
 ·rename_i hc
  cases h
  obtain⟨h1,h2⟩:=hc
  refine Good.lib (ps:=[.int .i64 n]) (rs:=[.str (Lib.decDigits n.toNat)]) fun w Φ vs _ hΦ hl hr=>?_
  match vs,hl with
  | [x],_=>
    have ha:=Q2j (hr 0 x _ rfl rfl)
    subst ha
    have h0:=Tryz.strconv_Itoa_small n.toNat (by omega) w
    rw[Int.toNat_of_nonneg h1]at h0
    refine h0.mono fun e w' ⟨he,hw⟩=>?_
    subst hw
    exact Z8p (us:=[.string ⟨⟨Lib.decDigits n.toNat⟩⟩]) he rfl hΦ (Z3z (.str _))
 cases h
theorem Z8g(s p:Str)(ok:Bool)(h:Q4m s p=some ok):Good env 169 [.pv (.str s),.pv (.str p)] [] [.pv (.bool ok)] []:=by
 unfold Q4m at h
 split at h
 ·rename_i hs
  cases h
  refine Good.lib (ps:=[.str s,.str p]) (rs:=[.bool (Lib.contains s p)]) fun w Φ vs hG hΦ hl hr=>?_
  obtain⟨m,hm⟩:=X0i hG
  match vs,hl with
  | [a,b],_=>
    have ha:=Q1u (hr 0 a _ rfl rfl)
    have hb:=Q1u (hr 1 b _ rfl rfl)
    subst ha hb
    refine(Tryz.strings_Contains ⟨⟨s⟩⟩ ⟨⟨p⟩⟩ m w hs hm).mono fun e w' ⟨he,hw⟩=>?_
    subst hw
    exact Z8p (us:=[.bool (Lib.contains s p)]) he rfl hΦ (Z3z (.bool _))
 cases h
theorem Z5t(s old new t:Str)(h:Q5i s old new=some t):Good env 216 [.pv (.str s),.pv (.str old),.pv (.str new)] [] [.pv (.str t)] []:=by
 unfold Q5i at h
 split at h
 ·rename_i hc
  cases h
  obtain⟨h1,h2,h3⟩:=hc
  refine Good.lib (ps:=[.str s,.str old,.str new]) (rs:=[.str (Lib.replaceAll s old new)]) fun w Φ vs hG hΦ hl hr=>?_
  obtain⟨m,hm⟩:=X0i hG
  match vs,hl with
  | [x,y,z],_=>
    have ha:=Q1u (hr 0 x _ rfl rfl)
    have hb:=Q1u (hr 1 y _ rfl rfl)
    have hc:=Q1u (hr 2 z _ rfl rfl)
    subst ha hb hc
    refine(Tryz.strings_ReplaceAll ⟨⟨s⟩⟩ ⟨⟨old⟩⟩ ⟨⟨new⟩⟩ m w h1 hm h2 h3).mono fun e w' ⟨he,hb⟩=>?_
    exact⟨[.string ⟨⟨Lib.replaceAll s old new⟩⟩],Φ,he,rfl,hb,fun _ _ h=>h,fun _ _ h _=>h,fun b k h=>Nat.lt_of_lt_of_le (hΦ b k h) hb.size,Z3z (.str _)⟩
 cases h
end Go.Abs.U48
