import Derived.Test.YtkfcehagblhjaaaGreatDoorA39
import Derived.Test.YtkfcehagblhjaaaGreatDoorA41
import Derived.Test.YtkfcehagblhjaaaGreatDoorLB
import Derived.Test.YtkfcehagblhjaaaGreatDoorL1
import Derived.Test.YtkfcehagblhjaaaGreatDoorLC
import Derived.Test.YtkfcehagblhjaaaGreatDoorL2
set_option linter.unusedVariables false
set_option linter.unusedSimpArgs false
set_option linter.defProp false
namespace Go.Abs.U54
open Go.RowKit Go.Proofs
theorem gi_max{w:World}(h:env.GI w):∃m,w.cell? ⟨0,0,none⟩=some (.int .i64 m):=h.1
theorem gi_tab{w:World}(h:env.GI w):Lib.TabIs Tryz.prog w "internal/strconv.uint64pow10" .u64 Lib.pow10Tab:=h.2.2.2
theorem below_id{Φ:Nat→Nat→Prop}{w:World}{rs:List PV}{us:List Value}{e:Ending}(he:e=.returned (retV us))(hl:us.length=rs.length)(hΦ:∀b k,Φ b k→b<w.heap.size)(h:∀ (i:Nat) u r,us[i]?=some u→rs[i]?=some r→Rep Φ w u r):
 ∃ (us:List Value) (Φ':Nat→Nat→Prop),e=.returned (retV us)∧us.length=rs.length∧Below w.heap.size w w∧(∀b k,Φ b k→Φ' b k)∧(∀b k,Φ' b k→b<w.heap.size→Φ b k)∧(∀b k,Φ' b k→b<w.heap.size)∧∀ (i:Nat) u r,us[i]?=some u→rs[i]?=some r→Rep Φ' w u r:=
 ⟨us,Φ,he,hl,Below.refl _ _,fun _ _ h=>h,fun _ _ h _=>h,hΦ,h⟩
theorem one_rep{Φ:Nat→Nat→Prop}{w:World}{v:Value}{p:PV}(h:Rep Φ w v p):∀ (i:Nat) u r,[v][i]?=some u→[p][i]?=some r→Rep Φ w u r:=by
 intro i u r hu hr
 match i,hu,hr with
 | 0,hu,hr=>cases hu;cases hr;exact h
theorem flat_strs(xs:List Str):flat (xs.map PV.str)=xs.map PV.str:=by
 induction xs with
 | nil=>rfl
 | cons x xs ih=>rw[List.map_cons,flat_cons,ih];rfl
theorem strs_new{Φ:Nat→Nat→Prop}{w:World}{b cap:Nat}(xs:List Str)(hc:xs.length≤cap)(hm:cap≤maxLen)(hcell:∀ (k:Nat) x,xs[k]?=some x→Φ b k∧w.cell? ⟨b,k,none⟩=some (.string ⟨⟨x⟩⟩)):Rep Φ w (.slice (some ⟨b,0,none⟩) xs.length cap) (.slice (xs.map PV.str)):=by
 refine .slice b 0 xs.length cap 1 (xs.map PV.str) (fun k=>.string ⟨⟨xs.getD k []⟩⟩) (List.length_map _) hc hm (fun x hx=>?_) (fun c hc=>?_) (fun k hk=>?_) (fun k c hcc=>?_)
 ·obtain⟨y,_,rfl⟩:=List.mem_map.1 hx
  rfl
 ·rw[flat_strs]at hc
  obtain⟨y,_,rfl⟩:=List.mem_map.1 hc
  rfl
 ·rw[flat_strs,List.length_map]at hk
  have:=hcell k xs[k] (List.getElem?_eq_getElem hk)
  rw[Nat.zero_add,List.getD_eq_getElem?_getD,List.getElem?_eq_getElem hk]
  exact this
 rw[flat_strs,List.getElem?_map]at hcc
 obtain⟨y,hy,rfl⟩:=Option.map_eq_some_iff.1 hcc
 have:xs.getD k []=y:=by rw[List.getD_eq_getElem?_getD,hy];rfl
 rw[this]
 exact .str y
theorem g_L_IndexByte(s:Str)(c n:Int)(h:L_IndexByte s c=some n):Good env 90 [.pv (.str s),.pv (.int .u8 c)] [] [.pv (.int .i64 n)] []:=by
 unfold L_IndexByte at h
 cases h
 refine Good.lib (ps:=[.str s,.int .u8 c]) (rs:=[.int .i64 (Lib.indexByte s c.toNat.toUInt8)]) fun w Φ vs _ hΦ hl hr=>?_
 match vs,hl with
 | [x,y],_=>
   have ha:=rep_str (hr 0 x _ rfl rfl)
   have hb:=rep_int (hr 1 y _ rfl rfl)
   subst ha hb
   refine(Tryz.strings_IndexByte ⟨⟨s⟩⟩ c w).mono fun e w' ⟨he,hw⟩=>?_
   subst hw
   exact below_id (us:=[.int .i64 (Lib.indexByte s c.toNat.toUInt8)]) he rfl hΦ (one_rep (.int _ _))
theorem g_L_ReplaceAll(s old new t:Str)(h:L_ReplaceAll s old new=some t):Good env 44 [.pv (.str s),.pv (.str old),.pv (.str new)] [] [.pv (.str t)] []:=by
 unfold L_ReplaceAll at h
 split at h
 ·rename_i hc
  cases h
  obtain⟨h1,h2,h3⟩:=hc
  refine Good.lib (ps:=[.str s,.str old,.str new]) (rs:=[.str (Lib.replaceAll s old new)]) fun w Φ vs hG hΦ hl hr=>?_
  obtain⟨m,hm⟩:=gi_max hG
  match vs,hl with
  | [x,y,z],_=>
    have ha:=rep_str (hr 0 x _ rfl rfl)
    have hb:=rep_str (hr 1 y _ rfl rfl)
    have hc:=rep_str (hr 2 z _ rfl rfl)
    subst ha hb hc
    refine(Tryz.strings_ReplaceAll ⟨⟨s⟩⟩ ⟨⟨old⟩⟩ ⟨⟨new⟩⟩ m w h1 hm h2 h3).mono fun e w' ⟨he,hb⟩=>?_
    exact⟨[.string ⟨⟨Lib.replaceAll s old new⟩⟩],Φ,he,rfl,hb,fun _ _ h=>h,fun _ _ h _=>h,fun b k h=>Nat.lt_of_lt_of_le (hΦ b k h) hb.size,one_rep (.str _)⟩
 cases h
theorem g_L_WriteByte(b:Str)(c:Int)(d:Str)(h:L_WriteByte b c=some d):Good env 226 [.ref 0 0,.pv (.int .u8 c)] [.bld b] [.pv .nil] [.bld d]:=by
 unfold L_WriteByte at h
 split at h
 ·rename_i hl
  cases h
  obtain⟨h0,h1,h2⟩:=hl
  have hc:((c.toNat.toUInt8).toNat:Int)=c:=by
   have h3:(c.toNat.toUInt8).toNat=c.toNat % 256:=rfl
   rw[h3,Nat.mod_eq_of_lt (by omega)]
   omega
  have:=Good.writeByte (E:=env) (f:=226) (fun b p v bs w c hB hl=>writeByte_x Tryz.lays167 Tryz.Builder_Extra_167 c hB hl) b c.toNat.toUInt8 h2
  rw[hc]at this
  exact this
 cases h
theorem g_L_WriteString(b s:Str)(n:Int)(c:Str)(h:L_WriteString b s=some (n,c)):Good env 64 [.ref 0 0,.pv (.str s)] [.bld b] [.pv (.int .i64 n),.pv (.nil)] [.bld c]:=by
 unfold L_WriteString at h
 split at h
 ·rename_i hl
  cases h
  exact Good.writeString (E:=env) (f:=64) (fun b p v bs w s hB hl=>writeString_x Tryz.lays166 Tryz.Builder_Extra_166 s hB hl) b s hl
 cases h
theorem g_L_String(b s:Str)(h:L_String b=some s):Good env 65 [.ref 0 0] [.bld b] [.pv (.str s)] [.gone]:=by
 unfold L_String at h
 cases h
 exact Good.string (E:=env) (f:=65) (fun b p v l w hB=>string_x Tryz.lays169 Tryz.Builder_Extra_169 hB) b
theorem g_L_Repeat(s:Str)(n:Int)(t:Str)(h:L_Repeat s n=some t):Good env 178 [.pv (.str s),.pv (.int .i64 n)] [] [.pv (.str t)] []:=by
 unfold L_Repeat at h
 split at h
 ·rename_i hc
  cases h
  obtain⟨h1,h2,h3⟩:=hc
  refine Good.lib (ps:=[.str s,.int .i64 n]) (rs:=[.str (Lib.repeatL s n.toNat)]) fun w Φ vs _ hΦ hl hr=>?_
  match vs,hl with
  | [x,y],_=>
    have ha:=rep_str (hr 0 x _ rfl rfl)
    have hb:=rep_int (hr 1 y _ rfl rfl)
    subst ha hb
    have h0:=Tryz.strings_Repeat ⟨⟨s⟩⟩ n.toNat w (by omega) h3
    rw[Int.toNat_of_nonneg h1]at h0
    refine h0.mono fun e w' ⟨he,hb⟩=>?_
    exact⟨[.string ⟨⟨Lib.repeatL s n.toNat⟩⟩],Φ,he,rfl,hb,fun _ _ h=>h,fun _ _ h _=>h,fun b k h=>Nat.lt_of_lt_of_le (hΦ b k h) hb.size,one_rep (.str _)⟩
 cases h
theorem g_L_SContains(s p:Str)(ok:Bool)(h:L_SContains s p=some ok):Good env 59 [.pv (.str s),.pv (.str p)] [] [.pv (.bool ok)] []:=by
 unfold L_SContains at h
 split at h
 ·rename_i hs
  cases h
  refine Good.lib (ps:=[.str s,.str p]) (rs:=[.bool (Lib.contains s p)]) fun w Φ vs hG hΦ hl hr=>?_
  obtain⟨m,hm⟩:=gi_max hG
  match vs,hl with
  | [a,b],_=>
    have ha:=rep_str (hr 0 a _ rfl rfl)
    have hb:=rep_str (hr 1 b _ rfl rfl)
    subst ha hb
    refine(Tryz.strings_Contains ⟨⟨s⟩⟩ ⟨⟨p⟩⟩ m w hs hm).mono fun e w' ⟨he,hw⟩=>?_
    subst hw
    exact below_id (us:=[.bool (Lib.contains s p)]) he rfl hΦ (one_rep (.bool _))
 cases h
theorem g_L_CloneI(xs l:List Int)(h:L_CloneI xs=some l):Good env 109 [.pv (.slice (xs.map (PV.int .i64)))] [] [.vec 0 l.length] [.row 3 1 (l.map (PV.int .i64)) false]:=by
 unfold L_CloneI at h
 split at h
 ·rename_i hx
  cases h
  have:=Good.cloneRow (E:=env) (f:=109) (e:=3) (sz:=1) (bytes:=8) (by decide)
   (fun b off n c news w hl hn hb hc h1=>clone_I ⟨b,off,none⟩ n c news w hl hn hb (fun j u hu=>by rw[Addr.add_lit];exact hc j u hu) h1)
   (fun a c w=>(clone_I a 0 c [] w rfl (Nat.zero_le _) (by omega) (fun j u hu=>by simp at hu) (fun u hu=>by cases hu)).mono fun e' w' ⟨v',h1,h2,_,h3⟩=>⟨v',h1,h2,h3⟩)
   (fun n c w=>clone_I_nil n c w) (xs.map (PV.int .i64)) (by rw[List.length_map];omega) (fun x hx=>by obtain⟨y,_,rfl⟩:=List.mem_map.1 hx;rfl)
  rw[List.length_map]at this
  exact this
 cases h
theorem g_L_Clone(xs l:List Str)(h:L_Clone xs=some l):Good env 112 [.pv (.slice (xs.map PV.str))] [] [.pv (.slice (l.map PV.str))] []:=by
 unfold L_Clone at h
 split at h
 rotate_left
 ·cases h
 rename_i hx
 cases h
 refine Good.lib (ps:=[.slice (xs.map PV.str)]) (rs:=[.slice (xs.map PV.str)]) fun w Φ vs _ hΦ hl hr=>?_
 have own:∀ (w':World) (v:Value),w'.ownsRow w.heap.size 9 1 v xs.length (xs.map fun s=>Value.string ⟨⟨s⟩⟩)→Below w.heap.size w w'→∀e,e=Ending.returned v→
  ∃ (us:List Value) (Φ':Nat→Nat→Prop),e=.returned (retV us)∧us.length=[PV.slice (xs.map PV.str)].length∧Below w.heap.size w w'∧(∀b k,Φ b k→Φ' b k)∧(∀b k,Φ' b k→b<w.heap.size→Φ b k)∧(∀b k,Φ' b k→b<w'.heap.size)∧∀ (i:Nat) u r,us[i]?=some u→[PV.slice (xs.map PV.str)][i]?=some r→Rep Φ' w' u r:=by
  intro w' v hown hb e he
  rcases hown.2 with⟨hv,hn⟩|⟨b,cap,cur,hv,hlo,hbk,hnc,hcm,hcs,htake⟩
  ·have:xs=[]:=List.eq_nil_of_length_eq_zero hn
   subst this hv
   exact⟨[.slice none 0 0],Φ,he,rfl,hb,fun _ _ h=>h,fun _ _ h _=>h,fun b k h=>Nat.lt_of_lt_of_le (hΦ b k h) hb.size,one_rep .sliceNil⟩
  subst hv
  refine⟨[.slice (some ⟨b,0,none⟩) xs.length cap],fun c k=>Φ c k∨(c=b∧k<xs.length),he,rfl,hb,fun _ _ h=>.inl h,fun c k h hc=>?_,fun c k h=>?_,one_rep (strs_new xs hnc hcm fun k x hxk=>⟨.inr ⟨rfl,(List.getElem?_eq_some_iff.1 hxk).1⟩,?_⟩)⟩
  ·rcases h with h|⟨h,_⟩
   ·exact h
   omega
  ·rcases h with h|⟨h,_⟩
   ·exact Nat.lt_of_lt_of_le (hΦ c k h) hb.size
   rw[h]
   exact(Array.getElem?_eq_some_iff.1 hbk).1
  have:=hown.cells (g:=b) (by rfl) k (.string ⟨⟨x⟩⟩) (by rw[List.getElem?_map,hxk];rfl)
  rw[Addr.add_lit,Nat.zero_add]at this
  exact this
 match vs,hl with
 | [a],_=>
   rcases strs_cells (hr 0 a _ rfl rfl)with⟨rfl,rfl⟩|⟨A,cap,rfl,rfl,_⟩|⟨bk,o,cap,rfl,hc,hm,hcell⟩
   ·refine(Tryz.slices_Clone_string_nil 0 0 w).mono fun e w' ⟨he,hw⟩=>?_
    subst hw
    exact below_id (us:=[.slice none 0 0]) he rfl hΦ (one_rep .sliceNil)
   ·refine(Tryz.slices_Clone_string_zero A cap w).mono fun e w' ⟨v,he,hown,_,hb⟩=>?_
    exact own w' v hown hb e he
   have hlen:(xs.map fun s=>(⟨⟨s⟩⟩:ByteArray)).length=xs.length:=List.length_map _
   refine(Tryz.slices_Clone_string bk o xs.length cap (xs.map fun s=>⟨⟨s⟩⟩) w (by omega) (by omega) (fun j hj=>?_)).mono fun e w' ⟨v,he,hown,_,hb⟩=>?_
   ·rw[hlen]at hj
    rw[(hcell j xs[j] (List.getElem?_eq_getElem hj)).2]
    simp[List.getD_eq_getElem?_getD,hj]
   rw[List.take_of_length_le (by omega),List.map_map]at hown
   exact own w' v hown hb e he
theorem g_L_CloneQ(xs l:List Qid)(h:L_CloneQ xs=some l):Good env 113 [.pv (.slice (xs.map Qid.pv))] [] [.vec 0 l.length] [.row 68 3 (l.map Qid.pv) false]:=by
 unfold L_CloneQ at h
 split at h
 ·rename_i hx
  cases h
  have:=Good.cloneRow (E:=env) (f:=113) (e:=68) (sz:=3) (bytes:=24) (by decide)
   (fun b off n c news w hl hn hb hc h1=>clone_Q ⟨b,off,none⟩ n c news w hl hn hb (fun j u hu=>by rw[Addr.add_lit];exact hc j u hu) h1)
   (fun a c w=>(clone_Q a 0 c [] w rfl (Nat.zero_le _) (by omega) (fun j u hu=>by simp at hu) (fun u hu=>by cases hu)).mono fun e' w' ⟨v',h1,h2,_,h3⟩=>⟨v',h1,h2,h3⟩)
   (fun n c w=>clone_Q_nil n c w) (xs.map Qid.pv) (by rw[List.length_map];omega) (fun x hx=>by obtain⟨y,_,rfl⟩:=List.mem_map.1 hx;rfl)
  rw[List.length_map]at this
  exact this
 cases h
theorem g_L_Join(xs:List Str)(sep s:Str)(h:L_Join xs sep=some s):Good env 21 [.pv (.slice (xs.map PV.str)),.pv (.str sep)] [] [.pv (.str s)] []:=by
 unfold L_Join at h
 split at h
 ·rename_i hj
  cases h
  obtain⟨hj,hx⟩:=hj
  refine Good.lib (ps:=[.slice (xs.map PV.str),.str sep]) (rs:=[.str (Lib.join xs sep)]) fun w Φ vs _ hΦ hl hr=>?_
  match vs,hl with
  | [a,b],_=>
    have hb:=rep_str (hr 1 b _ rfl rfl)
    subst hb
    rcases strs_cells (hr 0 a _ rfl rfl)with⟨rfl,rfl⟩|⟨A,cap,rfl,rfl,_⟩|⟨bk,o,cap,rfl,hc,_,hcell⟩
    ·refine(Tryz.strings_Join_none none 0 ⟨⟨sep⟩⟩ w).mono fun e w' ⟨he,hw⟩=>?_
     subst hw
     exact⟨[.string ⟨⟨[]⟩⟩],Φ,he,rfl,Below.refl _ _,fun _ _ h=>h,fun _ _ h _=>h,hΦ,fun i u r hu hr=>by
      match i,hu,hr with
      | 0,hu,hr=>cases hu;cases hr;exact .str _⟩
    ·refine(Tryz.strings_Join_none (some A) cap ⟨⟨sep⟩⟩ w).mono fun e w' ⟨he,hw⟩=>?_
     subst hw
     exact⟨[.string ⟨⟨[]⟩⟩],Φ,he,rfl,Below.refl _ _,fun _ _ h=>h,fun _ _ h _=>h,hΦ,fun i u r hu hr=>by
      match i,hu,hr with
      | 0,hu,hr=>cases hu;cases hr;exact .str _⟩
    cases xs with
    | nil=>
      refine(Tryz.strings_Join_none (some ⟨bk,o,none⟩) cap ⟨⟨sep⟩⟩ w).mono fun e w' ⟨he,hw⟩=>?_
      subst hw
      exact⟨[.string ⟨⟨[]⟩⟩],Φ,he,rfl,Below.refl _ _,fun _ _ h=>h,fun _ _ h _=>h,hΦ,fun i u r hu hr=>by
       match i,hu,hr with
       | 0,hu,hr=>cases hu;cases hr;exact .str _⟩
    | cons x xs=>
      have hmap:((x::xs).map fun s=>(⟨⟨s⟩⟩:ByteArray)).map (·.data.toList)=x::xs:=by
       rw[List.map_map]
       exact List.map_id _
      have hlen:((x::xs).map fun s=>(⟨⟨s⟩⟩:ByteArray)).length=(x::xs).length:=List.length_map _
      have h0:=Tryz.strings_Join bk o cap ((x::xs).map fun s=>⟨⟨s⟩⟩) ⟨⟨sep⟩⟩ w (fun j y hy=>by
       rw[List.getElem?_map]at hy
       obtain⟨s,hs,rfl⟩:=Option.map_eq_some_iff.1 hy
       exact(hcell j s hs).2) (hΦ _ _ (hcell 0 x rfl).1) (by rw[hlen];exact hx) (by rw[hlen];exact hc) (by rw[hmap];exact hj)
      rw[hmap,hlen]at h0
      refine h0.mono fun e w' ⟨he,hb⟩=>?_
      exact⟨[.string ⟨⟨Lib.join (x::xs) sep⟩⟩],Φ,he,rfl,hb,fun _ _ h=>h,fun _ _ h _=>h,fun b k h=>Nat.lt_of_lt_of_le (hΦ b k h) hb.size,fun i u r hu hr=>by
       match i,hu,hr with
       | 0,hu,hr=>cases hu;cases hr;exact .str _⟩
 cases h
theorem g_L_FormatInt(n b:Int)(s:Str)(h:L_FormatInt n b=some s):Good env 134 [.pv (.int .i64 n),.pv (.int .i64 b)] [] [.pv (.str s)] []:=by
 unfold L_FormatInt at h
 split at h
 ·rename_i hc
  cases h
  obtain⟨h0,h1,h2⟩:=hc
  subst h0
  refine Good.lib (ps:=[.int .i64 n,.int .i64 10]) (rs:=[.str (Lib.itoa n)]) fun w Φ vs hg hΦ hl hr=>?_
  match vs,hl with
  | [x,y],_=>
    have ha:=rep_int (hr 0 x _ rfl rfl)
    have hb:=rep_int (hr 1 y _ rfl rfl)
    subst ha hb
    refine(Tryz.internal_strconv_FormatInt_10 n h1 h2 w (gi_tab hg)).mono fun e w' ⟨he,k,os,hw⟩=>?_
    have hb:Below w.heap.size w w':=by
     subst hw
     refine⟨rfl,rfl,rfl,?_,fun b hb=>?_⟩
     ·show w.heap.size≤(w.heap++os).size
      rw[Array.size_append]
      omega
     show(w.heap++os)[b]?=w.heap[b]?
     exact Array.getElem?_append_left hb
    exact⟨[.string ⟨⟨Lib.itoa n⟩⟩],Φ,he,rfl,hb,fun _ _ h=>h,fun _ _ h _=>h,fun b k h=>Nat.lt_of_lt_of_le (hΦ b k h) hb.size,one_rep (.str _)⟩
 cases h
theorem g_L_Len64(x n:Int)(h:L_Len64 x=some n):Good env 144 [.pv (.int .u64 x)] [] [.pv (.int .i64 n)] []:=by
 unfold L_Len64 at h
 split at h
 ·rename_i hc
  cases h
  refine Good.lib (ps:=[.int .u64 x]) (rs:=[.int .i64 (Lib.bitLen x.toNat:Nat)]) fun w Φ vs hg hΦ hl hr=>?_
  match vs,hl with
  | [y],_=>
    have ha:=rep_int (hr 0 y _ rfl rfl)
    subst ha
    refine(Tryz.bits_Len64 x w hc.1 hc.2).mono fun e w' ⟨he,hw⟩=>?_
    subst hw
    exact below_id (us:=[.int .i64 (Lib.bitLen x.toNat:Nat)]) he rfl hΦ (one_rep (.int _ _))
 cases h
theorem g_L_Compare(a b:Str)(n:Int)(h:L_Compare a b=some n):Good env 71 [.pv (.str a),.pv (.str b)] [] [.pv (.int .i64 n)] []:=by
 cases h
 refine Good.lib (ps:=[.str a,.str b]) (rs:=[.int .i64 (Lib.compareBytes a b)]) fun w Φ vs hg hΦ hl hr=>?_
 match vs,hl with
 | [x,y],_=>
   have ha:=rep_str (hr 0 x _ rfl rfl)
   have hb:=rep_str (hr 1 y _ rfl rfl)
   subst ha hb
   refine(Tryz.bytealg_CompareString ⟨⟨a⟩⟩ ⟨⟨b⟩⟩ w).mono fun e w' ⟨he,hw⟩=>?_
   subst hw
   exact below_id (us:=[.int .i64 (Lib.compareBytes a b)]) he rfl hΦ (one_rep (.int _ _))
theorem g_L_CloneA(xs l:List Attr)(h:L_CloneA xs=some l):Good env 146 [.pv (.slice (xs.map Attr.pv))] [] [.vec 0 l.length] [.row 137 3 (l.map Attr.pv) false]:=by
 unfold L_CloneA at h
 split at h
 ·rename_i hx
  cases h
  have:=Good.cloneRow (E:=env) (f:=146) (e:=137) (sz:=3) (bytes:=40) (by decide)
   (fun b off n c news w hl hn hb hc h1=>clone_A ⟨b,off,none⟩ n c news w hl hn hb (fun j u hu=>by rw[Addr.add_lit];exact hc j u hu) h1)
   (fun a c w=>(clone_A a 0 c [] w rfl (Nat.zero_le _) (by omega) (fun j u hu=>by simp at hu) (fun u hu=>by cases hu)).mono fun e' w' ⟨v',h1,h2,_,h3⟩=>⟨v',h1,h2,h3⟩)
   (fun n c w=>clone_A_nil n c w) (xs.map Attr.pv) (by rw[List.length_map];omega) (fun x hx=>by obtain⟨y,_,rfl⟩:=List.mem_map.1 hx;rfl)
  rw[List.length_map]at this
  exact this
 cases h
theorem g_L_SplitN(s sep:Str)(n:Int)(l:List Str)(h:L_SplitN s sep n=some l):Good env 36 [.pv (.str s),.pv (.str sep),.pv (.int .i64 n)] [] [.pv (.slice (l.map PV.str))] []:=by
 unfold L_SplitN at h
 split at h
 ·rename_i hh
  cases h
  obtain⟨hs,h1,h2,h3⟩:=hh
  obtain⟨k,rfl⟩:∃k:Nat,n=k:=⟨n.toNat,by omega⟩
  refine Good.lib (ps:=[.str s,.str sep,.int .i64 k]) (rs:=[.slice ((splitN s sep k).map PV.str)]) fun w Φ vs hG hΦ hl hr=>?_
  obtain⟨m,hm⟩:=gi_max hG
  match vs,hl with
  | [a,b,c],_=>
    have ha:=rep_str (hr 0 a _ rfl rfl)
    have hb:=rep_str (hr 1 b _ rfl rfl)
    have hc:=rep_int (hr 2 c _ rfl rfl)
    subst ha hb hc
    refine(Tryz.strings_SplitN ⟨⟨s⟩⟩ ⟨⟨sep⟩⟩ k m w hs hm h1 (by omega) (by omega)).mono fun e w' ⟨he,hw⟩=>?_
    subst hw
    have hle:(splitN s sep k).length≤min k (s.length+1):=by
     unfold splitN
     rw[List.length_map]
     have:=splitB_le ⟨⟨sep⟩⟩ 0 (min k (s.length+1)-1) ⟨⟨s⟩⟩
     rw[Int.toNat_natCast]
     omega
    have hcells:∀ (j:Nat) x,(splitN s sep k)[j]?=some x→(Lib.cellsOf (Lib.splitB ⟨⟨sep⟩⟩ 0 (min k (s.length+1)-1) ⟨⟨s⟩⟩) (min k (s.length+1)))[j]?=some (Value.string ⟨⟨x⟩⟩):=by
     intro j x hx
     have hj:=(List.getElem?_eq_some_iff.1 hx).1
     unfold splitN at hx
     rw[List.getElem?_map,Int.toNat_natCast]at hx
     obtain⟨y,hy,rfl⟩:=Option.map_eq_some_iff.1 hx
     exact cellsOf_at hy
    have hlen:(Lib.splitB ⟨⟨sep⟩⟩ 0 (min k (s.length+1)-1) ⟨⟨s⟩⟩).length=(splitN s sep k).length:=by
     unfold splitN
     rw[List.length_map,Int.toNat_natCast]
    have he:e=.returned (.slice (some ⟨w.heap.size,0,none⟩) (Lib.splitB ⟨⟨sep⟩⟩ 0 (min k (s.length+1)-1) ⟨⟨s⟩⟩).length (min k (s.length+1))):=he
    rw[hlen]at he
    refine⟨[.slice (some ⟨w.heap.size,0,none⟩) (splitN s sep k).length (min k (s.length+1))],fun b j=>Φ b j∨(b=w.heap.size∧j<(splitN s sep k).length),he,rfl,⟨rfl,rfl,rfl,?_,fun k hk=>Below.heap_alloc w _ k hk⟩,fun _ _ h=>.inl h,fun b k h hb=>?_,fun b k h=>?_,one_rep ?_⟩
    ·show w.heap.size≤(w.heap.push _).size
     simp
    ·rcases h with h|⟨h,_⟩
     ·exact h
     omega
    ·show b<(w.heap.push _).size
     rw[Array.size_push]
     rcases h with h|⟨h,_⟩
     ·have:=hΦ b k h
      omega
     omega
    refine strs_new _ hle (by unfold maxLen;omega) (fun j x hx=>⟨.inr ⟨rfl,(List.getElem?_eq_some_iff.1 hx).1⟩,?_⟩)
    have hn:=heap_alloc_new w (.cells (Lib.cellsOf (Lib.splitB ⟨⟨sep⟩⟩ 0 (min k (s.length+1)-1) ⟨⟨s⟩⟩) (min k (s.length+1))) 9)
    show World.cell? (w.alloc (.cells (Lib.cellsOf (Lib.splitB ⟨⟨sep⟩⟩ 0 (min k (s.length+1)-1) ⟨⟨s⟩⟩) (min k (s.length+1))) 9)) ⟨w.heap.size,j,none⟩=_
    unfold World.cell?
    simp only[hn]
    simpa using hcells j x hx
 cases h
end Go.Abs.U54
