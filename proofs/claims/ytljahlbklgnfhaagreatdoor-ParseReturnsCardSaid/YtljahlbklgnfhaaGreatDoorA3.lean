import Derived.Calls
import Derived.Orders
import Derived.Laws.AppendOwn
import Derived.Below
import Derived.Laws.Entries
import Derived.Laws.Slices
import Derived.Lib.Builder
import Derived.Lib.FrozenHead
import Derived.Laws.Strings2
import Derived.Laws.Concat
import Derived.Laws.Cells
set_option linter.unusedVariables false
set_option linter.unusedSimpArgs false
set_option linter.defProp false
namespace Go.Abs
def G0a:=@Option.bind_some
def G0b:=@decide_eq_false
def G0c:=@Option.some.injEq
def G0d:=@Bool.and_eq_true
def G0e:=@List.append_assoc
def G0f:=@List.getElem?_eq_getElem
def G0g:=@List.length_append
def G0h:=@decide_eq_true
def G0i:=@List.length_cons
def G0j:=@List.getElem?_eq_some_iff
def G0k:=@Option.map_eq_some_iff
def G0l:=@decide_eq_true_eq
def G0m:=@Bool.not_true
def G0n:=@List.append_nil
def G0o:=@Bool.not_false
def G0p:=@List.all_eq_true
def G0q:=@List.getElem?_append_left
def G0r:=@Nat.le_refl
def G0s:=@List.getElem?_cons_zero
def G0t:=@List.nil_append
def G0u:=@List.eq_nil_of_length_eq_zero
def G0v:=@cond_false
def G0w:=@List.getElem?_append_right
def G0x:=@Bool.true_and
def G0y:=@List.getD_eq_getElem?_getD
def G0z:=@List.length_nil
def G1a:=@cond_true
def G1b:=@Result.andThen_ok
def G1c:=@run_underlying
def G1d:=@List.cons_append
def G1e:=@decide_eq_decide
def G1f:=@List.getElem?_cons_succ
def G1g:=@List.mem_cons_self
def G1h:=@List.length_map
def G1i:=@List.getElem?_map
def G1j:=@List.mem_cons
def G1k:=@Prod.mk.injEq
def G1l:=@List.mem_cons_of_mem
def G1m:=@Nat.lt_of_lt_of_le
def G1n:=@Sem.run_bind'
def G1o:=@List.mem_of_getElem?
def G1p:=@List.mem_singleton
def G1q:=@List.length_eq_zero_iff
def G1r:=@Array.getElem?_eq_some_iff
def G1s:=@Option.map_some
def G1t:=@Nat.zero_le
def G1u:=@List.getElem?_set_self
def G1v:=@List.length_take
def G1w:=@List.length_drop
def G1x:=@Option.bind_eq_some_iff
def G1y:=@List.mem_range
def G1z:=@List.length_replicate
def G2a:=@List.getElem?_take
def G2b:=@List.getElem?_set_ne
def G2c:=@List.getElem?_eq_none
def G2d:=@Bool.or_eq_true
def G2e:=@List.getElem?_drop
def G2f:=@List.drop_eq_nil_of_le
def G2g:=@Int.toNat_zero
def G2h:=@Array.length_toList
def G2i:=@List.map_cons
def G2j:=@Array.getElem?_toList
def G2k:=@Bool.false_or
def G2l:=@Int.toNat_natCast
def G2m:=@List.all_cons
def G2n:=@Bool.or_eq_false_iff
def G2o:=@List.flatten_cons
def G2p:=@Nat.sub_zero
def G2q:=@Nat.not_lt_zero
def G2r:=@List.not_mem_nil
def G2s:=@Bool.and_false
def G2t:=@List.take_append_drop
def G2u:=@List.drop_zero
def G2v:=@if_false
def G2w:=@Array.getD_eq_getD_getElem?
def G2x:=@Bool.and_true
def G2y:=@List.isPrefixOf_iff_prefix
def G2z:=@List.mem_append
def G3a:=@Bool.false_eq_true
def G3b:=@Bool.false_and
def G3c:=@Nat.le_trans
def G3d:=@List.mem_filter
def G3e:=@of_decide_eq_true
def G3f:=@List.getElem_of_mem
def G3g:=@List.replicate_succ
def G3h:=@Nat.zero_add
def G3i:=@Array.getElem?_eq_getElem
def G3j:=@List.contains_cons
def G3k:=@List.flatten_nil
def G3l:=@Bool.or_false
def G3m:=@Nat.add_zero
def G3n:=@Nat.mul_le_mul_right
def G3o:=@beq_iff_eq
def G3p:=@Option.some.inj
def G3q:=@List.map_nil
def G3r:=@List.mem_map
def G3s:=@Lib.cell_of_heap
def G3t:=@Array.toArray_toList
def G3u:=@List.mem_of_mem_drop
def G3v:=@Option.ite_none_left_eq_some
def G3w:=@List.take_succ_cons
def G3x:=@List.drop_left'
def G3y:=@List.length_set
def G3z:=@List.length_pos_iff
def G4a:=@List.drop_succ_cons
def G4b:=@List.contains_nil
def G4c:=@List.mem_of_mem_take
def G4d:=@List.getElem_mem
def G4e:=@congrArg
def G4f:=@List.getElem?_range
def G4g:=@Array.getElem?_modify
def G4h:=@Nat.add_assoc
def G4i:=@List.cons.injEq
def G4j:=@decide_eq_false_iff_not
def G4k:=@List.any_eq_not_all_not
def G4l:=@List.getLast?_concat
def G4m:=@List.flatMap_cons
def G4n:=@List.ext_getElem?
def G4o:=@UInt8.ofNat_toNat
def G4p:=@List.drop_eq_getElem_cons
def G4q:=@Array.mapM_eq_mapM_toList
def G4r:=@heap_alloc_new
def G4s:=@List.mem_or_eq_of_mem_set
def G4t:=@Bool.true_or
def G4u:=@List.mem_filterMap
def G4v:=@List.any_eq_true
def G4w:=@Int.le_refl
def G4x:=@decide_true
def G4y:=@Array.getElem?_setIfInBounds
def G4z:=@List.all_nil
def G5a:=@not_true_eq_false
def G5b:=@World.ownsRow_nil
def G5c:=@Bool.not_eq_true'
def G5d:=@of_eq_true
def G5e:=@Int.toNat_of_nonneg
def G5f:=@List.map_congr_left
def G5g:=@Lib.strCells_length
def G5h:=@ByteArray.toList_mk
def G5i:=@List.getD_cons_zero
def G5j:=@Addr.add_lit
def G5k:=@Nat.succ_mul
def G5l:=@Sem.run_pure
def G5m:=@List.contains_iff_mem
def G5n:=@Lib.run_unsafeString_none
def G5o:=@List.getLast?_eq_getElem?
def G5p:=@List.mem_append_left
def G5q:=@List.size_toArray
def G5r:=@List.nodup_cons
def G5s:=@Nat.add_comm
def G5t:=@Sem.run_pure'
def G5u:=@Nat.le_mul_of_pos_right
def G5v:=@beq_eq_false_iff_ne
def G5w:=@Int.eq_ofNat_of_zero_le
def G5x:=@List.ext_getElem
def G5y:=@List.take_of_length_le
def G5z:=@List.getElem_range
def G6a:=@List.zip_cons_cons
def G6b:=@of_decide_eq_false
def G6c:=@Lib.run_unsafeSliceData_row
def G6d:=@Bool.eq_iff_iff
def G6e:=@Classical.choose_spec
def G6f:=@Bool.not_not
def G6g:=@Nat.le_of_ble_eq_true
def G6h:=@Array.ext'
def G6i:=@not_false_eq_true
def G6j:=@Lib.byteCells_length
def G6k:=@List.take_zero
def G6l:=@Bool.and_assoc
def G6m:=@List.mem_flatMap
def G6n:=@List.getElem_map
def G6o:=@List.getD_cons_succ
def G6p:=@Bool.not_or
def G6q:=@Option.isSome_iff_exists
def G6r:=@Nat.lt_or_ge
def G6s:=@Bool.or_self
def G6t:=@Nat.min_eq_left
def G6u:=@List.mem_replicate
def G6v:=@List.pairwise_lt_range
def G6w:=@bne_iff_ne
def G6x:=@List.nodup_append
def G6y:=@Bool.eq_false_iff
def G6z:=@Nat.le_succ
def G7a:=@heap_alloc_old
def G7b:=@List.take_left
def G7c:=@and_true
def G7d:=@decide_false
def G7e:=@Nat.mul_comm
def G7f:=@Array.getElem?_append
def G7g:=@List.eq_nil_iff_forall_not_mem
def G7h:=@Bool.or_true
def G7i:=@List.length_singleton
def G7j:=@List.eq_nil_or_concat
def G7k:=@List.concat_eq_append
def G7l:=@Nat.div_lt_of_lt_mul
def G7m:=@Array.toList_zipIdx
def G7n:=@Nat.mul_one
def G7o:=@wpList_step
def G7p:=@getD_set_ne
def G7q:=@List.take_left'
def G7r:=@List.map_append
def G7s:=@Nat.add_eq_zero_iff
def G7t:=@Lib.run_append_grow_string
def G7u:=@List.exists_cons_of_ne_nil
def G7v:=@Array.foldl_toList
def G7w:=@Array.empty_append
def G7x:=@Lib.frozen_of_heap
def G7y:=@List.mapM_cons
def G7z:=@growslice_fits
def G8a:=@List.drop_drop
def G8b:=@wp_region_list
def G8c:=@List.mem_of_find?_eq_some
def G8d:=@Lib.run_unsafeString_row
def G8e:=@Decidable.not_not
def G8f:=@Sem.run_map
def G8g:=@setRow_heap
def G8h:=@List.getElem?_replicate
def G8i:=@Lib.alloc_old
def G8j:=@Nat.succ_le_succ
def G8k:=@Array.getElem?_eq_none
def G8l:=@Nat.sub_self
def G8m:=@setRow_other
def G8n:=@Nat.div_add_mod
def G8o:=@List.find?_some
def G8p:=@mem_ready
def G8q:=@UInt8.toNat_inj
def G8r:=@step_loop
def G8s:=@List.mem_append_right
def G8t:=@Oper.upon_value
def G8u:=@Nat.max_zero
def G8v:=@Except.ok.injEq
def G8w:=@List.singleton_append
def G8x:=@Bool.decide_and
def G8y:=@Nat.add_mul
def G8z:=@Nat.le_zero
def G9a:=@getD_set_true
def G9b:=@Nat.max_assoc
def G9c:=@Bool.or_assoc
def G9d:=@Bool.and_self
def G9e:=@Nat.mod_lt
def G9f:=@Nat.succ.inj
def G9g:=@Nat.zero_max
def G9h:=@Eq.trans
theorem aj{a b:Prop}(x:a)(y:b):a/\b:=⟨x,y⟩
inductive PV where
 | bool (b:Bool)
 | int (k:IntKind) (n:Int)
 | str (s:List UInt8)
 | nil
 | slice (xs:List PV)
 | agg (cs:List PV)
 | ifc
 | nilp
 deriving Inhabited
def PV.cells:PV->List PV
 | .agg cs=>cs
 | p=>[p]
def PV.one:PV->Bool
 | .agg _=>false
 | _=>true
def flat(xs:List PV):List PV:=xs.flatMap PV.cells
inductive Rep(Φ:Nat->Nat->Prop)(w:World):Value->PV->Prop
 | bool (b:Bool):Rep Φ w (.bool b) (.bool b)
 | int (k:IntKind) (n:Int):Rep Φ w (.int k n) (.int k n)
 | str (s:List UInt8):Rep Φ w (.string ⟨⟨s⟩⟩) (.str s)
 | nil:Rep Φ w .nilIface .nil
 | ifc (t:TypeId) (v:Value):Rep Φ w (.iface t v) .ifc
 | nilp:Rep Φ w (.pointer none) .nilp
 | sliceNil:Rep Φ w (.slice none 0 0) (.slice [])
 | slice (b o len cap sz:Nat) (xs:List PV) (vs:Nat->Value) (hl:xs.length=len) (hc:len<=cap) (hm:cap<=maxLen)
    (hsz:∀x∈xs,x.cells.length=sz) (h1:∀c∈flat xs,c.one=true)
    (hcell:∀k,k<(flat xs).length->Φ b (o+k)/\w.cell? ⟨b,o+k,none⟩=some (vs k))
    (hrep:∀k c,(flat xs)[k]?=some c->Rep Φ w (vs k) c):Rep Φ w (.slice (some ⟨b,o,none⟩) len cap) (.slice xs)
 | sliceAny (A:Addr) (cap:Nat) (hm:cap<=maxLen):Rep Φ w (.slice (some A) 0 cap) (.slice [])
 | agg (vs:List Value) (cs:List PV) (hl:vs.length=cs.length) (h1:∀c∈cs,c.one=true)
    (hrep:∀ (k:Nat) (v:Value) (c:PV),vs[k]?=some v->cs[k]?=some c->Rep Φ w v c):Rep Φ w (.agg ⟨vs⟩) (.agg cs)
theorem Rep.mono{Φ Φ':Nat->Nat->Prop}{w w':World}(i:∀b k,Φ b k->Φ' b k)(j:∀b k,Φ b k->w'.cell? ⟨b,k,none⟩=w.cell? ⟨b,k,none⟩)
 {v:Value} {p:PV} (h:Rep Φ w v p):Rep Φ' w' v p:=by
 induction h with
 | bool b=>exact .bool b
 | int k n=>exact .int k n
 | str s=>exact .str s
 | nil=>exact .nil
 | ifc t v=>exact .ifc t v
 | nilp=>exact .nilp
 | sliceNil=>exact .sliceNil
 | slice b o len cap sz xs vs a l d m e f q g=>
   exact .slice b o len cap sz xs vs a l d m e (λk hk=>⟨i _ _ (f k hk).1,(j _ _ (f k hk).1).trans (f k hk).2⟩) g
 | sliceAny A cap d=>exact .sliceAny A cap d
 | agg vs cs a e q g=>exact .agg vs cs a e g
theorem Rep.one{Φ:Nat->Nat->Prop}{w:World}{v:Value}{p:PV}(h:Rep Φ w v p)(a:p.one=true):v.oneCell'=true:=by
 cases h<;>first|rfl|simp[PV.one]at a
inductive AV where
 | any
 | pv (p:PV)
 | ref (l off:Nat)
 | pptr (cs:List PV)
 | vec (l n:Nat)
 | vptr (l n i off:Nat)
 | selfp (l:Nat)
 | nils
 | full (xs:List PV)
 | tup (vs:List AV)
 | agg (vs:List AV)
 | fn (f:Nat) (caps:List Nat)
 | ifc (t:TypeId) (p:PV)
 deriving Inhabited
def AV.isS:AV->Bool
 | .selfp _=>true
 | .any=>false
 | .pv _=>false
 | .ref _ _=>false
 | .pptr _=>false
 | .vec _ _=>false
 | .vptr _ _ _ _=>false
 | .nils=>false
 | .full _=>false
 | .tup _=>false
 | .agg _=>false
 | .fn _ _=>false
 | .ifc _ _=>false
def noS:List AV->Bool
 | []=>true
 | a::r=>!a.isS&&noS r
theorem J8c:∀ {us:List AV},noS us=true->∀c∈us,c.isS=false
 | a::r,h,c,b=>by
   simp only[noS,G0d,G5c]at h
   rcases G1j.1 b with rfl|b
   ·exact h.1
   exact J8c h.2 c b
inductive AObj where
 | var (cs:List AV)
 | row (e:TypeId) (sz:Nat) (xs:List PV) (fz:Bool)
 | bld (s:List UInt8)
 | brow (e:TypeId) (s:List UInt8)
 | prn (e1:TypeId) (s:List UInt8) (e2:TypeId) (sz:Nat) (xs:List PV)
 | moved (e:TypeId) (sz n:Nat)
 | hold (d:Nat)
 | gone
def Q1y:AObj->Option (TypeId×Nat×Nat)
 | .row e sz xs _=>some (e,sz,xs.length)
 | .moved e sz n=>some (e,sz,n)
 | .brow e s=>some (e,1,s.length)
 | _=>none
def rowAt(H:List AObj)(l:Nat):Option (TypeId×Nat×Nat):=(H[l]?).bind Q1y
structure Gh where
 v:Value
 own:List Nat
def gv(γ:List Gh)(l:Nat):Option Value:=γ[l]?.map Gh.v
inductive ARel(γ:List Gh)(H:List AObj)(Φ:Nat->Nat->Prop)(w:World):Value->AV->Prop
 | any (v:Value):ARel γ H Φ w v .any
 | pv {v:Value} {p:PV} (h:Rep Φ w v p):ARel γ H Φ w v (.pv p)
 | ref (b l off:Nat) (h:gv γ l=some (.pointer (some ⟨b,0,none⟩))):ARel γ H Φ w (.pointer (some ⟨b,off,none⟩)) (.ref l off)
 | pptr (b o:Nat) (cs:List PV) (vs:Nat->Value) (h1:∀c∈cs,c.one=true)
    (hcell:∀k,k<cs.length->Φ b (o+k)/\w.cell? ⟨b,o+k,none⟩=some (vs k))
    (hrep:∀ (k:Nat) c,cs[k]?=some c->Rep Φ w (vs k) c):ARel γ H Φ w (.pointer (some ⟨b,o,none⟩)) (.pptr cs)
 | vec (A:Option Addr) (l n cap:Nat) (e:TypeId) (sz len:Nat) (hrow:rowAt H l=some (e,sz,len)) (hn:n<=len) (hA:0<n->∃b,A=some ⟨b,0,none⟩)
    (h:len=n->gv γ l=some (.slice A n cap)):ARel γ H Φ w (.slice A n cap) (.vec l n)
 | vptr (b o l n i off:Nat) (e:TypeId) (sz len:Nat) (hrow:rowAt H l=some (e,sz,len)) (hn:n<=len)
    (h:len=n->∃cap,gv γ l=some (.slice (some ⟨b,0,none⟩) n cap)/\o=i * sz+off):ARel γ H Φ w (.pointer (some ⟨b,o,none⟩)) (.vptr l n i off)
 | nils:ARel γ H Φ w (.slice none 0 0) .nils
 | full (A:Option Addr) (n:Nat) (xs:List PV) (h:Rep Φ w (.slice A n n) (.slice xs)):ARel γ H Φ w (.slice A n n) (.full xs)
 | selfp (A:Option Addr) (l:Nat) (h:∀a,A=some a->gv γ l=some (.pointer (some a))):ARel γ H Φ w (.pointer A) (.selfp l)
 | fn (f:Nat) (cs:List Value) (caps:List Nat) (hl:cs.length=caps.length) (h:∀ (k:Nat) v l,cs[k]?=some v->caps[k]?=some l->∃b,v=.pointer (some ⟨b,0,none⟩)/\gv γ l=some v):ARel γ H Φ w (.func (.func f) #[] ⟨cs⟩) (.fn f caps)
 | ifc (t:TypeId) (u:Value) (p:PV) (h:Rep Φ w u p):ARel γ H Φ w (.iface t u) (.ifc t p)
 | tup (ws:List Value) (vs:List AV) (hl:ws.length=vs.length) (h:∀ (k:Nat) v c,ws[k]?=some v->vs[k]?=some c->ARel γ H Φ w v c):ARel γ H Φ w (.tuple ⟨ws⟩) (.tup vs)
 | agg (ws:List Value) (vs:List AV) (hl:ws.length=vs.length) (h1:∀v∈ws,v.oneCell'=true) (h:∀ (k:Nat) v c,ws[k]?=some v->vs[k]?=some c->ARel γ H Φ w v c):ARel γ H Φ w (.agg ⟨ws⟩) (.agg vs)
structure Evo(γ:List Gh)(H:List AObj)(Φ:Nat->Nat->Prop)(w:World)(γ':List Gh)(H':List AObj)(Φ':Nat->Nat->Prop)(w':World):Prop where
 phi:∀b k,Φ b k->Φ' b k
 cell:∀b k,Φ b k->w'.cell? ⟨b,k,none⟩=w.cell? ⟨b,k,none⟩
 gh:∀ (l:Nat) (v:Value),gv γ l=some v->gv γ' l=some v\/∃A n c,v=.slice A n c
 row:∀ (l:Nat) (e:TypeId) (sz n:Nat),rowAt H l=some (e,sz,n)->∃n',rowAt H' l=some (e,sz,n')/\n<=n'/\(n=n'->gv γ' l=gv γ l)
theorem Q3l{H:List AObj}{l:Nat}{e:TypeId}{sz:Nat}{xs:List PV}{fz:Bool}(h:H[l]?=some (.row e sz xs fz)):rowAt H l=some (e,sz,xs.length):=by
 unfold rowAt
 rw[h]
 rfl
theorem Q5h{H:List AObj}{l:Nat}{p:TypeId×Nat×Nat}(h:rowAt H l=some p):∃o,H[l]?=some o/\Q1y o=some p:=G1x.1 h
theorem Q9z{H:List AObj}{l:Nat}{p:TypeId×Nat×Nat}(h:rowAt H l=some p):l<H.length:=by
 obtain⟨o,a,_⟩:=Q5h h
 exact(G0j.1 a).1
theorem Evo.refl(γ:List Gh)(H:List AObj)(Φ:Nat->Nat->Prop)(w:World):Evo γ H Φ w γ H Φ w:=
 ⟨λ_ _ h=>h,λ_ _ _=>rfl,λ_ _ h=>.inl h,λ_ _ _ n h=>⟨n,h,G0r _,λ_=>rfl⟩⟩
theorem Evo.trans{a d f:List Gh}{H₁ H₂ H₃:List AObj}{g j m:Nat->Nat->Prop}{o w₂ w₃:World}
 (h:Evo a H₁ g o d H₂ j w₂) (k:Evo d H₂ j w₂ f H₃ m w₃):Evo a H₁ g o f H₃ m w₃:=by
 refine⟨λb i x=>k.phi _ _ (h.phi _ _ x),λb i x=>(k.cell _ _ (h.phi _ _ x)).trans (h.cell _ _ x),λl v x=>?_,λl e sz n x=>?_⟩
 ·rcases h.gh l v x with y|y
  ·exact k.gh l v y
  exact .inr y
 obtain⟨p,q,r,t⟩:=h.row l e sz n x
 obtain⟨u,z,A,C⟩:=k.row l e sz p q
 exact⟨u,z,G3c r A,λD=>(C (by omega)).trans (t (by omega))⟩
theorem ARel.mono{γ D:List Gh}{H H':List AObj}{Φ Φ':Nat->Nat->Prop}{w w':World}(d:Evo γ H Φ w D H' Φ' w')
 {v:Value} {a:AV} (h:ARel γ H Φ w v a):ARel D H' Φ' w' v a:=by
 induction h with
 | any v=>exact .any v
 | pv h=>exact .pv (h.mono d.phi d.cell)
 | ref b l off h=>
   refine .ref b l off ?_
   rcases d.gh l _ h with x|⟨A,n,c,x⟩
   ·exact x
   cases x
 | pptr b o cs vs j m E=>
   exact .pptr b o cs vs j (λk hk=>⟨d.phi _ _ (m k hk).1,(d.cell _ _ (m k hk).1).trans (m k hk).2⟩) (λk c q=>(E k c q).mono d.phi d.cell)
 | vec A l n cap e sz len r F I h=>
   obtain⟨y,h',g,z⟩:=d.row l e sz len r
   exact .vec A l n cap e sz y h' (by omega) I (λJ=>(z (by omega)).trans (h (by omega)))
 | vptr b o l n i off e sz len r F h=>
   obtain⟨y,h',g,z⟩:=d.row l e sz len r
   refine .vptr b o l n i off e sz y h' (by omega) (λJ=>?_)
   obtain⟨cap,j,K⟩:=h (by omega)
   exact⟨cap,(z (by omega)).trans j,K⟩
 | selfp A l h=>
   refine .selfp A l (λa e=>?_)
   rcases d.gh l _ (h a e)with x|⟨A,n,c,x⟩
   ·exact x
   cases x
 | nils=>exact .nils
 | ifc t u p h=>exact .ifc t u p (h.mono d.phi d.cell)
 | full A n xs h=>exact .full A n xs (h.mono d.phi d.cell)
 | tup ws vs g h C=>exact .tup ws vs g C
 | agg ws vs g j h C=>exact .agg ws vs g j C
 | fn f cs L g h=>
   refine .fn f cs L g (λk v l M q=>?_)
   obtain⟨b,rfl,N⟩:=h k v l M q
   rcases d.gh l _ N with x|⟨A,n,c,x⟩
   ·exact⟨b,rfl,x⟩
   cases x
end Go.Abs
namespace Go.Abs
open Go.RowKit
inductive TK where
 | int (k:IntKind)
 | bool
 | str
 | slice (e:TypeId)
 | strct (fs:List (Nat×Nat))
 | map (k e:TypeId)
 | ptr (e:TypeId)
 | iface
 | other
 deriving Inhabited
structure TI where
 k:TK
 size:Nat
 bytes:Nat
 zero:Option (List PV)
 deriving Inhabited
def TKok(P:Program):TypeDesc->TK->Prop
 | .int k,.int b=>k=b
 | .bool,.bool=>True
 | .string,.str=>True
 | .slice e,.slice a=>e=a
 | .struct fields,.strct d=>fields.size=d.length/\∀ (j:Nat) (f:Field) (p:Nat×Nat),fields[j]?=some f->d[j]?=some p->f.offset=p.1/\∃g,P.info? f.type=some g/\g.size=p.2
 | .map k e,.map b a=>k=b/\e=a
 | .pointer e,.ptr a=>e=a
 | .interface _,.iface=>True
 | _,.other=>True
 | _,_=>False
def Zero1(v:Value)(p:PV):Prop:=p.one=true/\(∀ (Φ:Nat->Nat->Prop) (w:World),Rep Φ w v p)/\(p=.slice []->v=.slice none 0 0)
structure TOne(P:Program)(t:TypeId)(ti:TI):Prop where
 info:∃i d,P.info? t=some i/\i.size=ti.size/\i.bytes=ti.bytes/\P.underlying t=some d/\TKok P d ti.k/\
  (∀zs,ti.zero=some zs->∃z,i.zero=some z/\z.cells.toList.length=zs.length/\zs.length=ti.size/\(∀ (k:Nat) v c,z.cells.toList[k]?=some v->zs[k]?=some c->Zero1 v c)/\
    (∀fs,ti.k=.strct fs->∃cs,z=.agg cs)/\((∀fs,ti.k≠.strct fs)->z.cells=#[z]))
inductive EK where
 | bool
 | str
 | int
 deriving DecidableEq,Inhabited
def EK.fits:EK->TypeDesc->Prop
 | .bool,d=>d=.bool
 | .str,d=>d=.string
 | .int,d=>∃k,d=.int k
inductive FitsF(P:Program):Nat->List Field->Nat->List EK->Prop
 | nil (n j:Nat):FitsF P n [] j []
 | one {n:Nat} {f:Field} {fs:List Field} {j:Nat} {k:EK} {ks:List EK} {d:TypeDesc} (hn:f.name≠"_") (ho:f.offset=j) (hd:P.underlying f.type=some d) (hk:k.fits d) (hr:FitsF P n fs (j+1) ks):FitsF P (n+1) (f::fs) j (k::ks)
 | sub {n:Nat} {f:Field} {fs:List Field} {j:Nat} {ks1 ks2:List EK} {sub:Array Field} {i:TypeInfo} (hn:f.name≠"_") (ho:f.offset=j) (hd:P.underlying f.type=some (.struct sub)) (hh:P.stoodInHeld f.type=false)
    (hi:P.info? f.type=some i) (hs:i.size=ks1.length) (h1:FitsF P n sub.toList 0 ks1) (hr:FitsF P n fs (j+ks1.length) ks2):FitsF P (n+1) (f::fs) j (ks1++ks2)
structure EqOne(P:Program)(t:TypeId)(ks:List EK):Prop where
 ex:∃fields:Array Field,P.underlying t=some (.struct fields)/\P.stoodInHeld t=false/\P.eqGuardType P.depth t=false/\∃n,n<=9000/\FitsF P n fields.toList 0 ks
structure Env where
 P:Program
 T:Nat->Option TI
 hT:∀t ti,T t=some ti->TOne P t ti
 gN:Nat
 GI:World->Prop
 hG:∀w w':World,GI w->(∀b,b<gN->w'.heap[b]?=w.heap[b]?)->GI w'
 bT:Option TypeId
 be:TypeId
 eqT:TypeId->Option (List EK)
 ownT:TypeId->Bool
 dfs:List Deferred:=[]
 pT:Option TypeId:=none
 pe1:TypeId:=0
 pe2:TypeId:=0
 psz:Nat:=1
 hpz:0<psz:=by decide
 hpT:∀t,pT=some t->∀w:World,(zeroValue t).run P w=.ok (.agg #[.pointer none,.slice none 0 0,.slice none 0 0]) w:=by nofun
 hEq:∀t ks,eqT t=some ks->EqOne P t ks
 hbT:∀t,bT=some t->∀w:World,(zeroValue t).run P w=.ok (.agg #[.pointer none,.slice none 0 0]) w
def J6y(Φ:Nat->Nat->Prop)(w:World)(e:TypeId)(sz:Nat)(xs:List PV)(fz:Bool)(g:Gh):Prop:=
 ∃cells,w.ownsRow 0 e sz g.v xs.length cells/\cells.length=(flat xs).length/\
  (∀ (k:Nat) v c,cells[k]?=some v->(flat xs)[k]?=some c->Rep Φ w v c)/\(∀x∈xs,x.cells.length=sz)/\(∀c∈flat xs,c.one=true)/\g.own=g.v.ownBlock.toList/\
  0<sz/\(∀b,g.v.ownBlock=some b->∀k,(Φ b k->fz=true/\k<xs.length * sz)/\(fz=true->k<xs.length * sz->Φ b k))
def ObjRel(E:Env)(γ:List Gh)(H:List AObj)(Φ:Nat->Nat->Prop)(w:World):AObj->Gh->Prop
 | .var cs,g=>∃b T vs,g.v=.pointer (some ⟨b,0,none⟩)/\g.own=[b]/\w.heap[b]?=some (.cells ⟨vs⟩ T (0,0))/\vs.length=cs.length/\
    (∀ (k:Nat) v c,vs[k]?=some v->cs[k]?=some c->v.oneCell'=true/\ARel γ H Φ w v c)/\(∀k,¬ Φ b k)/\∀c∈cs,c.isS=true->T=E.pT.getD 0
 | .row e sz xs fz,g=>∃cells,w.ownsRow 0 e sz g.v xs.length cells/\cells.length=(flat xs).length/\
    (∀ (k:Nat) v c,cells[k]?=some v->(flat xs)[k]?=some c->Rep Φ w v c)/\(∀x∈xs,x.cells.length=sz)/\(∀c∈flat xs,c.one=true)/\g.own=g.v.ownBlock.toList/\
    0<sz/\(∀b,g.v.ownBlock=some b->∀k,(Φ b k->fz=true/\k<xs.length * sz)/\(fz=true->k<xs.length * sz->Φ b k))
 | .bld s,g=>∃b p v,g.v=.pointer (some ⟨b,0,none⟩)/\g.own=b::v.ownBlock.toList/\(p=.pointer none\/p=.pointer (some ⟨b,0,none⟩))/\
    w.heap[b]?=some (.cells #[p,v] (E.bT.getD 0) (0,0))/\w.ownsRow 0 E.be 1 v s.length (s.map λu=>Value.int .u8 u.toNat)/\v.ownBlock≠some b/\
    (∀k,¬ Φ b k)/\∀c,v.ownBlock=some c->∀k,¬ Φ c k
 | .brow e s,g=>w.ownsRowF 0 e 1 g.v s.length (s.map λu=>Value.int .u8 u.toNat)/\g.own=g.v.ownBlock.toList/\∀b,g.v.ownBlock=some b->∀k,¬ Φ b k
 | .prn f s i sz xs,g=>∃b d v1 a,g.v=.pointer (some ⟨b,0,none⟩)/\g.own=b::(v1.ownBlock.toList++a.ownBlock.toList)/\g.own.Nodup/\w.heap[b]?=some (.cells ⟨[d,v1,a]⟩ (E.pT.getD 0) (0,0))/\
    (d=.pointer none\/d=.pointer (some ⟨b,0,none⟩))/\(∀k,¬ Φ b k)/\w.ownsRowF 0 f 1 v1 s.length (s.map λu=>Value.int .u8 u.toNat)/\(∀c,v1.ownBlock=some c->∀k,¬ Φ c k)/\J6y Φ w i sz xs true ⟨a,a.ownBlock.toList⟩
 | .moved _ _ _,_=>True
 | .hold _,g=>g.v=.slice none 0 0/\g.own=[]
 | .gone,_=>True
structure OInv(E:Env)(γ:List Gh)(H:List AObj)(Φ:Nat->Nat->Prop)(w:World):Prop where
 len:γ.length=H.length
 obj:∀ (l:Nat) o g,H[l]?=some o->γ[l]?=some g->ObjRel E γ H Φ w o g
 disj:∀ (i j:Nat) gi gj,γ[i]?=some gi->γ[j]?=some gj->i≠j->∀b∈gi.own,b∉gj.own
 own:∀ (i:Nat) g,γ[i]?=some g->∀b∈g.own,E.gN<=b/\b<w.heap.size
 phi:∀b k,Φ b k->b<w.heap.size
 gi:E.GI w
 gn:E.gN<=w.heap.size
theorem OInv.gh{E:Env}{γ:List Gh}{H:List AObj}{Φ:Nat->Nat->Prop}{w:World}(h:OInv E γ H Φ w){l:Nat}{o:AObj}(a:H[l]?=some o):
 ∃g,γ[l]?=some g/\ObjRel E γ H Φ w o g:=by
 have b:l<γ.length:=by
  rw[h.len]
  exact(G0j.1 a).1
 exact⟨γ[l],G0f b,h.obj l o _ a (G0f b)⟩
theorem Q4h:flat []=[]:=rfl
theorem Q3q(x:PV)(xs:List PV):flat (x::xs)=x.cells++flat xs:=rfl
theorem Q7y(xs ys:List PV):flat (xs++ys)=flat xs++flat ys:=by simp[flat]
theorem Q0s{sz:Nat}:∀ {xs:List PV},(∀x∈xs,x.cells.length=sz)->(flat xs).length=xs.length * sz
 | [],_=>by simp[Q4h]
 | x::xs,h=>by
   rw[Q3q,G0g,h x (by simp),Q0s λy a=>h y (by simp[a]),G0i,G5k]
   omega
theorem Q5v{sz:Nat}:∀ {xs:List PV},(∀x∈xs,x.cells.length=sz)->∀ (i k:Nat) (x:PV),xs[i]?=some x->k<sz->(flat xs)[i * sz+k]?=x.cells[k]?
 | [],_,i,k,x,a,_=>by simp at a
 | y::xs,h,0,k,x,a,hk=>by
   simp only[G0s,G0c]at a
   subst a
   rw[Q3q,G0q (by rw[h y (by simp)];omega)]
   congr 1
   omega
 | y::xs,h,i+1,k,x,a,hk=>by
   have b:=h y (by simp)
   rw[Q3q,G0w (by rw[b,G5k];omega),b]
   rw[show(i+1) * sz+k-sz=i * sz+k from by rw[G5k];omega]
   exact Q5v (λz d=>h z (by simp[d])) i k x (by simpa using a) hk
theorem Z2u{xs:List PV}{x c:PV}(a:x∈xs)(b:c∈x.cells):c∈flat xs:=G6m.2 ⟨x,a,b⟩
theorem X9l{sz:Nat}{xs:List PV}(h:∀x∈xs,x.cells.length=sz)(n:Nat)(a:n<=xs.length):flat (xs.take n)=(flat xs).take (n * sz):=by
 have e:flat xs=flat (xs.take n)++flat (xs.drop n):=by rw[<-Q7y,G2t]
 have b:(flat (xs.take n)).length=n * sz:=by
  rw[Q0s λx d=>h x (G4c d),G1v,G6t a]
 rw[G4e (List.take (n * sz)) e,G7q b]
theorem X9m{sz:Nat}{xs:List PV}(h:∀x∈xs,x.cells.length=sz)(n:Nat)(a:n<=xs.length):flat (xs.drop n)=(flat xs).drop (n * sz):=by
 have e:flat xs=flat (xs.take n)++flat (xs.drop n):=by rw[<-Q7y,G2t]
 have b:(flat (xs.take n)).length=n * sz:=by
  rw[Q0s λx d=>h x (G4c d),G1v,G6t a]
 rw[G4e (List.drop (n * sz)) e,G3x b]
def Q8a:Value->AV
 | .bool b=>.pv (.bool b)
 | .int k n=>.pv (.int k n)
 | .string s=>.pv (.str s.data.toList)
 | .slice none 0 0=>.nils
 | .nilIface=>.pv .nil
 | .pointer none=>.pv .nilp
 | _=>.any
def ev(t:Nat->AV):Operand->AV
 | .tmp i=>t i
 | .const v=>Q8a v
 | .func f=>.fn f []
 | _=>.any
def upd(t:Nat->AV)(i:Nat)(v:AV):Nat->AV:=λj=>if j=i then v else t j
theorem J9c{γ:List Gh}{H:List AObj}{Φ:Nat->Nat->Prop}{w:World}(v:Value):ARel γ H Φ w v (Q8a v):=by
 unfold Q8a
 split
 ·exact .pv (.bool _)
 ·exact .pv (.int _ _)
 ·rename_i s;exact .pv (.str s.data.toList)
 ·exact .nils
 ·exact .pv .nil
 ·exact .pv .nilp
 exact .any _
def Slots(γ:List Gh)(H:List AObj)(Φ:Nat->Nat->Prop)(w:World)(a:Act)(t:Nat->AV):Prop:=∀i,ARel γ H Φ w (a.tmps.getD i undef) (t i)
theorem Q0u{γ:List Gh}{H:List AObj}{Φ:Nat->Nat->Prop}{w:World}{a:Act}{t:Nat->AV}(hs:Slots γ H Φ w a t)(x:Operand):ARel γ H Φ w (a.eval x) (ev t x):=by
 cases x with
 | tmp i=>exact hs i
 | const v=>exact J9c v
 | func f=>exact .fn f [] [] rfl (λk v l b=>by simp at b)
 | _=>exact .any _
def nrm:AV->AV
 | .nils=>.pv (.slice [])
 | .full xs=>.pv (.slice xs)
 | a=>a
theorem X7z{γ:List Gh}{H:List AObj}{Φ:Nat->Nat->Prop}{w:World}{v:Value}{a:AV}(h:ARel γ H Φ w v a):ARel γ H Φ w v (nrm a):=by
 cases h with
 | nils=>exact .pv .sliceNil
 | ifc t u p h=>exact .ifc t u p h
 | full A n xs h=>exact .pv h
 | any v=>exact .any v
 | pv h=>exact .pv h
 | ref b l off h=>exact .ref b l off h
 | pptr b o cs vs d g j=>exact .pptr b o cs vs d g j
 | vec A l n cap e sz len d g j m=>exact .vec A l n cap e sz len d g j m
 | vptr b o l n i off e sz len d g j=>exact .vptr b o l n i off e sz len d g j
 | selfp A l h=>exact .selfp A l h
 | tup ws vs d g=>exact .tup ws vs d g
 | agg ws vs d g j=>exact .agg ws vs d g j
 | fn f cs q d g=>exact .fn f cs q d g
def toPV(H:List AObj):AV->Option PV
 | .pv p=>some p
 | .nils=>some (.slice [])
 | .full xs=>some (.slice xs)
 | .vec l n=>match H[l]? with
   | some (.row _ _ xs true)=>if xs.length=n then some (.slice xs)else none
   | _=>none
 | _=>none
theorem K9m{E:Env}{γ:List Gh}{H:List AObj}{Φ:Nat->Nat->Prop}{w:World}{e:TypeId}{sz:Nat}{xs:List PV}{g:Gh}(h:ObjRel E γ H Φ w (.row e sz xs true) g):Rep Φ w g.v (.slice xs):=by
 obtain⟨cells,i,t,l,j,m,_,_,n⟩:=h
 have u:=Q0s j
 rcases i.2 with⟨a,o⟩|⟨b,cap,x,a,_,hb,p,q,y,z⟩
 ·have r:xs=[]:=G0u o
  subst r
  rw[a]
  exact .sliceNil
 rw[a]
 refine .slice b 0 xs.length cap sz xs (λk=>cells.getD k undef) rfl p q j m (λk hk=>?_) (λk c d=>?_)
 ·have f:k<cells.length:=by omega
  refine⟨(n b (by rw[a];rfl) _).2 rfl (by omega),?_⟩
  have d:=i.cells (g:=b) (by rw[a];rfl) k cells[k] (G0f f)
  rw[G5j]at d
  rw[d,G0y,G0f f]
  rfl
 have hk:k<(flat xs).length:=(G0j.1 d).1
 have f:k<cells.length:=by omega
 have:=l k cells[k] c (G0f f) d
 rwa [G0y,G0f f]
theorem Q2b{E:Env}{γ:List Gh}{H:List AObj}{Φ:Nat->Nat->Prop}{w:World}(j:OInv E γ H Φ w){v:Value}{a:AV}{p:PV}(h:ARel γ H Φ w v a)(b:toPV H a=some p):Rep Φ w v p:=by
 cases h with
 | pv h=>simp[toPV]at b;exact b▸h
 | vec A l n cap e sz len m t u h=>
   simp only[toPV]at b
   split at b
   ·rename_i x y xs f
    have d:=Q3l f
    rw[m]at d
    injection d with d
    injection d with _ d
    injection d with _ z
    split at b
    ·rename_i C
     simp only[G0c]at b
     subst b
     obtain⟨g,o,q⟩:=j.gh f
     have r:=K9m q
     have i:=h (by omega)
     simp only[gv,o,G1s,G0c]at i
     rwa [i]at r
    cases b
   cases b
 | any=>simp[toPV]at b
 | ref=>simp[toPV]at b
 | pptr=>simp[toPV]at b
 | vptr=>simp[toPV]at b
 | selfp=>simp[toPV]at b
 | ifc=>simp[toPV]at b
 | nils=>simp[toPV]at b;subst b;exact .sliceNil
 | full A n xs h=>simp[toPV]at b;subst b;exact h
 | tup=>simp[toPV]at b
 | agg=>simp[toPV]at b
 | fn=>simp[toPV]at b
def qlen(T:Nat->Option TI)(H:List AObj)(a:TypeId)(x:AV):Option AV:=
 match T a with
 | some ⟨.str,_,_,_⟩=>match x with
   | .pv (.str s)=>some (.pv (.int .i64 s.length))
   | _=>none
 | some ⟨.slice _,_,_,_⟩=>match x with
   | .pv (.slice xs)=>some (.pv (.int .i64 xs.length))
   | .vec _ n=>some (.pv (.int .i64 n))
   | _=>none
 | _=>none
def pbin(op:BinOp):PV->PV->Option PV
 | .int k a,.int d b=>
   if k=d then
    match op with
    | .add=>some (.int k (k.wrap (a+b)))
    | .sub=>some (.int k (k.wrap (a-b)))
    | .mul=>some (.int k (k.wrap (a * b)))
    | .quo=>if b=0 then none else some (.int k (k.wrap (a.tdiv b)))
    | .rem=>if b=0 then none else some (.int k (a.tmod b))
    | .and=>some (.int k (bits .and k a b))
    | .or=>some (.int k (bits .or k a b))
    | .xor=>some (.int k (bits .xor k a b))
    | .andNot=>some (.int k (bits .andNot k a b))
    | .eql=>some (.bool (a==b))
    | .neq=>some (.bool (a != b))
    | .lss=>some (.bool (decide (a<b)))
    | .leq=>some (.bool (decide (a<=b)))
    | .gtr=>some (.bool (decide (a>b)))
    | .geq=>some (.bool (decide (a>=b)))
    | .shl=>if b<0 then none else some (.int k (k.wrap (a * 2 ^ (min b.toNat k.bits))))
    | .shr=>if b<0 then none else some (.int k (a.fdiv (2 ^ (min b.toNat k.bits))))
   else
    match op with
    | .shl=>if b<0 then none else some (.int k (k.wrap (a * 2 ^ (min b.toNat k.bits))))
    | .shr=>if b<0 then none else some (.int k (a.fdiv (2 ^ (min b.toNat k.bits))))
    | _=>none
 | .str a,.str b=>
   match op with
   | .add=>if a.length+b.length<=9223372036854775807 then some (.str (a++b))else none
   | .eql=>some (.bool (a==b))
   | .neq=>some (.bool !(a==b))
   | .lss=>some (.bool (Op.bytesLess a b))
   | .leq=>some (.bool (Op.bytesLess a b||a==b))
   | .gtr=>some (.bool !(Op.bytesLess a b||a==b))
   | .geq=>some (.bool !(Op.bytesLess a b))
   | _=>none
 | _,_=>none
def J8n(T:Nat->Option TI)(t:TypeId):Bool:=
 match T t with
 | some ⟨.bool,_,_,_⟩=>true
 | _=>false
def qbin(T:Nat->Option TI)(op:BinOp)(t:TypeId):AV->AV->Option AV
 | .pv (.bool a),.pv (.bool b)=>
   if J8n T t then
    match op with
    | .eql=>some (.pv (.bool (a==b)))
    | .neq=>some (.pv (.bool !(a==b)))
    | _=>none
   else none
 | .pv p,.pv q=>(pbin op p q).map .pv
 | _,_=>none
def J5l(T:Nat->Option TI)(op:BinOp)(t:TypeId):AV->Option AV
 | .pv .nil=>match T t,op with
   | some ⟨.iface,_,_,_⟩,.eql=>some (.pv (.bool true))
   | some ⟨.iface,_,_,_⟩,.neq=>some (.pv (.bool false))
   | _,_=>none
 | .pv .ifc=>match T t,op with
   | some ⟨.iface,_,_,_⟩,.eql=>some (.pv (.bool false))
   | some ⟨.iface,_,_,_⟩,.neq=>some (.pv (.bool true))
   | _,_=>none
 | _=>none
def Z8i:Operand->Bool
 | .const .nilIface=>true
 | _=>false
def pvEq:EK->PV->PV->Option Bool
 | .int,.int k a,.int d b=>if k=d then some (decide (a=b))else none
 | .str,.str a,.str b=>some (decide (a=b))
 | .bool,.bool a,.bool b=>some (a==b)
 | _,_,_=>none
def Q2l:List EK->List PV->List PV->Option Bool
 | [],[],[]=>some true
 | k::ks,p::ps,q::d=>match pvEq k p q,Q2l ks ps d with
   | some a,some b=>some (a&&b)
   | _,_=>none
 | _,_,_=>none
def qeq(ks:List EK)(op:BinOp):AV->AV->Option AV
 | .pv (.agg a),.pv (.agg b)=>match op with
   | .eql=>(Q2l ks a b).map λr=>.pv (.bool r)
   | .neq=>(Q2l ks a b).map λr=>.pv (.bool !r)
   | _=>none
 | _,_=>none
def qun(op:UnOp):AV->Option AV
 | .pv (.bool b)=>match op with
   | .not=>some (.pv (.bool !b))
   | _=>none
 | .pv (.int k n)=>match op with
   | .neg=>some (.pv (.int k (k.wrap (0-n))))
   | _=>none
 | _=>none
def Q5o(ti:TI)(cs:List PV):Option PV:=
 match ti.k with
 | .strct _=>if ti.size<=cs.length then some (.agg (cs.take ti.size))else none
 | .other=>none
 | _=>cs[0]?
def Z9a:List AV->Option (List PV)
 | []=>some []
 | .pv p::r=>(Z9a r).map (p::·)
 | _=>none
def Z7o(T:Nat->Option TI)(H:List AObj)(t:TypeId)(x:AV):Option AV:=
 match T t with
 | none=>none
 | some ti=>
   match x with
   | .pptr cs=>(Q5o ti cs).map .pv
   | .ref l o=>match H[l]? with
     | some (.var cs)=>
       match ti.k with
       | .strct _=>if o+ti.size<=cs.length then some (match Z9a ((cs.drop o).take ti.size)with
         | some ps=>.pv (.agg ps)
         | none=>.agg ((cs.drop o).take ti.size))else none
       | .other=>none
       | _=>cs[o]?
     | _=>none
   | .vptr l n i o=>match H[l]? with
     | some (.row _ _ xs _)=>if xs.length=n then match xs[i]? with
        | some x=>(Q5o ti (x.cells.drop o)).map .pv
        | none=>none
       else none
     | _=>none
   | _=>none
def Q7e(T:Nat->Option TI)(t:TypeId)(f:Nat)(x:AV):Option AV:=
 match T t with
 | some ⟨.strct a,_,_,_⟩=>match a[f]? with
   | some (off,sz)=>if sz=0 then none else match x with
     | .ref l o=>some (.ref l (o+off))
     | .pptr cs=>some (.pptr (cs.drop off))
     | .vptr l n i o=>some (.vptr l n i (o+off))
     | _=>none
   | none=>none
 | _=>none
def Q3j(T:Nat->Option TI)(H:List AObj)(t:TypeId)(x i:AV):Option AV:=
 match T t with
 | some ⟨.slice e,_,_,_⟩=>match T e,i with
   | some a,.pv (.int _ i)=>
     if 0<=i then match x with
      | .pv (.slice xs)=>match xs[i.toNat]? with
        | some y=>if y.cells.length=a.size then some (.pptr y.cells)else none
        | none=>none
      | .vec l n=>match rowAt H l with
        | some (_,sz,_)=>if i.toNat<n/\sz=a.size then some (.vptr l n i.toNat 0)else none
        | _=>none
      | _=>none
     else none
   | _,_=>none
 | _=>none
def Q1j(T:Nat->Option TI)(t:TypeId)(x i:AV):Option AV:=
 match T t,x,i with
 | some ⟨.str,_,_,_⟩,.pv (.str s),.pv (.int _ i)=>
   if 0<=i then match s[i.toNat]? with
    | some c=>some (.pv (.int .u8 c.toNat))
    | none=>none
   else none
 | _,_,_=>none
def Q8b(d:Nat):Option AV->Option Nat
 | none=>some d
 | some (.pv (.int _ n))=>if 0<=n then some n.toNat else none
 | _=>none
def Z5g(T:Nat->Option TI)(H:List AObj)(t:TypeId)(x:AV)(a b:Option AV):Option AV:=
 match T t with
 | some ⟨.str,_,_,_⟩=>match x with
   | .pv (.str s)=>match Q8b 0 a,Q8b s.length b with
     | some l,some h=>if l<=h/\h<=s.length then some (.pv (.str ((s.drop l).take (h-l))))else none
     | _,_=>none
   | _=>none
 | some ⟨.slice e,_,_,_⟩=>match T e,toPV H x with
   | some d,some (.slice xs)=>match Q8b 0 a,Q8b xs.length b with
     | some l,some h=>if l<=h/\h<=xs.length/\(xs.all λy=>y.cells.length==d.size)=true then some (.pv (.slice ((xs.drop l).take (h-l))))else none
     | _,_=>none
   | _,_=>none
 | _=>none
def Z6n(x:AV)(i:Nat):Option AV:=
 match x with
 | .tup vs=>vs[i]?
 | _=>none
def Q3c(cs:List PV)(off:Nat)(ps:List PV):List PV:=cs.take off++ps++cs.drop (off+ps.length)
def J0a(H:List AObj)(a:List (Nat×Nat)):List PV->List (Nat×AV)->Option (List PV)
 | cs,[]=>some cs
 | cs,(i,v)::r=>match a[i]?,toPV H v with
   | some (off,sz),some p=>if p.cells.length=sz/\off+sz<=cs.length then J0a H a (Q3c cs off p.cells) r else none
   | _,_=>none
def Z7t(T:Nat->Option TI)(H:List AObj)(t:TypeId)(Q0l:List (Nat×AV)):Option AV:=
 match T t with
 | some ⟨.strct a,_,_,some z⟩=>(J0a H a z Q0l).map λcs=>.pv (.agg cs)
 | _=>none
def qnil:AV->Option AV
 | .ref l o=>some (.ref l o)
 | .pptr cs=>some (.pptr cs)
 | .vptr l n i o=>some (.vptr l n i o)
 | _=>none
def X0k(ti:TI):Option PV:=
 match ti.k,ti.zero with
 | .strct _,some z=>some (.agg z)
 | .other,_=>none
 | _,some [z]=>some z
 | _,_=>none
def K3k(T:Nat->Option TI)(a dst:TypeId)(x:AV):Option AV:=
 match T a,T dst,x with
 | some ⟨.int _,_,_,_⟩,some ⟨.int k,_,_,_⟩,.pv (.int _ n)=>some (.pv (.int k (k.wrap n)))
 | some ⟨.str,_,_,_⟩,some ⟨.str,_,_,_⟩,.pv (.str s)=>some (.pv (.str s))
 | _,_,_=>none
def Q9g:List PV->Option (List UInt8)
 | []=>some []
 | .int .u8 n::r=>if 0<=n/\n<256 then(Q9g r).map (UInt8.ofNat n.toNat::·)else none
 | _=>none
def isU8(T:Nat->Option TI)(e:TypeId):Bool:=
 match T e with
 | some ⟨.int .u8,_,_,_⟩=>true
 | _=>false
def X1g(T:Nat->Option TI)(H:List AObj)(a dst:TypeId)(l n:Nat):Option AV:=
 match T a,T dst,H[l]? with
 | some ⟨.slice e,_,_,_⟩,some ⟨.str,_,_,_⟩,some (.row _ 1 xs _)=>if isU8 T e=true/\xs.length=n then(Q9g xs).map λs=>.pv (.str s)else none
 | _,_,_=>none
def J7z(T:Nat->Option TI)(a dst:TypeId)(xs:List PV):Option AV:=
 match T a,T dst with
 | some ⟨.slice e,_,_,_⟩,some ⟨.str,_,_,_⟩=>if isU8 T e=true then(Q9g xs).map λs=>.pv (.str s)else none
 | _,_=>none
def J1a(T:Nat->Option TI)(H:List AObj)(a dst:TypeId):AV->Option AV
 | .vec l n=>X1g T H a dst l n
 | .full xs=>J7z T a dst xs
 | x=>K3k T a dst x
theorem X7r(T:Nat->Option TI)(H:List AObj)(a dst:TypeId)(p:PV):J1a T H a dst (.pv p)=K3k T a dst (.pv p):=rfl
def Z2i:List AV->Option (List Nat)
 | []=>some []
 | .ref l 0::r=>(Z2i r).map (l::·)
 | _=>none
def qval(T:Nat->Option TI)(t:Nat->AV)(H:List AObj):Op->Option AV
 | .move x=>some (ev t x)
 | .assign x=>some (ev t x)
 | .pick c a b=>match ev t c with
   | .pv (.bool v)=>some (if v then ev t a else ev t b)
   | _=>none
 | .binOp op d x y _=>qbin T op d (ev t x) (ev t y)
 | .unOp op _ x=>qun op (ev t x)
 | .load d x=>Z7o T H d (ev t x)
 | .fieldAddr d x f=>Q7e T d f (ev t x)
 | .indexAddr d x i=>Q3j T H d (nrm (ev t x)) (ev t i)
 | .index d x i=>Q1j T d (ev t x) (ev t i)
 | .slice d x e g none=>Z5g T H d (ev t x) (e.map (ev t)) (g.map (ev t))
 | .extract x i=>Z6n (ev t x) i
 | .build d Q0l=>Z7t T H d (Q0l.toList.map λp=>(p.1,ev t p.2))
 | .nilCheck x=>qnil (ev t x)
 | .convert j dst x=>J1a T H j dst (ev t x)
 | .call ⟨.builtin .len,args,l⟩=>match args.toList,l.toList with
   | [x],[d]=>qlen T H d (nrm (ev t x))
   | _,_=>none
 | .makeFunc (.func f) first m=>if first.size=0 then(Z2i (m.toList.map (ev t))).map (AV.fn f)else none
 | _=>none
end Go.Abs
