import Derived.Calls
import Derived.Orders
import Derived.Laws.AppendOwn
import Derived.Below
import Derived.Laws.Entries
import Derived.Laws.Slices
import Derived.Lib.Builder
import Derived.Lib.FrozenHead
import Derived.Laws.Strings2
import Derived.Laws.Concat
import Derived.Laws.Cells
set_option linter.unusedVariables false
set_option linter.unusedSimpArgs false
set_option linter.defProp false
namespace Go.Abs
def G0a:=@Option.bind_some
def G0b:=@Option.some.injEq
def G0c:=@List.getElem?_eq_getElem
def G0d:=@decide_eq_false
def G0e:=@decide_eq_true
def G0f:=@List.getElem?_eq_some_iff
def G0g:=@Option.map_eq_some_iff
def G0h:=@List.length_cons
def G0i:=@List.length_append
def G0j:=@List.length_nil
def G0k:=@Bool.and_eq_true
def G0l:=@List.getElem?_append_left
def G0m:=@List.getElem?_append_right
def G0n:=@List.getElem?_cons_zero
def G0o:=@Nat.le_refl
def G0p:=@List.length_drop
def G0q:=@Bool.not_false
def G0r:=@List.mem_of_getElem?
def G0s:=@decide_eq_true_eq
def G0t:=@List.all_eq_true
def G0u:=@Bool.not_true
def G0v:=@List.getD_eq_getElem?_getD
def G0w:=@Option.map_some
def G0x:=@List.getElem?_map
def G0y:=@List.getElem?_cons_succ
def G0z:=@List.append_assoc
def G1a:=@List.getElem?_eq_none
def G1b:=@Array.getElem?_eq_some_iff
def G1c:=@List.getElem?_set_self
def G1d:=@Prod.mk.injEq
def G1e:=@List.getElem?_set_ne
def G1f:=@Nat.lt_of_lt_of_le
def G1g:=@List.eq_nil_of_length_eq_zero
def G1h:=@List.length_take
def G1i:=@Bool.true_and
def G1j:=@Array.length_toList
def G1k:=@List.mem_range
def G1l:=@List.getElem?_take
def G1m:=@List.length_map
def G1n:=@Option.bind_eq_some_iff
def G1o:=@Bool.false_and
def G1p:=@Bool.false_or
def G1q:=@List.mem_cons
def G1r:=@Int.toNat_zero
def G1s:=@List.append_nil
def G1t:=@Nat.not_lt_zero
def G1u:=@List.getElem?_drop
def G1v:=@List.take_append_drop
def G1w:=@List.length_replicate
def G1x:=@Bool.or_eq_false_iff
def G1y:=@List.nil_append
def G1z:=@Array.getElem?_toList
def G2a:=@List.mem_filter
def G2b:=@Nat.sub_zero
def G2c:=@List.isPrefixOf_iff_prefix
def G2d:=@Bool.and_false
def G2e:=@List.getElem_of_mem
def G2f:=@Nat.mul_le_mul_right
def G2g:=@List.map_cons
def G2h:=@List.map_nil
def G2i:=@if_false
def G2j:=@Nat.add_zero
def G2k:=@Array.getElem?_eq_getElem
def G2l:=@Nat.zero_le
def G2m:=@Array.getD_eq_getD_getElem?
def G2n:=@Bool.or_false
def G2o:=@Int.toNat_natCast
def G2p:=@List.drop_eq_getElem_cons
def G2q:=@List.mem_or_eq_of_mem_set
def G2r:=@Bool.or_eq_true
def G2s:=@List.length_set
def G2t:=@List.drop_eq_nil_of_le
def G2u:=@List.getElem_mem
def G2v:=@List.mem_append
def G2w:=@List.mem_cons_of_mem
def G2x:=@Bool.and_true
def G2y:=@Nat.zero_add
def G2z:=@Bool.false_eq_true
def G3a:=@List.cons_append
def G3b:=@Nat.add_assoc
def G3c:=@List.length_eq_zero_iff
def G3d:=@Bool.true_or
def G3e:=@List.drop_zero
def G3f:=@List.getElem?_range
def G3g:=@Option.some.inj
def G3h:=@beq_iff_eq
def G3i:=@List.mem_map
def G3j:=@Nat.succ_mul
def G3k:=@List.mem_of_mem_drop
def G3l:=@Array.toArray_toList
def G3m:=@List.mem_filterMap
def G3n:=@Option.ite_none_left_eq_some
def G3o:=@Bool.and_self
def G3p:=@List.mem_of_mem_take
def G3q:=@List.cons.injEq
def G3r:=@List.take_succ_cons
def G3s:=@Array.getElem?_modify
def G3t:=@congrArg
def G3u:=@Nat.le_trans
def G3v:=@List.take_of_length_le
def G3w:=@not_true_eq_false
def G3x:=@List.ext_getElem?
def G3y:=@of_decide_eq_true
def G3z:=@List.drop_succ_cons
def G4a:=@List.length_pos_iff
def G4b:=@Array.mapM_eq_mapM_toList
def G4c:=@Nat.mul_comm
def G4d:=@List.mem_singleton
def G4e:=@List.contains_cons
def G4f:=@List.mem_flatMap
def G4g:=@Array.getElem?_setIfInBounds
def G4h:=@List.size_toArray
def G4i:=@List.nodup_cons
def G4j:=@List.map_congr_left
def G4k:=@List.mem_cons_self
def G4l:=@List.getElem_range
def G4m:=@of_decide_eq_false
def G4n:=@decide_true
def G4o:=@List.mem_append_left
def G4p:=@Nat.div_add_mod
def G4q:=@Bool.not_eq_true'
def G4r:=@of_eq_true
def G4s:=@UInt8.ofNat_toNat
def G4t:=@Nat.lt_or_ge
def G4u:=@List.eq_nil_iff_forall_not_mem
def G4v:=@Nat.le_mul_of_pos_right
def G4w:=@Int.toNat_of_nonneg
def G4x:=@List.getD_cons_zero
def G4y:=@cond_true
def G4z:=@List.getElem_map
def G5a:=@List.ext_getElem
def G5b:=@List.pairwise_lt_range
def G5c:=@List.mem_append_right
def G5d:=@Classical.choose_spec
def G5e:=@Int.le_refl
def G5f:=@Nat.le_of_ble_eq_true
def G5g:=@List.flatMap_cons
def G5h:=@Array.ext'
def G5i:=@List.nodup_append
def G5j:=@not_false_eq_true
def G5k:=@List.exists_cons_of_ne_nil
def G5l:=@Nat.div_lt_of_lt_mul
def G5m:=@decide_eq_decide
def G5n:=@List.filter_eq_self
def G5o:=@List.getD_cons_succ
def G5p:=@Option.isSome_iff_exists
def G5q:=@cond_false
def G5r:=@Bool.or_true
def G5s:=@and_true
def G5t:=@Bool.eq_iff_iff
def G5u:=@Nat.min_eq_left
def G5v:=@decide_eq_false_iff_not
def G5w:=@Except.ok.injEq
def G5x:=@bne_iff_ne
def G5y:=@List.contains_nil
def G5z:=@Option.bind_assoc
def G6a:=@Bool.eq_false_iff
def G6b:=@List.take_left
def G6c:=@decide_false
def G6d:=@Array.getElem?_append
def G6e:=@Int.lt_or_le
def G6f:=@List.any_eq_true
def G6g:=@List.cons.inj
def G6h:=@Nat.mod_lt
def G6i:=@Array.toList_zipIdx
def G6j:=@Nat.mul_one
def G6k:=@Nat.div_eq_of_lt_le
def G6l:=@Array.foldl_toList
def G6m:=@Array.empty_append
def G6n:=@Nat.add_comm
def G6o:=@List.pairwise_cons
def G6p:=@List.mem_replicate
def G6q:=@List.take_zero
def G6r:=@List.drop_drop
def G6s:=@List.mapM_cons
def G6t:=@List.mem_of_find?_eq_some
def G6u:=@Nat.lt_trichotomy
def G6v:=@Decidable.not_not
def G6w:=@Nat.mod_eq_of_lt
def G6x:=@List.not_mem_nil
def G6y:=@Array.getElem?_eq_none
def G6z:=@Nat.sub_self
def G7a:=@List.find?_some
def G7b:=@Nat.max_zero
def G7c:=@List.contains_iff_mem
def G7d:=@UInt8.toNat_lt
def G7e:=@Nat.add_mul
def G7f:=@List.all_cons
def G7g:=@Nat.max_assoc
def G7h:=@Nat.zero_max
def G7i:=@Eq.trans
inductive PV where
 | bool (b:Bool)
 | int (k:IntKind) (n:Int)
 | str (s:List UInt8)
 | nil
 | slice (xs:List PV)
 | agg (cs:List PV)
 | ifc
 | nilp
 deriving Inhabited
def PV.cells:PV->List PV
 | .agg cs=>cs
 | p=>[p]
def PV.one:PV->Bool
 | .agg _=>false
 | _=>true
def flat(xs:List PV):List PV:=xs.flatMap PV.cells
inductive Rep(Φ:Nat->Nat->Prop)(w:World):Value->PV->Prop
 | bool (b:Bool):Rep Φ w (.bool b) (.bool b)
 | int (k:IntKind) (n:Int):Rep Φ w (.int k n) (.int k n)
 | str (s:List UInt8):Rep Φ w (.string ⟨⟨s⟩⟩) (.str s)
 | nil:Rep Φ w .nilIface .nil
 | ifc (t:TypeId) (v:Value):Rep Φ w (.iface t v) .ifc
 | nilp:Rep Φ w (.pointer none) .nilp
 | sliceNil:Rep Φ w (.slice none 0 0) (.slice [])
 | slice (b o len cap sz:Nat) (xs:List PV) (vs:Nat->Value) (hl:xs.length=len) (hc:len<=cap) (hm:cap<=maxLen)
    (hsz:∀x∈xs,x.cells.length=sz) (h1:∀c∈flat xs,c.one=true)
    (hcell:∀k,k<(flat xs).length->Φ b (o+k)/\w.cell? ⟨b,o+k,none⟩=some (vs k))
    (hrep:∀k c,(flat xs)[k]?=some c->Rep Φ w (vs k) c):Rep Φ w (.slice (some ⟨b,o,none⟩) len cap) (.slice xs)
 | sliceAny (A:Addr) (cap:Nat) (hm:cap<=maxLen):Rep Φ w (.slice (some A) 0 cap) (.slice [])
 | agg (vs:List Value) (cs:List PV) (hl:vs.length=cs.length) (h1:∀c∈cs,c.one=true)
    (hrep:∀ (k:Nat) (v:Value) (c:PV),vs[k]?=some v->cs[k]?=some c->Rep Φ w v c):Rep Φ w (.agg ⟨vs⟩) (.agg cs)
theorem Rep.mono{Φ Φ':Nat->Nat->Prop}{w w':World}(i:∀b k,Φ b k->Φ' b k)(j:∀b k,Φ b k->w'.cell? ⟨b,k,none⟩=w.cell? ⟨b,k,none⟩)
 {v:Value} {p:PV} (h:Rep Φ w v p):Rep Φ' w' v p:=by
 induction h with
 | bool b=>exact .bool b
 | int k n=>exact .int k n
 | str s=>exact .str s
 | nil=>exact .nil
 | ifc t v=>exact .ifc t v
 | nilp=>exact .nilp
 | sliceNil=>exact .sliceNil
 | slice b o len cap sz xs vs a l d m e f q g=>
   exact .slice b o len cap sz xs vs a l d m e (λk hk=>⟨i _ _ (f k hk).1,(j _ _ (f k hk).1).trans (f k hk).2⟩) g
 | sliceAny A cap d=>exact .sliceAny A cap d
 | agg vs cs a e q g=>exact .agg vs cs a e g
theorem Rep.one{Φ:Nat->Nat->Prop}{w:World}{v:Value}{p:PV}(h:Rep Φ w v p)(a:p.one=true):v.oneCell'=true:=by
 cases h<;>first|rfl|simp[PV.one]at a
inductive AV where
 | any
 | pv (p:PV)
 | ref (l off:Nat)
 | pptr (cs:List PV)
 | vec (l n:Nat)
 | vptr (l n i off:Nat)
 | mref (l:Nat)
 | selfp (l:Nat)
 | nils
 | full (xs:List PV)
 | tup (vs:List AV)
 | agg (vs:List AV)
 | fn (f:Nat) (caps:List Nat)
 | ifc (t:TypeId) (p:PV)
 deriving Inhabited
def AV.isS:AV->Bool
 | .selfp _=>true
 | .any=>false
 | .pv _=>false
 | .ref _ _=>false
 | .pptr _=>false
 | .vec _ _=>false
 | .vptr _ _ _ _=>false
 | .mref _=>false
 | .nils=>false
 | .full _=>false
 | .tup _=>false
 | .agg _=>false
 | .fn _ _=>false
 | .ifc _ _=>false
def noS:List AV->Bool
 | []=>true
 | a::r=>!a.isS&&noS r
theorem J4p:∀ {us:List AV},noS us=true->∀c∈us,c.isS=false
 | a::r,h,c,b=>by
   simp only[noS,G0k,G4q]at h
   rcases G1q.1 b with rfl|b
   ·exact h.1
   exact J4p h.2 c b
inductive AObj where
 | var (cs:List AV)
 | row (e:TypeId) (sz:Nat) (xs:List PV) (fz:Bool)
 | map (es:List (PV×PV))
 | bld (s:List UInt8)
 | brow (e:TypeId) (s:List UInt8)
 | prn (e1:TypeId) (s:List UInt8) (e2:TypeId) (sz:Nat) (xs:List PV)
 | iter (s:List UInt8) (p:Nat)
 | tree (e:TypeId) (sz off:Nat) (e2:TypeId) (sz2 m:Nat) (xs:List PV)
 | hrow (e:TypeId) (sz:Nat) (xs:List PV) (j off l n:Nat)
 | moved (e:TypeId) (sz n:Nat)
 | hold (d:Nat)
 | gone
def Q1o:AObj->Option (TypeId×Nat×Nat)
 | .row e sz xs _=>some (e,sz,xs.length)
 | .tree e sz _ _ _ _ xs=>some (e,sz,xs.length)
 | .hrow e sz xs _ _ _ _=>some (e,sz,xs.length)
 | .moved e sz n=>some (e,sz,n)
 | .brow e s=>some (e,1,s.length)
 | _=>none
def rowAt(H:List AObj)(l:Nat):Option (TypeId×Nat×Nat):=(H[l]?).bind Q1o
structure Gh where
 v:Value
 own:List Nat
def gv(γ:List Gh)(l:Nat):Option Value:=γ[l]?.map Gh.v
inductive ARel(γ:List Gh)(H:List AObj)(Φ:Nat->Nat->Prop)(w:World):Value->AV->Prop
 | any (v:Value):ARel γ H Φ w v .any
 | pv {v:Value} {p:PV} (h:Rep Φ w v p):ARel γ H Φ w v (.pv p)
 | ref (b l off:Nat) (h:gv γ l=some (.pointer (some ⟨b,0,none⟩))):ARel γ H Φ w (.pointer (some ⟨b,off,none⟩)) (.ref l off)
 | pptr (b o:Nat) (cs:List PV) (vs:Nat->Value) (h1:∀c∈cs,c.one=true)
    (hcell:∀k,k<cs.length->Φ b (o+k)/\w.cell? ⟨b,o+k,none⟩=some (vs k))
    (hrep:∀ (k:Nat) c,cs[k]?=some c->Rep Φ w (vs k) c):ARel γ H Φ w (.pointer (some ⟨b,o,none⟩)) (.pptr cs)
 | vec (A:Option Addr) (l n cap:Nat) (e:TypeId) (sz len:Nat) (hrow:rowAt H l=some (e,sz,len)) (hn:n<=len) (hA:0<n->∃b,A=some ⟨b,0,none⟩)
    (h:len=n->gv γ l=some (.slice A n cap)):ARel γ H Φ w (.slice A n cap) (.vec l n)
 | vptr (b o l n i off:Nat) (e:TypeId) (sz len:Nat) (hrow:rowAt H l=some (e,sz,len)) (hn:n<=len)
    (h:len=n->∃cap,gv γ l=some (.slice (some ⟨b,0,none⟩) n cap)/\o=i * sz+off):ARel γ H Φ w (.pointer (some ⟨b,o,none⟩)) (.vptr l n i off)
 | nils:ARel γ H Φ w (.slice none 0 0) .nils
 | full (A:Option Addr) (n:Nat) (xs:List PV) (h:Rep Φ w (.slice A n n) (.slice xs)):ARel γ H Φ w (.slice A n n) (.full xs)
 | mref (b l:Nat) (h:gv γ l=some (.map (some b))):ARel γ H Φ w (.map (some b)) (.mref l)
 | selfp (A:Option Addr) (l:Nat) (h:∀a,A=some a->gv γ l=some (.pointer (some a))):ARel γ H Φ w (.pointer A) (.selfp l)
 | fn (f:Nat) (cs:List Value) (caps:List Nat) (hl:cs.length=caps.length) (h:∀ (k:Nat) v l,cs[k]?=some v->caps[k]?=some l->∃b,v=.pointer (some ⟨b,0,none⟩)/\gv γ l=some v):ARel γ H Φ w (.func (.func f) #[] ⟨cs⟩) (.fn f caps)
 | ifc (t:TypeId) (u:Value) (p:PV) (h:Rep Φ w u p):ARel γ H Φ w (.iface t u) (.ifc t p)
 | tup (ws:List Value) (vs:List AV) (hl:ws.length=vs.length) (h:∀ (k:Nat) v c,ws[k]?=some v->vs[k]?=some c->ARel γ H Φ w v c):ARel γ H Φ w (.tuple ⟨ws⟩) (.tup vs)
 | agg (ws:List Value) (vs:List AV) (hl:ws.length=vs.length) (h1:∀v∈ws,v.oneCell'=true) (h:∀ (k:Nat) v c,ws[k]?=some v->vs[k]?=some c->ARel γ H Φ w v c):ARel γ H Φ w (.agg ⟨ws⟩) (.agg vs)
structure Evo(γ:List Gh)(H:List AObj)(Φ:Nat->Nat->Prop)(w:World)(γ':List Gh)(H':List AObj)(Φ':Nat->Nat->Prop)(w':World):Prop where
 phi:∀b k,Φ b k->Φ' b k
 cell:∀b k,Φ b k->w'.cell? ⟨b,k,none⟩=w.cell? ⟨b,k,none⟩
 gh:∀ (l:Nat) (v:Value),gv γ l=some v->gv γ' l=some v\/∃A n c,v=.slice A n c
 row:∀ (l:Nat) (e:TypeId) (sz n:Nat),rowAt H l=some (e,sz,n)->∃n',rowAt H' l=some (e,sz,n')/\n<=n'/\(n=n'->gv γ' l=gv γ l)
theorem Q2h{H:List AObj}{l:Nat}{e:TypeId}{sz:Nat}{xs:List PV}{fz:Bool}(h:H[l]?=some (.row e sz xs fz)):rowAt H l=some (e,sz,xs.length):=by
 unfold rowAt
 rw[h]
 rfl
theorem Q9f{H:List AObj}{l:Nat}{e:TypeId}{sz off a b m:Nat}{xs:List PV}(h:H[l]?=some (.tree e sz off a b m xs)):rowAt H l=some (e,sz,xs.length):=by
 unfold rowAt
 rw[h]
 rfl
theorem Z8c{H:List AObj}{l:Nat}{e:TypeId}{sz:Nat}{xs:List PV}{j off l' n:Nat}(h:H[l]?=some (.hrow e sz xs j off l' n)):rowAt H l=some (e,sz,xs.length):=by
 unfold rowAt
 rw[h]
 rfl
theorem Q4r{H:List AObj}{l:Nat}{p:TypeId×Nat×Nat}(h:rowAt H l=some p):∃o,H[l]?=some o/\Q1o o=some p:=G1n.1 h
theorem Q7d{H:List AObj}{l:Nat}{p:TypeId×Nat×Nat}(h:rowAt H l=some p):l<H.length:=by
 obtain⟨o,a,_⟩:=Q4r h
 exact(G0f.1 a).1
theorem Evo.refl(γ:List Gh)(H:List AObj)(Φ:Nat->Nat->Prop)(w:World):Evo γ H Φ w γ H Φ w:=
 ⟨λ_ _ h=>h,λ_ _ _=>rfl,λ_ _ h=>.inl h,λ_ _ _ n h=>⟨n,h,G0o _,λ_=>rfl⟩⟩
theorem Evo.trans{a d f:List Gh}{H₁ H₂ H₃:List AObj}{g j m:Nat->Nat->Prop}{o w₂ w₃:World}
 (h:Evo a H₁ g o d H₂ j w₂) (k:Evo d H₂ j w₂ f H₃ m w₃):Evo a H₁ g o f H₃ m w₃:=by
 refine⟨λb i x=>k.phi _ _ (h.phi _ _ x),λb i x=>(k.cell _ _ (h.phi _ _ x)).trans (h.cell _ _ x),λl v x=>?_,λl e sz n x=>?_⟩
 ·rcases h.gh l v x with y|y
  ·exact k.gh l v y
  exact .inr y
 obtain⟨p,q,r,s⟩:=h.row l e sz n x
 obtain⟨t,u,w,z⟩:=k.row l e sz p q
 exact⟨t,u,G3u r w,λA=>(z (by omega)).trans (s (by omega))⟩
theorem ARel.mono{γ C:List Gh}{H H':List AObj}{Φ Φ':Nat->Nat->Prop}{w w':World}(d:Evo γ H Φ w C H' Φ' w')
 {v:Value} {a:AV} (h:ARel γ H Φ w v a):ARel C H' Φ' w' v a:=by
 induction h with
 | any v=>exact .any v
 | pv h=>exact .pv (h.mono d.phi d.cell)
 | ref b l off h=>
   refine .ref b l off ?_
   rcases d.gh l _ h with x|⟨A,n,c,x⟩
   ·exact x
   cases x
 | pptr b o cs vs j m D=>
   exact .pptr b o cs vs j (λk hk=>⟨d.phi _ _ (m k hk).1,(d.cell _ _ (m k hk).1).trans (m k hk).2⟩) (λk c q=>(D k c q).mono d.phi d.cell)
 | vec A l n cap e sz len hrow E F h=>
   obtain⟨r,h',g,s⟩:=d.row l e sz len hrow
   exact .vec A l n cap e sz r h' (by omega) F (λI=>(s (by omega)).trans (h (by omega)))
 | vptr b o l n i off e sz len hrow E h=>
   obtain⟨r,h',g,s⟩:=d.row l e sz len hrow
   refine .vptr b o l n i off e sz r h' (by omega) (λI=>?_)
   obtain⟨cap,j,J⟩:=h (by omega)
   exact⟨cap,(s (by omega)).trans j,J⟩
 | selfp A l h=>
   refine .selfp A l (λa e=>?_)
   rcases d.gh l _ (h a e)with x|⟨A,n,c,x⟩
   ·exact x
   cases x
 | mref b l h=>
   refine .mref b l ?_
   rcases d.gh l _ h with x|⟨A,n,c,x⟩
   ·exact x
   cases x
 | nils=>exact .nils
 | ifc t u p h=>exact .ifc t u p (h.mono d.phi d.cell)
 | full A n xs h=>exact .full A n xs (h.mono d.phi d.cell)
 | tup y vs g h z=>exact .tup y vs g z
 | agg y vs g j h z=>exact .agg y vs g j z
 | fn f cs K g h=>
   refine .fn f cs K g (λk v l L q=>?_)
   obtain⟨b,rfl,M⟩:=h k v l L q
   rcases d.gh l _ M with x|⟨A,n,c,x⟩
   ·exact⟨b,rfl,x⟩
   cases x
end Go.Abs
namespace Go.Abs
open Go.RowKit
inductive TK where
 | int (k:IntKind)
 | bool
 | str
 | slice (e:TypeId)
 | strct (fs:List (Nat×Nat))
 | map (k e:TypeId)
 | ptr (e:TypeId)
 | iface
 | other
 deriving Inhabited
structure TI where
 k:TK
 size:Nat
 bytes:Nat
 zero:Option (List PV)
 deriving Inhabited
def TKok(P:Program):TypeDesc->TK->Prop
 | .int k,.int b=>k=b
 | .bool,.bool=>True
 | .string,.str=>True
 | .slice e,.slice a=>e=a
 | .struct fields,.strct d=>fields.size=d.length/\∀ (j:Nat) (f:Field) (p:Nat×Nat),fields[j]?=some f->d[j]?=some p->f.offset=p.1/\∃g,P.info? f.type=some g/\g.size=p.2
 | .map k e,.map b a=>k=b/\e=a
 | .pointer e,.ptr a=>e=a
 | .interface _,.iface=>True
 | _,.other=>True
 | _,_=>False
def Zero1(v:Value)(p:PV):Prop:=p.one=true/\(∀ (Φ:Nat->Nat->Prop) (w:World),Rep Φ w v p)/\(p=.slice []->v=.slice none 0 0)
structure TOne(P:Program)(t:TypeId)(ti:TI):Prop where
 info:∃i d,P.info? t=some i/\i.size=ti.size/\i.bytes=ti.bytes/\P.underlying t=some d/\TKok P d ti.k/\
  (∀zs,ti.zero=some zs->∃z,i.zero=some z/\z.cells.toList.length=zs.length/\zs.length=ti.size/\(∀ (k:Nat) v c,z.cells.toList[k]?=some v->zs[k]?=some c->Zero1 v c)/\
    (∀fs,ti.k=.strct fs->∃cs,z=.agg cs)/\((∀fs,ti.k≠.strct fs)->z.cells=#[z]))
inductive EK where
 | bool
 | str
 | int
 deriving DecidableEq,Inhabited
def EK.fits:EK->TypeDesc->Prop
 | .bool,d=>d=.bool
 | .str,d=>d=.string
 | .int,d=>∃k,d=.int k
inductive FitsF(P:Program):Nat->List Field->Nat->List EK->Prop
 | nil (n j:Nat):FitsF P n [] j []
 | one {n:Nat} {f:Field} {fs:List Field} {j:Nat} {k:EK} {ks:List EK} {d:TypeDesc} (hn:f.name≠"_") (ho:f.offset=j) (hd:P.underlying f.type=some d) (hk:k.fits d) (hr:FitsF P n fs (j+1) ks):FitsF P (n+1) (f::fs) j (k::ks)
 | sub {n:Nat} {f:Field} {fs:List Field} {j:Nat} {ks1 ks2:List EK} {sub:Array Field} {i:TypeInfo} (hn:f.name≠"_") (ho:f.offset=j) (hd:P.underlying f.type=some (.struct sub)) (hh:P.stoodInHeld f.type=false)
    (hi:P.info? f.type=some i) (hs:i.size=ks1.length) (h1:FitsF P n sub.toList 0 ks1) (hr:FitsF P n fs (j+ks1.length) ks2):FitsF P (n+1) (f::fs) j (ks1++ks2)
structure EqOne(P:Program)(t:TypeId)(ks:List EK):Prop where
 ex:∃fields:Array Field,P.underlying t=some (.struct fields)/\P.stoodInHeld t=false/\P.eqGuardType P.depth t=false/\∃n,n<=9000/\FitsF P n fields.toList 0 ks
structure Env where
 P:Program
 T:Nat->Option TI
 hT:∀t ti,T t=some ti->TOne P t ti
 gN:Nat
 GI:World->Prop
 hG:∀w w':World,GI w->(∀b,b<gN->w'.heap[b]?=w.heap[b]?)->GI w'
 bT:Option TypeId
 be:TypeId
 eqT:TypeId->Option (List EK)
 ownT:TypeId->Bool
 dfs:List Deferred:=[]
 pT:Option TypeId:=none
 pe1:TypeId:=0
 pe2:TypeId:=0
 psz:Nat:=1
 hpz:0<psz:=by decide
 hpT:∀t,pT=some t->∀w:World,(zeroValue t).run P w=.ok (.agg #[.pointer none,.slice none 0 0,.slice none 0 0]) w:=by nofun
 hEq:∀t ks,eqT t=some ks->EqOne P t ks
 hbT:∀t,bT=some t->∀w:World,(zeroValue t).run P w=.ok (.agg #[.pointer none,.slice none 0 0]) w
def Q9y(Φ:Nat->Nat->Prop)(w:World)(e:TypeId)(sz:Nat)(xs:List PV)(fz:Bool)(g:Gh):Prop:=
 ∃cells,w.ownsRow 0 e sz g.v xs.length cells/\cells.length=(flat xs).length/\
  (∀ (k:Nat) v c,cells[k]?=some v->(flat xs)[k]?=some c->Rep Φ w v c)/\(∀x∈xs,x.cells.length=sz)/\(∀c∈flat xs,c.one=true)/\g.own=g.v.ownBlock.toList/\
  0<sz/\(∀b,g.v.ownBlock=some b->∀k,(Φ b k->fz=true/\k<xs.length * sz)/\(fz=true->k<xs.length * sz->Φ b k))
def ObjRel(E:Env)(γ:List Gh)(H:List AObj)(Φ:Nat->Nat->Prop)(w:World):AObj->Gh->Prop
 | .var cs,g=>∃b T vs,g.v=.pointer (some ⟨b,0,none⟩)/\g.own=[b]/\w.heap[b]?=some (.cells ⟨vs⟩ T (0,0))/\vs.length=cs.length/\
    (∀ (k:Nat) v c,vs[k]?=some v->cs[k]?=some c->v.oneCell'=true/\ARel γ H Φ w v c)/\(∀k,¬ Φ b k)/\∀c∈cs,c.isS=true->T=E.pT.getD 0
 | .row e sz xs fz,g=>∃cells,w.ownsRow 0 e sz g.v xs.length cells/\cells.length=(flat xs).length/\
    (∀ (k:Nat) v c,cells[k]?=some v->(flat xs)[k]?=some c->Rep Φ w v c)/\(∀x∈xs,x.cells.length=sz)/\(∀c∈flat xs,c.one=true)/\g.own=g.v.ownBlock.toList/\
    0<sz/\(∀b,g.v.ownBlock=some b->∀k,(Φ b k->fz=true/\k<xs.length * sz)/\(fz=true->k<xs.length * sz->Φ b k))
 | .map f,g=>∃b a o,g.v=.map (some b)/\g.own=[b]/\w.heap[b]?=some (.map a o)/\a.size=f.length/\
    (∀ (k:Nat) x p,a[k]?=some x->f[k]?=some p->Rep Φ w x.key p.1/\Rep Φ w x.val p.2)/\∀k,¬ Φ b k
 | .bld s,g=>∃b p v,g.v=.pointer (some ⟨b,0,none⟩)/\g.own=b::v.ownBlock.toList/\(p=.pointer none\/p=.pointer (some ⟨b,0,none⟩))/\
    w.heap[b]?=some (.cells #[p,v] (E.bT.getD 0) (0,0))/\w.ownsRow 0 E.be 1 v s.length (s.map λu=>Value.int .u8 u.toNat)/\v.ownBlock≠some b/\
    (∀k,¬ Φ b k)/\∀c,v.ownBlock=some c->∀k,¬ Φ c k
 | .brow e s,g=>w.ownsRowF 0 e 1 g.v s.length (s.map λu=>Value.int .u8 u.toNat)/\g.own=g.v.ownBlock.toList/\∀b,g.v.ownBlock=some b->∀k,¬ Φ b k
 | .prn q s d sz xs,g=>∃b v0 v1 v2,g.v=.pointer (some ⟨b,0,none⟩)/\g.own=b::(v1.ownBlock.toList++v2.ownBlock.toList)/\g.own.Nodup/\w.heap[b]?=some (.cells ⟨[v0,v1,v2]⟩ (E.pT.getD 0) (0,0))/\
    (v0=.pointer none\/v0=.pointer (some ⟨b,0,none⟩))/\(∀k,¬ Φ b k)/\w.ownsRowF 0 q 1 v1 s.length (s.map λu=>Value.int .u8 u.toNat)/\(∀c,v1.ownBlock=some c->∀k,¬ Φ c k)/\Q9y Φ w d sz xs true ⟨v2,v2.ownBlock.toList⟩
 | .iter s p,g=>∃b,g.v=.pointer (some ⟨b,0,none⟩)/\g.own=[b]/\w.heap[b]?=some (.stringIter ⟨⟨s⟩⟩ p)/\∀k,¬ Φ b k
 | .tree e sz off d r m xs,g=>∃ (cells:List Value) (gs:List Gh),w.ownsRow 0 e sz g.v xs.length cells/\cells.length=(flat xs).length/\(∀x∈xs,x.cells.length=sz)/\(∀c∈flat xs,c.one=true)/\0<sz/\off<sz/\
    (∀b,g.v.ownBlock=some b->∀k,¬ Φ b k)/\gs.length=m/\m<=xs.length/\g.own=g.v.ownBlock.toList++gs.flatMap Gh.own/\g.own.Nodup/\
    (∀ (k:Nat) v c,cells[k]?=some v->(flat xs)[k]?=some c->(k % sz≠off\/m * sz<=k)->Rep Φ w v c)/\
    (∀ (i:Nat) gi,gs[i]?=some gi->∃ys,(flat xs)[i * sz+off]?=some (.slice ys)/\cells[i * sz+off]?=some gi.v/\Q9y Φ w d r ys false gi)
 | .hrow e sz xs j off l n,g=>∃cells:List Value,w.ownsRow 0 e sz g.v xs.length cells/\cells.length=(flat xs).length/\(∀x∈xs,x.cells.length=sz)/\(∀c∈flat xs,c.one=true)/\g.own=g.v.ownBlock.toList/\0<sz/\off<sz/\j<xs.length/\
    (∀b,g.v.ownBlock=some b->∀k,¬ Φ b k)/\
    (∀ (k:Nat) v c,cells[k]?=some v->(flat xs)[k]?=some c->k≠j * sz+off->Rep Φ w v c)/\∀v,cells[j * sz+off]?=some v->ARel γ H Φ w v (.vec l n)
 | .moved _ _ _,_=>True
 | .hold _,g=>g.v=.slice none 0 0/\g.own=[]
 | .gone,_=>True
theorem J9j{E:Env}{γ:List Gh}{H:List AObj}{Φ:Nat->Nat->Prop}{w:World}{e:TypeId}{sz:Nat}{xs:List PV}{fz:Bool}{g:Gh}:ObjRel E γ H Φ w (.row e sz xs fz) g=Q9y Φ w e sz xs fz g:=rfl
structure OInv(E:Env)(γ:List Gh)(H:List AObj)(Φ:Nat->Nat->Prop)(w:World):Prop where
 len:γ.length=H.length
 obj:∀ (l:Nat) o g,H[l]?=some o->γ[l]?=some g->ObjRel E γ H Φ w o g
 disj:∀ (i j:Nat) gi gj,γ[i]?=some gi->γ[j]?=some gj->i≠j->∀b∈gi.own,b∉gj.own
 own:∀ (i:Nat) g,γ[i]?=some g->∀b∈g.own,E.gN<=b/\b<w.heap.size
 phi:∀b k,Φ b k->b<w.heap.size
 gi:E.GI w
 gn:E.gN<=w.heap.size
theorem OInv.gh{E:Env}{γ:List Gh}{H:List AObj}{Φ:Nat->Nat->Prop}{w:World}(h:OInv E γ H Φ w){l:Nat}{o:AObj}(a:H[l]?=some o):
 ∃g,γ[l]?=some g/\ObjRel E γ H Φ w o g:=by
 have b:l<γ.length:=by
  rw[h.len]
  exact(G0f.1 a).1
 exact⟨γ[l],G0c b,h.obj l o _ a (G0c b)⟩
theorem Q3y:flat []=[]:=rfl
theorem Q4e(x:PV)(xs:List PV):flat (x::xs)=x.cells++flat xs:=rfl
theorem Q7l(xs ys:List PV):flat (xs++ys)=flat xs++flat ys:=by simp[flat]
theorem Q0j{sz:Nat}:∀ {xs:List PV},(∀x∈xs,x.cells.length=sz)->(flat xs).length=xs.length * sz
 | [],_=>by simp[Q3y]
 | x::xs,h=>by
   rw[Q4e,G0i,h x (by simp),Q0j λy a=>h y (by simp[a]),G0h,G3j]
   omega
theorem Q2j{sz:Nat}:∀ {xs:List PV},(∀x∈xs,x.cells.length=sz)->∀ (i k:Nat) (x:PV),xs[i]?=some x->k<sz->(flat xs)[i * sz+k]?=x.cells[k]?
 | [],_,i,k,x,a,_=>by simp at a
 | y::xs,h,0,k,x,a,hk=>by
   simp only[G0n,G0b]at a
   subst a
   rw[Q4e,G0l (by rw[h y (by simp)];omega)]
   congr 1
   omega
 | y::xs,h,i+1,k,x,a,hk=>by
   have b:=h y (by simp)
   rw[Q4e,G0m (by rw[b,G3j];omega),b]
   rw[show(i+1) * sz+k-sz=i * sz+k from by rw[G3j];omega]
   exact Q2j (λz d=>h z (by simp[d])) i k x (by simpa using a) hk
theorem Q5x{xs:List PV}{x c:PV}(a:x∈xs)(b:c∈x.cells):c∈flat xs:=G4f.2 ⟨x,a,b⟩
theorem X3s{sz:Nat}{xs:List PV}(h:∀x∈xs,x.cells.length=sz)(n:Nat)(a:n<=xs.length):flat (xs.take n)=(flat xs).take (n * sz):=by
 have e:flat xs=flat (xs.take n)++flat (xs.drop n):=by rw[<-Q7l,G1v]
 have b:(flat (xs.take n)).length=n * sz:=by
  rw[Q0j λx d=>h x (G3p d),G1h,G5u a]
 rw[G3t (List.take (n * sz)) e,List.take_left' b]
theorem X3t{sz:Nat}{xs:List PV}(h:∀x∈xs,x.cells.length=sz)(n:Nat)(a:n<=xs.length):flat (xs.drop n)=(flat xs).drop (n * sz):=by
 have e:flat xs=flat (xs.take n)++flat (xs.drop n):=by rw[<-Q7l,G1v]
 have b:(flat (xs.take n)).length=n * sz:=by
  rw[Q0j λx d=>h x (G3p d),G1h,G5u a]
 rw[G3t (List.drop (n * sz)) e,List.drop_left' b]
def Q7o:Value->AV
 | .bool b=>.pv (.bool b)
 | .int k n=>.pv (.int k n)
 | .string s=>.pv (.str s.data.toList)
 | .slice none 0 0=>.nils
 | .nilIface=>.pv .nil
 | .pointer none=>.pv .nilp
 | _=>.any
def ev(t:Nat->AV):Operand->AV
 | .tmp i=>t i
 | .const v=>Q7o v
 | .func f=>.fn f []
 | _=>.any
def upd(t:Nat->AV)(i:Nat)(v:AV):Nat->AV:=λj=>if j=i then v else t j
theorem J5h{γ:List Gh}{H:List AObj}{Φ:Nat->Nat->Prop}{w:World}(v:Value):ARel γ H Φ w v (Q7o v):=by
 unfold Q7o
 split
 ·exact .pv (.bool _)
 ·exact .pv (.int _ _)
 ·rename_i s;exact .pv (.str s.data.toList)
 ·exact .nils
 ·exact .pv .nil
 ·exact .pv .nilp
 exact .any _
def Slots(γ:List Gh)(H:List AObj)(Φ:Nat->Nat->Prop)(w:World)(a:Act)(t:Nat->AV):Prop:=∀i,ARel γ H Φ w (a.tmps.getD i undef) (t i)
theorem Q0s{γ:List Gh}{H:List AObj}{Φ:Nat->Nat->Prop}{w:World}{a:Act}{t:Nat->AV}(hs:Slots γ H Φ w a t)(x:Operand):ARel γ H Φ w (a.eval x) (ev t x):=by
 cases x with
 | tmp i=>exact hs i
 | const v=>exact J5h v
 | func f=>exact .fn f [] [] rfl (λk v l b=>by simp at b)
 | _=>exact .any _
def nrm:AV->AV
 | .nils=>.pv (.slice [])
 | .full xs=>.pv (.slice xs)
 | a=>a
theorem X2f{γ:List Gh}{H:List AObj}{Φ:Nat->Nat->Prop}{w:World}{v:Value}{a:AV}(h:ARel γ H Φ w v a):ARel γ H Φ w v (nrm a):=by
 cases h with
 | nils=>exact .pv .sliceNil
 | ifc t u p h=>exact .ifc t u p h
 | full A n xs h=>exact .pv h
 | any v=>exact .any v
 | pv h=>exact .pv h
 | ref b l off h=>exact .ref b l off h
 | pptr b o cs vs d g j=>exact .pptr b o cs vs d g j
 | vec A l n cap e sz len d g j m=>exact .vec A l n cap e sz len d g j m
 | vptr b o l n i off e sz len d g j=>exact .vptr b o l n i off e sz len d g j
 | mref b l h=>exact .mref b l h
 | selfp A l h=>exact .selfp A l h
 | tup k vs d g=>exact .tup k vs d g
 | agg k vs d g j=>exact .agg k vs d g j
 | fn f cs q d g=>exact .fn f cs q d g
def toPV(H:List AObj):AV->Option PV
 | .pv p=>some p
 | .nils=>some (.slice [])
 | .full xs=>some (.slice xs)
 | .vec l n=>match H[l]? with
   | some (.row _ _ xs true)=>if xs.length=n then some (.slice xs)else none
   | _=>none
 | _=>none
theorem K1s{E:Env}{γ:List Gh}{H:List AObj}{Φ:Nat->Nat->Prop}{w:World}{e:TypeId}{sz:Nat}{xs:List PV}{g:Gh}(h:ObjRel E γ H Φ w (.row e sz xs true) g):Rep Φ w g.v (.slice xs):=by
 obtain⟨cells,i,s,l,j,m,_,_,n⟩:=h
 have t:=Q0j j
 rcases i.2 with⟨a,o⟩|⟨b,cap,u,a,_,hb,p,q,x,y⟩
 ·have r:xs=[]:=G1g o
  subst r
  rw[a]
  exact .sliceNil
 rw[a]
 refine .slice b 0 xs.length cap sz xs (λk=>cells.getD k undef) rfl p q j m (λk hk=>?_) (λk c d=>?_)
 ·have f:k<cells.length:=by omega
  refine⟨(n b (by rw[a];rfl) _).2 rfl (by omega),?_⟩
  have d:=i.cells (g:=b) (by rw[a];rfl) k cells[k] (G0c f)
  rw[Addr.add_lit]at d
  rw[d,G0v,G0c f]
  rfl
 have hk:k<(flat xs).length:=(G0f.1 d).1
 have f:k<cells.length:=by omega
 have:=l k cells[k] c (G0c f) d
 rwa [G0v,G0c f]
theorem Q1q{E:Env}{γ:List Gh}{H:List AObj}{Φ:Nat->Nat->Prop}{w:World}(j:OInv E γ H Φ w){v:Value}{a:AV}{p:PV}(h:ARel γ H Φ w v a)(b:toPV H a=some p):Rep Φ w v p:=by
 cases h with
 | pv h=>simp[toPV]at b;exact b▸h
 | vec A l n cap e sz len hrow q r h=>
   simp only[toPV]at b
   split at b
   ·rename_i s t xs f
    have d:=Q2h f
    rw[hrow]at d
    injection d with d
    injection d with _ d
    injection d with _ u
    split at b
    ·rename_i x
     simp only[G0b]at b
     subst b
     obtain⟨g,k,m⟩:=j.gh f
     have o:=K1s m
     have i:=h (by omega)
     simp only[gv,k,G0w,G0b]at i
     rwa [i]at o
    cases b
   cases b
 | any=>simp[toPV]at b
 | ref=>simp[toPV]at b
 | pptr=>simp[toPV]at b
 | vptr=>simp[toPV]at b
 | mref=>simp[toPV]at b
 | selfp=>simp[toPV]at b
 | ifc=>simp[toPV]at b
 | nils=>simp[toPV]at b;subst b;exact .sliceNil
 | full A n xs h=>simp[toPV]at b;subst b;exact h
 | tup=>simp[toPV]at b
 | agg=>simp[toPV]at b
 | fn=>simp[toPV]at b
end Go.Abs
namespace Go.Abs
open Go.RowKit
def qlen(T:Nat->Option TI)(H:List AObj)(a:TypeId)(x:AV):Option AV:=
 match T a with
 | some ⟨.str,_,_,_⟩=>match x with
   | .pv (.str s)=>some (.pv (.int .i64 s.length))
   | _=>none
 | some ⟨.slice _,_,_,_⟩=>match x with
   | .pv (.slice xs)=>some (.pv (.int .i64 xs.length))
   | .vec _ n=>some (.pv (.int .i64 n))
   | _=>none
 | some ⟨.map _ _,_,_,_⟩=>match x with
   | .mref l=>match H[l]? with
     | some (.map b)=>some (.pv (.int .i64 b.length))
     | _=>none
   | _=>none
 | _=>none
def pbin(op:BinOp):PV->PV->Option PV
 | .int k a,.int d b=>
   if k=d then
    match op with
    | .add=>some (.int k (k.wrap (a+b)))
    | .sub=>some (.int k (k.wrap (a-b)))
    | .mul=>some (.int k (k.wrap (a * b)))
    | .quo=>if b=0 then none else some (.int k (k.wrap (a.tdiv b)))
    | .rem=>if b=0 then none else some (.int k (a.tmod b))
    | .and=>some (.int k (bits .and k a b))
    | .or=>some (.int k (bits .or k a b))
    | .xor=>some (.int k (bits .xor k a b))
    | .andNot=>some (.int k (bits .andNot k a b))
    | .eql=>some (.bool (a==b))
    | .neq=>some (.bool (a != b))
    | .lss=>some (.bool (decide (a<b)))
    | .leq=>some (.bool (decide (a<=b)))
    | .gtr=>some (.bool (decide (a>b)))
    | .geq=>some (.bool (decide (a>=b)))
    | .shl=>if b<0 then none else some (.int k (k.wrap (a * 2 ^ (min b.toNat k.bits))))
    | .shr=>if b<0 then none else some (.int k (a.fdiv (2 ^ (min b.toNat k.bits))))
   else
    match op with
    | .shl=>if b<0 then none else some (.int k (k.wrap (a * 2 ^ (min b.toNat k.bits))))
    | .shr=>if b<0 then none else some (.int k (a.fdiv (2 ^ (min b.toNat k.bits))))
    | _=>none
 | .str a,.str b=>
   match op with
   | .add=>if a.length+b.length<=9223372036854775807 then some (.str (a++b))else none
   | .eql=>some (.bool (a==b))
   | .neq=>some (.bool !(a==b))
   | .lss=>some (.bool (Op.bytesLess a b))
   | .leq=>some (.bool (Op.bytesLess a b||a==b))
   | .gtr=>some (.bool !(Op.bytesLess a b||a==b))
   | .geq=>some (.bool !(Op.bytesLess a b))
   | _=>none
 | _,_=>none
def J4y(T:Nat->Option TI)(t:TypeId):Bool:=
 match T t with
 | some ⟨.bool,_,_,_⟩=>true
 | _=>false
def qbin(T:Nat->Option TI)(op:BinOp)(t:TypeId):AV->AV->Option AV
 | .pv (.bool a),.pv (.bool b)=>
   if J4y T t then
    match op with
    | .eql=>some (.pv (.bool (a==b)))
    | .neq=>some (.pv (.bool !(a==b)))
    | _=>none
   else none
 | .pv p,.pv q=>(pbin op p q).map .pv
 | _,_=>none
def J2d(T:Nat->Option TI)(op:BinOp)(t:TypeId):AV->Option AV
 | .pv .nil=>match T t,op with
   | some ⟨.iface,_,_,_⟩,.eql=>some (.pv (.bool true))
   | some ⟨.iface,_,_,_⟩,.neq=>some (.pv (.bool false))
   | _,_=>none
 | .pv .ifc=>match T t,op with
   | some ⟨.iface,_,_,_⟩,.eql=>some (.pv (.bool false))
   | some ⟨.iface,_,_,_⟩,.neq=>some (.pv (.bool true))
   | _,_=>none
 | _=>none
def Z5z:Operand->Bool
 | .const .nilIface=>true
 | _=>false
def pvEq:EK->PV->PV->Option Bool
 | .int,.int k a,.int d b=>if k=d then some (decide (a=b))else none
 | .str,.str a,.str b=>some (decide (a=b))
 | .bool,.bool a,.bool b=>some (a==b)
 | _,_,_=>none
def Q2b:List EK->List PV->List PV->Option Bool
 | [],[],[]=>some true
 | k::ks,p::ps,q::d=>match pvEq k p q,Q2b ks ps d with
   | some a,some b=>some (a&&b)
   | _,_=>none
 | _,_,_=>none
def qeq(ks:List EK)(op:BinOp):AV->AV->Option AV
 | .pv (.agg a),.pv (.agg b)=>match op with
   | .eql=>(Q2b ks a b).map λr=>.pv (.bool r)
   | .neq=>(Q2b ks a b).map λr=>.pv (.bool !r)
   | _=>none
 | _,_=>none
def qun(op:UnOp):AV->Option AV
 | .pv (.bool b)=>match op with
   | .not=>some (.pv (.bool !b))
   | _=>none
 | .pv (.int k n)=>match op with
   | .neg=>some (.pv (.int k (k.wrap (0-n))))
   | _=>none
 | _=>none
def Q3e(ti:TI)(cs:List PV):Option PV:=
 match ti.k with
 | .strct _=>if ti.size<=cs.length then some (.agg (cs.take ti.size))else none
 | .other=>none
 | _=>cs[0]?
def Z6p:List AV->Option (List PV)
 | []=>some []
 | .pv p::r=>(Z6p r).map (p::·)
 | _=>none
def Z5j(T:Nat->Option TI)(H:List AObj)(t:TypeId)(x:AV):Option AV:=
 match T t with
 | none=>none
 | some ti=>
   match x with
   | .pptr cs=>(Q3e ti cs).map .pv
   | .ref l o=>match H[l]? with
     | some (.var cs)=>
       match ti.k with
       | .strct _=>if o+ti.size<=cs.length then some (match Z6p ((cs.drop o).take ti.size)with
         | some ps=>.pv (.agg ps)
         | none=>.agg ((cs.drop o).take ti.size))else none
       | .other=>none
       | _=>cs[o]?
     | _=>none
   | .vptr l n i o=>match H[l]? with
     | some (.row _ _ xs _)=>if xs.length=n then match xs[i]? with
        | some x=>(Q3e ti (x.cells.drop o)).map .pv
        | none=>none
       else none
     | some (.tree _ _ _ _ _ m xs)=>if xs.length=n/\m<=i then match xs[i]? with
        | some x=>(Q3e ti (x.cells.drop o)).map .pv
        | none=>none
       else none
     | some (.hrow _ sz xs j off a b)=>if xs.length=n/\i=j then match xs[i]? with
        | some x=>match ti.k with
          | .strct _=>if o=0/\ti.size=sz then some (.agg ((x.cells.map .pv).set off (.vec a b)))else none
          | .other=>none
          | _=>if o=off then some (.vec a b)else(x.cells[o]?).map .pv
        | none=>none
       else none
     | _=>none
   | _=>none
def Q6p(T:Nat->Option TI)(t:TypeId)(f:Nat)(x:AV):Option AV:=
 match T t with
 | some ⟨.strct a,_,_,_⟩=>match a[f]? with
   | some (off,sz)=>if sz=0 then none else match x with
     | .ref l o=>some (.ref l (o+off))
     | .pptr cs=>some (.pptr (cs.drop off))
     | .vptr l n i o=>some (.vptr l n i (o+off))
     | _=>none
   | none=>none
 | _=>none
def Q3a(T:Nat->Option TI)(H:List AObj)(t:TypeId)(x i:AV):Option AV:=
 match T t with
 | some ⟨.slice e,_,_,_⟩=>match T e,i with
   | some a,.pv (.int _ i)=>
     if 0<=i then match x with
      | .pv (.slice xs)=>match xs[i.toNat]? with
        | some y=>if y.cells.length=a.size then some (.pptr y.cells)else none
        | none=>none
      | .vec l n=>match rowAt H l with
        | some (_,sz,_)=>if i.toNat<n/\sz=a.size then some (.vptr l n i.toNat 0)else none
        | _=>none
      | _=>none
     else none
   | _,_=>none
 | _=>none
def Q1d(T:Nat->Option TI)(t:TypeId)(x i:AV):Option AV:=
 match T t,x,i with
 | some ⟨.str,_,_,_⟩,.pv (.str s),.pv (.int _ i)=>
   if 0<=i then match s[i.toNat]? with
    | some c=>some (.pv (.int .u8 c.toNat))
    | none=>none
   else none
 | _,_,_=>none
def Q7p(d:Nat):Option AV->Option Nat
 | none=>some d
 | some (.pv (.int _ n))=>if 0<=n then some n.toNat else none
 | _=>none
def Z3i(T:Nat->Option TI)(H:List AObj)(t:TypeId)(x:AV)(a b:Option AV):Option AV:=
 match T t with
 | some ⟨.str,_,_,_⟩=>match x with
   | .pv (.str s)=>match Q7p 0 a,Q7p s.length b with
     | some l,some h=>if l<=h/\h<=s.length then some (.pv (.str ((s.drop l).take (h-l))))else none
     | _,_=>none
   | _=>none
 | some ⟨.slice e,_,_,_⟩=>match T e,toPV H x with
   | some d,some (.slice xs)=>match Q7p 0 a,Q7p xs.length b with
     | some l,some h=>if l<=h/\h<=xs.length/\(xs.all λy=>y.cells.length==d.size)=true then some (.pv (.slice ((xs.drop l).take (h-l))))else none
     | _,_=>none
   | _,_=>none
 | _=>none
def Z4q(x:AV)(i:Nat):Option AV:=
 match x with
 | .tup vs=>vs[i]?
 | _=>none
def Q1g(cs:List PV)(off:Nat)(ps:List PV):List PV:=cs.take off++ps++cs.drop (off+ps.length)
def Z7r(H:List AObj)(a:List (Nat×Nat)):List PV->List (Nat×AV)->Option (List PV)
 | cs,[]=>some cs
 | cs,(i,v)::r=>match a[i]?,toPV H v with
   | some (off,sz),some p=>if p.cells.length=sz/\off+sz<=cs.length then Z7r H a (Q1g cs off p.cells) r else none
   | _,_=>none
def Z5o(T:Nat->Option TI)(H:List AObj)(t:TypeId)(a:List (Nat×AV)):Option AV:=
 match T t with
 | some ⟨.strct b,_,_,some z⟩=>(Z7r H b z a).map λcs=>.pv (.agg cs)
 | _=>none
def qnil:AV->Option AV
 | .ref l o=>some (.ref l o)
 | .pptr cs=>some (.pptr cs)
 | .vptr l n i o=>some (.vptr l n i o)
 | _=>none
def J6f(ti:TI):Option PV:=
 match ti.k,ti.zero with
 | .strct _,some z=>some (.agg z)
 | .other,_=>none
 | _,some [z]=>some z
 | _,_=>none
def J9c(T:Nat->Option TI)(a dst:TypeId)(x:AV):Option AV:=
 match T a,T dst,x with
 | some ⟨.int _,_,_,_⟩,some ⟨.int k,_,_,_⟩,.pv (.int _ n)=>some (.pv (.int k (k.wrap n)))
 | some ⟨.str,_,_,_⟩,some ⟨.str,_,_,_⟩,.pv (.str s)=>some (.pv (.str s))
 | _,_,_=>none
def Q8t:List PV->Option (List UInt8)
 | []=>some []
 | .int .u8 n::r=>if 0<=n/\n<256 then(Q8t r).map (UInt8.ofNat n.toNat::·)else none
 | _=>none
def isU8(T:Nat->Option TI)(e:TypeId):Bool:=
 match T e with
 | some ⟨.int .u8,_,_,_⟩=>true
 | _=>false
def J6v(T:Nat->Option TI)(H:List AObj)(a dst:TypeId)(l n:Nat):Option AV:=
 match T a,T dst,H[l]? with
 | some ⟨.slice e,_,_,_⟩,some ⟨.str,_,_,_⟩,some (.row _ 1 xs _)=>if isU8 T e=true/\xs.length=n then(Q8t xs).map λs=>.pv (.str s)else none
 | _,_,_=>none
def J4l(T:Nat->Option TI)(a dst:TypeId)(xs:List PV):Option AV:=
 match T a,T dst with
 | some ⟨.slice e,_,_,_⟩,some ⟨.str,_,_,_⟩=>if isU8 T e=true then(Q8t xs).map λs=>.pv (.str s)else none
 | _,_=>none
def Z8f(T:Nat->Option TI)(H:List AObj)(a dst:TypeId):AV->Option AV
 | .vec l n=>J6v T H a dst l n
 | .full xs=>J4l T a dst xs
 | x=>J9c T a dst x
theorem X1x(T:Nat->Option TI)(H:List AObj)(a dst:TypeId)(p:PV):Z8f T H a dst (.pv p)=J9c T a dst (.pv p):=rfl
def Z1f:List AV->Option (List Nat)
 | []=>some []
 | .ref l 0::r=>(Z1f r).map (l::·)
 | _=>none
def qval(T:Nat->Option TI)(t:Nat->AV)(H:List AObj):Op->Option AV
 | .move x=>some (ev t x)
 | .assign x=>some (ev t x)
 | .pick c a b=>match ev t c with
   | .pv (.bool v)=>some (if v then ev t a else ev t b)
   | _=>none
 | .binOp op d x y _=>qbin T op d (ev t x) (ev t y)
 | .unOp op _ x=>qun op (ev t x)
 | .load d x=>Z5j T H d (ev t x)
 | .fieldAddr d x f=>Q6p T d f (ev t x)
 | .indexAddr d x i=>Q3a T H d (nrm (ev t x)) (ev t i)
 | .index d x i=>Q1d T d (ev t x) (ev t i)
 | .slice d x e g none=>Z3i T H d (ev t x) (e.map (ev t)) (g.map (ev t))
 | .extract x i=>Z4q (ev t x) i
 | .build d j=>Z5o T H d (j.toList.map λp=>(p.1,ev t p.2))
 | .nilCheck x=>qnil (ev t x)
 | .convert k dst x=>Z8f T H k dst (ev t x)
 | .call ⟨.builtin .len,args,l⟩=>match args.toList,l.toList with
   | [x],[d]=>qlen T H d (nrm (ev t x))
   | _,_=>none
 | .makeFunc (.func f) first m=>if first.size=0 then(Z1f (m.toList.map (ev t))).map (AV.fn f)else none
 | _=>none
end Go.Abs
