import Derived.Calls
import Derived.Orders
import Derived.Laws.AppendOwn
import Derived.Below
import Derived.Laws.Entries
import Derived.Laws.Slices
import Derived.Lib.Builder
import Derived.Lib.FrozenHead
import Derived.Laws.Strings2
import Derived.Laws.Concat
import Derived.Laws.Cells
set_option linter.unusedVariables false
set_option linter.unusedSimpArgs false
set_option linter.defProp false
namespace Go.Abs
inductive PV where
 | bool (b:Bool)
 | int (k:IntKind) (n:Int)
 | str (s:List UInt8)
 | nil
 | slice (xs:List PV)
 | agg (cs:List PV)
 | ifc
 | nilp
 | snil
 deriving Inhabited
def PV.cells:PV→List PV
 | .agg cs=>cs
 | p=>[p]
def PV.one:PV→Bool
 | .agg _=>false
 | _=>true
def flat(xs:List PV):List PV:=xs.flatMap PV.cells
inductive Rep(Φ:Nat→Nat→Prop)(w:World):Value→PV→Prop
 | bool (b:Bool):Rep Φ w (.bool b) (.bool b)
 | int (k:IntKind) (n:Int):Rep Φ w (.int k n) (.int k n)
 | str (s:List UInt8):Rep Φ w (.string ⟨⟨s⟩⟩) (.str s)
 | nil:Rep Φ w .nilIface .nil
 | ifc (t:TypeId) (v:Value):Rep Φ w (.iface t v) .ifc
 | nilp:Rep Φ w (.pointer none) .nilp
 | snil:Rep Φ w (.slice none 0 0) .snil
 | sliceNil:Rep Φ w (.slice none 0 0) (.slice [])
 | slice (b o len cap sz:Nat) (xs:List PV) (vs:Nat→Value) (hl:xs.length=len) (hc:len≤cap) (hm:cap≤maxLen)
    (hsz:∀x∈xs,x.cells.length=sz) (h1:∀c∈flat xs,c.one=true)
    (hcell:∀k,k<(flat xs).length→Φ b (o+k)∧w.cell? ⟨b,o+k,none⟩=some (vs k))
    (hrep:∀k c,(flat xs)[k]?=some c→Rep Φ w (vs k) c):Rep Φ w (.slice (some ⟨b,o,none⟩) len cap) (.slice xs)
 | sliceAny (A:Addr) (cap:Nat) (hm:cap≤maxLen):Rep Φ w (.slice (some A) 0 cap) (.slice [])
 | agg (vs:List Value) (cs:List PV) (hl:vs.length=cs.length) (h1:∀c∈cs,c.one=true)
    (hrep:∀ (k:Nat) (v:Value) (c:PV),vs[k]?=some v→cs[k]?=some c→Rep Φ w v c):Rep Φ w (.agg ⟨vs⟩) (.agg cs)
theorem Rep.mono{Φ Φ':Nat→Nat→Prop}{w w':World}(hΦ:∀b k,Φ b k→Φ' b k)(hw:∀b k,Φ b k→w'.cell? ⟨b,k,none⟩=w.cell? ⟨b,k,none⟩)
 {v:Value} {p:PV} (h:Rep Φ w v p):Rep Φ' w' v p:=by
 induction h with
 | bool b=>exact .bool b
 | int k n=>exact .int k n
 | str s=>exact .str s
 | nil=>exact .nil
 | ifc t v=>exact .ifc t v
 | nilp=>exact .nilp
 | snil=>exact .snil
 | sliceNil=>exact .sliceNil
 | slice b o len cap sz xs vs hl hc hm hsz h1 hcell hrep ih=>
   exact .slice b o len cap sz xs vs hl hc hm hsz h1 (fun k hk=>⟨hΦ _ _ (hcell k hk).1,(hw _ _ (hcell k hk).1).trans (hcell k hk).2⟩) ih
 | sliceAny A cap hm=>exact .sliceAny A cap hm
 | agg vs cs hl h1 hrep ih=>exact .agg vs cs hl h1 ih
theorem Rep.one{Φ:Nat→Nat→Prop}{w:World}{v:Value}{p:PV}(h:Rep Φ w v p)(h1:p.one=true):v.oneCell'=true:=by
 cases h<;>first|rfl|simp[PV.one]at h1
inductive AV where
 | any
 | pv (p:PV)
 | ref (l off:Nat)
 | pptr (cs:List PV)
 | vec (l n:Nat)
 | vptr (l n i off:Nat)
 | mref (l:Nat)
 | selfp (l:Nat)
 | nils
 | full (xs:List PV)
 | tup (vs:List AV)
 | agg (vs:List AV)
 | fn (f:Nat) (caps:List Nat)
 | ifc (t:TypeId) (p:PV)
 deriving Inhabited
def AV.isS:AV→Bool
 | .selfp _=>true
 | .any=>false
 | .pv _=>false
 | .ref _ _=>false
 | .pptr _=>false
 | .vec _ _=>false
 | .vptr _ _ _ _=>false
 | .mref _=>false
 | .nils=>false
 | .full _=>false
 | .tup _=>false
 | .agg _=>false
 | .fn _ _=>false
 | .ifc _ _=>false
def noS:List AV→Bool
 | []=>true
 | a::r=>!a.isS&&noS r
theorem noS_mem:∀ {us:List AV},noS us=true→∀c∈us,c.isS=false
 | a::r,h,c,hc=>by
   simp only[noS,Bool.and_eq_true,Bool.not_eq_true']at h
   rcases List.mem_cons.1 hc with rfl|hc
   ·exact h.1
   exact noS_mem h.2 c hc
inductive AObj where
 | var (cs:List AV)
 | row (e:TypeId) (sz:Nat) (xs:List PV) (fz:Bool)
 | map (es:List (PV×PV))
 | bld (s:List UInt8)
 | brow (e:TypeId) (s:List UInt8)
 | prn (e1:TypeId) (s:List UInt8) (e2:TypeId) (sz:Nat) (xs:List PV)
 | iter (s:List UInt8) (p:Nat)
 | tree (e:TypeId) (sz off:Nat) (e2:TypeId) (sz2 m:Nat) (xs:List PV)
 | hrow (e:TypeId) (sz:Nat) (xs:List PV) (j off l n:Nat)
 | moved (e:TypeId) (sz n:Nat)
 | hold (d:Nat)
 | gone
def rowLike:AObj→Option (TypeId×Nat×Nat)
 | .row e sz xs _=>some (e,sz,xs.length)
 | .tree e sz _ _ _ _ xs=>some (e,sz,xs.length)
 | .hrow e sz xs _ _ _ _=>some (e,sz,xs.length)
 | .moved e sz n=>some (e,sz,n)
 | .brow e s=>some (e,1,s.length)
 | _=>none
def rowAt(H:List AObj)(l:Nat):Option (TypeId×Nat×Nat):=(H[l]?).bind rowLike
structure Gh where
 v:Value
 own:List Nat
def gv(γ:List Gh)(l:Nat):Option Value:=γ[l]?.map Gh.v
inductive ARel(γ:List Gh)(H:List AObj)(Φ:Nat→Nat→Prop)(w:World):Value→AV→Prop
 | any (v:Value):ARel γ H Φ w v .any
 | pv {v:Value} {p:PV} (h:Rep Φ w v p):ARel γ H Φ w v (.pv p)
 | ref (b l off:Nat) (h:gv γ l=some (.pointer (some ⟨b,0,none⟩))):ARel γ H Φ w (.pointer (some ⟨b,off,none⟩)) (.ref l off)
 | pptr (b o:Nat) (cs:List PV) (vs:Nat→Value) (h1:∀c∈cs,c.one=true)
    (hcell:∀k,k<cs.length→Φ b (o+k)∧w.cell? ⟨b,o+k,none⟩=some (vs k))
    (hrep:∀ (k:Nat) c,cs[k]?=some c→Rep Φ w (vs k) c):ARel γ H Φ w (.pointer (some ⟨b,o,none⟩)) (.pptr cs)
 | vec (A:Option Addr) (l n cap:Nat) (e:TypeId) (sz len:Nat) (hrow:rowAt H l=some (e,sz,len)) (hn:n≤len) (hA:0<n→∃b,A=some ⟨b,0,none⟩)
    (h:len=n→gv γ l=some (.slice A n cap)):ARel γ H Φ w (.slice A n cap) (.vec l n)
 | vptr (b o l n i off:Nat) (e:TypeId) (sz len:Nat) (hrow:rowAt H l=some (e,sz,len)) (hn:n≤len)
    (h:len=n→∃cap,gv γ l=some (.slice (some ⟨b,0,none⟩) n cap)∧o=i * sz+off):ARel γ H Φ w (.pointer (some ⟨b,o,none⟩)) (.vptr l n i off)
 | nils:ARel γ H Φ w (.slice none 0 0) .nils
 | full (A:Option Addr) (n:Nat) (xs:List PV) (h:Rep Φ w (.slice A n n) (.slice xs)):ARel γ H Φ w (.slice A n n) (.full xs)
 | mref (b l:Nat) (h:gv γ l=some (.map (some b))):ARel γ H Φ w (.map (some b)) (.mref l)
 | selfp (A:Option Addr) (l:Nat) (h:∀a,A=some a→gv γ l=some (.pointer (some a))):ARel γ H Φ w (.pointer A) (.selfp l)
 | fn (f:Nat) (cs:List Value) (caps:List Nat) (hl:cs.length=caps.length) (h:∀ (k:Nat) v l,cs[k]?=some v→caps[k]?=some l→∃b,v=.pointer (some ⟨b,0,none⟩)∧gv γ l=some v):ARel γ H Φ w (.func (.func f) #[] ⟨cs⟩) (.fn f caps)
 | ifc (t:TypeId) (u:Value) (p:PV) (h:Rep Φ w u p):ARel γ H Φ w (.iface t u) (.ifc t p)
 | tup (ws:List Value) (vs:List AV) (hl:ws.length=vs.length) (h:∀ (k:Nat) v c,ws[k]?=some v→vs[k]?=some c→ARel γ H Φ w v c):ARel γ H Φ w (.tuple ⟨ws⟩) (.tup vs)
 | agg (ws:List Value) (vs:List AV) (hl:ws.length=vs.length) (h1:∀v∈ws,v.oneCell'=true) (h:∀ (k:Nat) v c,ws[k]?=some v→vs[k]?=some c→ARel γ H Φ w v c):ARel γ H Φ w (.agg ⟨ws⟩) (.agg vs)
structure Evo(γ:List Gh)(H:List AObj)(Φ:Nat→Nat→Prop)(w:World)(γ':List Gh)(H':List AObj)(Φ':Nat→Nat→Prop)(w':World):Prop where
 phi:∀b k,Φ b k→Φ' b k
 cell:∀b k,Φ b k→w'.cell? ⟨b,k,none⟩=w.cell? ⟨b,k,none⟩
 gh:∀ (l:Nat) (v:Value),gv γ l=some v→gv γ' l=some v∨∃A n c,v=.slice A n c
 row:∀ (l:Nat) (e:TypeId) (sz n:Nat),rowAt H l=some (e,sz,n)→∃n',rowAt H' l=some (e,sz,n')∧n≤n'∧(n=n'→gv γ' l=gv γ l)
theorem rowAt_row{H:List AObj}{l:Nat}{e:TypeId}{sz:Nat}{xs:List PV}{fz:Bool}(h:H[l]?=some (.row e sz xs fz)):rowAt H l=some (e,sz,xs.length):=by
 unfold rowAt
 rw[h]
 rfl
theorem rowAt_tree{H:List AObj}{l:Nat}{e:TypeId}{sz off e2 sz2 m:Nat}{xs:List PV}(h:H[l]?=some (.tree e sz off e2 sz2 m xs)):rowAt H l=some (e,sz,xs.length):=by
 unfold rowAt
 rw[h]
 rfl
theorem rowAt_hrow{H:List AObj}{l:Nat}{e:TypeId}{sz:Nat}{xs:List PV}{j off l' n:Nat}(h:H[l]?=some (.hrow e sz xs j off l' n)):rowAt H l=some (e,sz,xs.length):=by
 unfold rowAt
 rw[h]
 rfl
theorem rowAt_some{H:List AObj}{l:Nat}{p:TypeId×Nat×Nat}(h:rowAt H l=some p):∃o,H[l]?=some o∧rowLike o=some p:=Option.bind_eq_some_iff.1 h
theorem rowAt_lt{H:List AObj}{l:Nat}{p:TypeId×Nat×Nat}(h:rowAt H l=some p):l<H.length:=by
 obtain⟨o,ho,_⟩:=rowAt_some h
 exact(List.getElem?_eq_some_iff.1 ho).1
theorem Evo.refl(γ:List Gh)(H:List AObj)(Φ:Nat→Nat→Prop)(w:World):Evo γ H Φ w γ H Φ w:=
 ⟨fun _ _ h=>h,fun _ _ _=>rfl,fun _ _ h=>.inl h,fun _ _ _ n h=>⟨n,h,Nat.le_refl _,fun _=>rfl⟩⟩
theorem Evo.trans{γ₁ γ₂ γ₃:List Gh}{H₁ H₂ H₃:List AObj}{Φ₁ Φ₂ Φ₃:Nat→Nat→Prop}{w₁ w₂ w₃:World}
 (h:Evo γ₁ H₁ Φ₁ w₁ γ₂ H₂ Φ₂ w₂) (k:Evo γ₂ H₂ Φ₂ w₂ γ₃ H₃ Φ₃ w₃):Evo γ₁ H₁ Φ₁ w₁ γ₃ H₃ Φ₃ w₃:=by
 refine⟨fun b i x=>k.phi _ _ (h.phi _ _ x),fun b i x=>(k.cell _ _ (h.phi _ _ x)).trans (h.cell _ _ x),fun l v x=>?_,fun l e sz n x=>?_⟩
 ·rcases h.gh l v x with y|y
  ·exact k.gh l v y
  exact .inr y
 obtain⟨n₂,h2,hl2,he2⟩:=h.row l e sz n x
 obtain⟨n₃,h3,hl3,he3⟩:=k.row l e sz n₂ h2
 exact⟨n₃,h3,Nat.le_trans hl2 hl3,fun hx=>(he3 (by omega)).trans (he2 (by omega))⟩
theorem ARel.mono{γ γ':List Gh}{H H':List AObj}{Φ Φ':Nat→Nat→Prop}{w w':World}(hE:Evo γ H Φ w γ' H' Φ' w')
 {v:Value} {a:AV} (h:ARel γ H Φ w v a):ARel γ' H' Φ' w' v a:=by
 induction h with
 | any v=>exact .any v
 | pv h=>exact .pv (h.mono hE.phi hE.cell)
 | ref b l off h=>
   refine .ref b l off ?_
   rcases hE.gh l _ h with x|⟨A,n,c,x⟩
   ·exact x
   cases x
 | pptr b o cs vs h1 hcell hrep=>
   exact .pptr b o cs vs h1 (fun k hk=>⟨hE.phi _ _ (hcell k hk).1,(hE.cell _ _ (hcell k hk).1).trans (hcell k hk).2⟩) (fun k c hc=>(hrep k c hc).mono hE.phi hE.cell)
 | vec A l n cap e sz len hrow hn hA h=>
   obtain⟨len',h',hl,he⟩:=hE.row l e sz len hrow
   exact .vec A l n cap e sz len' h' (by omega) hA (fun hx=>(he (by omega)).trans (h (by omega)))
 | vptr b o l n i off e sz len hrow hn h=>
   obtain⟨len',h',hl,he⟩:=hE.row l e sz len hrow
   refine .vptr b o l n i off e sz len' h' (by omega) (fun hx=>?_)
   obtain⟨cap,h1,h2⟩:=h (by omega)
   exact⟨cap,(he (by omega)).trans h1,h2⟩
 | selfp A l h=>
   refine .selfp A l (fun a e=>?_)
   rcases hE.gh l _ (h a e)with x|⟨A,n,c,x⟩
   ·exact x
   cases x
 | mref b l h=>
   refine .mref b l ?_
   rcases hE.gh l _ h with x|⟨A,n,c,x⟩
   ·exact x
   cases x
 | nils=>exact .nils
 | ifc t u p h=>exact .ifc t u p (h.mono hE.phi hE.cell)
 | full A n xs h=>exact .full A n xs (h.mono hE.phi hE.cell)
 | tup ws vs hl h ih=>exact .tup ws vs hl ih
 | agg ws vs hl h1 h ih=>exact .agg ws vs hl h1 ih
 | fn f cs caps hl h=>
   refine .fn f cs caps hl (fun k v l hv hc=>?_)
   obtain⟨b,rfl,hg⟩:=h k v l hv hc
   rcases hE.gh l _ hg with x|⟨A,n,c,x⟩
   ·exact⟨b,rfl,x⟩
   cases x
end Go.Abs
namespace Go.Abs
open Go.RowKit
inductive TK where
 | int (k:IntKind)
 | bool
 | str
 | slice (e:TypeId)
 | strct (fs:List (Nat×Nat))
 | map (k e:TypeId)
 | ptr (e:TypeId)
 | iface
 | other
 deriving Inhabited
structure TI where
 k:TK
 size:Nat
 bytes:Nat
 zero:Option (List PV)
 deriving Inhabited
def TKok(P:Program):TypeDesc→TK→Prop
 | .int k,.int k'=>k=k'
 | .bool,.bool=>True
 | .string,.str=>True
 | .slice e,.slice e'=>e=e'
 | .struct fields,.strct fs=>fields.size=fs.length∧∀ (j:Nat) (f:Field) (p:Nat×Nat),fields[j]?=some f→fs[j]?=some p→f.offset=p.1∧∃fi,P.info? f.type=some fi∧fi.size=p.2
 | .array _ _,.strct fs=>fs=[]
 | .map k e,.map k' e'=>k=k'∧e=e'
 | .pointer e,.ptr e'=>e=e'
 | .interface _,.iface=>True
 | _,.other=>True
 | _,_=>False
def Zero1(v:Value)(p:PV):Prop:=p.one=true∧(∀ (Φ:Nat→Nat→Prop) (w:World),Rep Φ w v p)∧(p=.slice []→v=.slice none 0 0)
structure TOne(P:Program)(t:TypeId)(ti:TI):Prop where
 info:∃i d,P.info? t=some i∧i.size=ti.size∧i.bytes=ti.bytes∧P.underlying t=some d∧TKok P d ti.k∧
  (∀zs,ti.zero=some zs→∃z,i.zero=some z∧z.cells.toList.length=zs.length∧zs.length=ti.size∧(∀ (k:Nat) v c,z.cells.toList[k]?=some v→zs[k]?=some c→Zero1 v c)∧
    (∀fs,ti.k=.strct fs→∃cs,z=.agg cs)∧((∀fs,ti.k≠.strct fs)→z.cells=#[z]))
inductive EK where
 | bool
 | str
 | int
 deriving DecidableEq,Inhabited
def EK.fits:EK→TypeDesc→Prop
 | .bool,d=>d=.bool
 | .str,d=>d=.string
 | .int,d=>∃k,d=.int k
inductive FitsF(P:Program):Nat→List Field→Nat→List EK→Prop
 | nil (n j:Nat):FitsF P n [] j []
 | one {n:Nat} {f:Field} {fs:List Field} {j:Nat} {k:EK} {ks:List EK} {d:TypeDesc} (hn:f.name≠"_") (ho:f.offset=j) (hd:P.underlying f.type=some d) (hk:k.fits d) (hr:FitsF P n fs (j+1) ks):FitsF P (n+1) (f::fs) j (k::ks)
 | sub {n:Nat} {f:Field} {fs:List Field} {j:Nat} {ks1 ks2:List EK} {sub:Array Field} {i:TypeInfo} (hn:f.name≠"_") (ho:f.offset=j) (hd:P.underlying f.type=some (.struct sub)) (hh:P.stoodInHeld f.type=false)
    (hi:P.info? f.type=some i) (hs:i.size=ks1.length) (h1:FitsF P n sub.toList 0 ks1) (hr:FitsF P n fs (j+ks1.length) ks2):FitsF P (n+1) (f::fs) j (ks1++ks2)
structure EqOne(P:Program)(t:TypeId)(ks:List EK):Prop where
 ex:(∃n e k d,P.underlying t=some (.array n e)∧P.underlying e=some d∧k.fits d∧ks=List.replicate n k∧P.eqGuardType P.depth t=false∧∃ei,P.info? e=some ei∧ei.size=1)∨∃fields:Array Field,P.underlying t=some (.struct fields)∧P.stoodInHeld t=false∧P.eqGuardType P.depth t=false∧∃n,n≤9000∧FitsF P n fields.toList 0 ks
structure ArOne(P:Program)(t:TypeId)(ls:List (Nat×Nat))(zs:List PV):Prop where
 ex:∃i n e ei z,ls=((List.range n).map fun i=>(i * ei.size,ei.size))∧P.info? t=some i∧P.underlying t=some (.array n e)∧P.info? e=some ei∧i.zero=some z∧z.cells.toList.length=zs.length∧∀ (k:Nat) v c,z.cells.toList[k]?=some v→zs[k]?=some c→Zero1 v c
structure Env where
 P:Program
 T:Nat→Option TI
 hT:∀t ti,T t=some ti→TOne P t ti
 gN:Nat
 GI:World→Prop
 hG:∀w w':World,GI w→(∀b,b<gN→w'.heap[b]?=w.heap[b]?)→GI w'
 bT:Option TypeId
 be:TypeId
 eqT:TypeId→Option (List EK)
 ownT:TypeId→Bool
 nfz:TypeId→Bool:=fun _=>false
 dfs:List Deferred:=[]
 arT:TypeId→Option (List (Nat×Nat)×List PV):=fun _=>none
 hAr:∀t ls zs,arT t=some (ls,zs)→ArOne P t ls zs:=by nofun
 pT:Option TypeId:=none
 pe1:TypeId:=0
 pe2:TypeId:=0
 psz:Nat:=1
 hpz:0<psz:=by decide
 hpT:∀t,pT=some t→∀w:World,(zeroValue t).run P w=.ok (.agg #[.pointer none,.slice none 0 0,.slice none 0 0]) w:=by nofun
 hEq:∀t ks,eqT t=some ks→EqOne P t ks
 hbT:∀t,bT=some t→∀w:World,(zeroValue t).run P w=.ok (.agg #[.pointer none,.slice none 0 0]) w
def RowRel(Φ:Nat→Nat→Prop)(w:World)(e:TypeId)(sz:Nat)(xs:List PV)(fz:Bool)(g:Gh):Prop:=
 ∃cells,w.ownsRow 0 e sz g.v xs.length cells∧cells.length=(flat xs).length∧
  (∀ (k:Nat) v c,cells[k]?=some v→(flat xs)[k]?=some c→Rep Φ w v c)∧(∀x∈xs,x.cells.length=sz)∧(∀c∈flat xs,c.one=true)∧g.own=g.v.ownBlock.toList∧
  0<sz∧(∀b,g.v.ownBlock=some b→∀k,(Φ b k→fz=true∧k<xs.length * sz)∧(fz=true→k<xs.length * sz→Φ b k))
def ObjRel(E:Env)(γ:List Gh)(H:List AObj)(Φ:Nat→Nat→Prop)(w:World):AObj→Gh→Prop
 | .var cs,g=>∃b T vs,g.v=.pointer (some ⟨b,0,none⟩)∧g.own=[b]∧w.heap[b]?=some (.cells ⟨vs⟩ T (0,0))∧vs.length=cs.length∧
    (∀ (k:Nat) v c,vs[k]?=some v→cs[k]?=some c→v.oneCell'=true∧ARel γ H Φ w v c)∧(∀k,¬ Φ b k)∧∀c∈cs,c.isS=true→T=E.pT.getD 0
 | .row e sz xs fz,g=>∃cells,w.ownsRow 0 e sz g.v xs.length cells∧cells.length=(flat xs).length∧
    (∀ (k:Nat) v c,cells[k]?=some v→(flat xs)[k]?=some c→Rep Φ w v c)∧(∀x∈xs,x.cells.length=sz)∧(∀c∈flat xs,c.one=true)∧g.own=g.v.ownBlock.toList∧
    0<sz∧(∀b,g.v.ownBlock=some b→∀k,(Φ b k→fz=true∧k<xs.length * sz)∧(fz=true→k<xs.length * sz→Φ b k))
 | .map es,g=>∃b ents clock,g.v=.map (some b)∧g.own=[b]∧w.heap[b]?=some (.map ents clock)∧ents.size=es.length∧
    (∀ (k:Nat) x p,ents[k]?=some x→es[k]?=some p→Rep Φ w x.key p.1∧Rep Φ w x.val p.2)∧∀k,¬ Φ b k
 | .bld s,g=>∃b p v,g.v=.pointer (some ⟨b,0,none⟩)∧g.own=b::v.ownBlock.toList∧(p=.pointer none∨p=.pointer (some ⟨b,0,none⟩))∧
    w.heap[b]?=some (.cells #[p,v] (E.bT.getD 0) (0,0))∧w.ownsRow 0 E.be 1 v s.length (s.map fun u=>Value.int .u8 u.toNat)∧v.ownBlock≠some b∧
    (∀k,¬ Φ b k)∧∀c,v.ownBlock=some c→∀k,¬ Φ c k
 | .brow e s,g=>w.ownsRowF 0 e 1 g.v s.length (s.map fun u=>Value.int .u8 u.toNat)∧g.own=g.v.ownBlock.toList∧∀b,g.v.ownBlock=some b→∀k,¬ Φ b k
 | .prn e1 s e2 sz xs,g=>∃b v0 v1 v2,g.v=.pointer (some ⟨b,0,none⟩)∧g.own=b::(v1.ownBlock.toList++v2.ownBlock.toList)∧g.own.Nodup∧w.heap[b]?=some (.cells ⟨[v0,v1,v2]⟩ (E.pT.getD 0) (0,0))∧
    (v0=.pointer none∨v0=.pointer (some ⟨b,0,none⟩))∧(∀k,¬ Φ b k)∧w.ownsRowF 0 e1 1 v1 s.length (s.map fun u=>Value.int .u8 u.toNat)∧(∀c,v1.ownBlock=some c→∀k,¬ Φ c k)∧RowRel Φ w e2 sz xs true ⟨v2,v2.ownBlock.toList⟩
 | .iter s p,g=>∃b,g.v=.pointer (some ⟨b,0,none⟩)∧g.own=[b]∧w.heap[b]?=some (.stringIter ⟨⟨s⟩⟩ p)∧∀k,¬ Φ b k
 | .tree e sz off e2 sz2 m xs,g=>∃ (cells:List Value) (gs:List Gh),w.ownsRow 0 e sz g.v xs.length cells∧cells.length=(flat xs).length∧(∀x∈xs,x.cells.length=sz)∧(∀c∈flat xs,c.one=true)∧0<sz∧off<sz∧
    (∀b,g.v.ownBlock=some b→∀k,¬ Φ b k)∧gs.length=m∧m≤xs.length∧g.own=g.v.ownBlock.toList++gs.flatMap Gh.own∧g.own.Nodup∧
    (∀ (k:Nat) v c,cells[k]?=some v→(flat xs)[k]?=some c→(k % sz≠off∨m * sz≤k)→Rep Φ w v c)∧
    (∀ (i:Nat) gi,gs[i]?=some gi→∃ys,(flat xs)[i * sz+off]?=some (.slice ys)∧cells[i * sz+off]?=some gi.v∧RowRel Φ w e2 sz2 ys false gi)
 | .hrow e sz xs j off l n,g=>∃cells:List Value,w.ownsRow 0 e sz g.v xs.length cells∧cells.length=(flat xs).length∧(∀x∈xs,x.cells.length=sz)∧(∀c∈flat xs,c.one=true)∧g.own=g.v.ownBlock.toList∧0<sz∧off<sz∧j<xs.length∧
    (∀b,g.v.ownBlock=some b→∀k,¬ Φ b k)∧
    (∀ (k:Nat) v c,cells[k]?=some v→(flat xs)[k]?=some c→k≠j * sz+off→Rep Φ w v c)∧∀v,cells[j * sz+off]?=some v→ARel γ H Φ w v (.vec l n)
 | .moved _ _ _,_=>True
 | .hold _,g=>g.v=.slice none 0 0∧g.own=[]
 | .gone,_=>True
theorem objRel_row{E:Env}{γ:List Gh}{H:List AObj}{Φ:Nat→Nat→Prop}{w:World}{e:TypeId}{sz:Nat}{xs:List PV}{fz:Bool}{g:Gh}:ObjRel E γ H Φ w (.row e sz xs fz) g=RowRel Φ w e sz xs fz g:=rfl
structure OInv(E:Env)(γ:List Gh)(H:List AObj)(Φ:Nat→Nat→Prop)(w:World):Prop where
 len:γ.length=H.length
 obj:∀ (l:Nat) o g,H[l]?=some o→γ[l]?=some g→ObjRel E γ H Φ w o g
 disj:∀ (i j:Nat) gi gj,γ[i]?=some gi→γ[j]?=some gj→i≠j→∀b∈gi.own,b∉gj.own
 own:∀ (i:Nat) g,γ[i]?=some g→∀b∈g.own,E.gN≤b∧b<w.heap.size
 phi:∀b k,Φ b k→b<w.heap.size
 gi:E.GI w
 gn:E.gN≤w.heap.size
theorem OInv.gh{E:Env}{γ:List Gh}{H:List AObj}{Φ:Nat→Nat→Prop}{w:World}(h:OInv E γ H Φ w){l:Nat}{o:AObj}(ho:H[l]?=some o):
 ∃g,γ[l]?=some g∧ObjRel E γ H Φ w o g:=by
 have hl:l<γ.length:=by
  rw[h.len]
  exact(List.getElem?_eq_some_iff.1 ho).1
 exact⟨γ[l],List.getElem?_eq_getElem hl,h.obj l o _ ho (List.getElem?_eq_getElem hl)⟩
theorem flat_nil:flat []=[]:=rfl
theorem flat_cons(x:PV)(xs:List PV):flat (x::xs)=x.cells++flat xs:=rfl
theorem flat_append(xs ys:List PV):flat (xs++ys)=flat xs++flat ys:=by simp[flat]
theorem flat_length{sz:Nat}:∀ {xs:List PV},(∀x∈xs,x.cells.length=sz)→(flat xs).length=xs.length * sz
 | [],_=>by simp[flat_nil]
 | x::xs,h=>by
   rw[flat_cons,List.length_append,h x (by simp),flat_length fun y hy=>h y (by simp[hy]),List.length_cons,Nat.succ_mul]
   omega
theorem flat_at{sz:Nat}:∀ {xs:List PV},(∀x∈xs,x.cells.length=sz)→∀ (i k:Nat) (x:PV),xs[i]?=some x→k<sz→(flat xs)[i * sz+k]?=x.cells[k]?
 | [],_,i,k,x,hx,_=>by simp at hx
 | y::xs,h,0,k,x,hx,hk=>by
   simp only[List.getElem?_cons_zero,Option.some.injEq]at hx
   subst hx
   rw[flat_cons,List.getElem?_append_left (by rw[h y (by simp)];omega)]
   congr 1
   omega
 | y::xs,h,i+1,k,x,hx,hk=>by
   have hy:=h y (by simp)
   rw[flat_cons,List.getElem?_append_right (by rw[hy,Nat.succ_mul];omega),hy]
   rw[show(i+1) * sz+k-sz=i * sz+k from by rw[Nat.succ_mul];omega]
   exact flat_at (fun z hz=>h z (by simp[hz])) i k x (by simpa using hx) hk
theorem flat_mem{xs:List PV}{x c:PV}(hx:x∈xs)(hc:c∈x.cells):c∈flat xs:=List.mem_flatMap.2 ⟨x,hx,hc⟩
theorem flat_take{sz:Nat}{xs:List PV}(h:∀x∈xs,x.cells.length=sz)(n:Nat)(hn:n≤xs.length):flat (xs.take n)=(flat xs).take (n * sz):=by
 have e:flat xs=flat (xs.take n)++flat (xs.drop n):=by rw[←flat_append,List.take_append_drop]
 have hl:(flat (xs.take n)).length=n * sz:=by
  rw[flat_length fun x hx=>h x (List.mem_of_mem_take hx),List.length_take,Nat.min_eq_left hn]
 rw[congrArg (List.take (n * sz)) e,List.take_left' hl]
theorem flat_drop{sz:Nat}{xs:List PV}(h:∀x∈xs,x.cells.length=sz)(n:Nat)(hn:n≤xs.length):flat (xs.drop n)=(flat xs).drop (n * sz):=by
 have e:flat xs=flat (xs.take n)++flat (xs.drop n):=by rw[←flat_append,List.take_append_drop]
 have hl:(flat (xs.take n)).length=n * sz:=by
  rw[flat_length fun x hx=>h x (List.mem_of_mem_take hx),List.length_take,Nat.min_eq_left hn]
 rw[congrArg (List.drop (n * sz)) e,List.drop_left' hl]
def constAV:Value→AV
 | .bool b=>.pv (.bool b)
 | .int k n=>.pv (.int k n)
 | .string s=>.pv (.str s.data.toList)
 | .slice none 0 0=>.nils
 | .nilIface=>.pv .nil
 | .pointer none=>.pv .nilp
 | _=>.any
def ev(t:Nat→AV):Operand→AV
 | .tmp i=>t i
 | .const v=>constAV v
 | .func f=>.fn f []
 | _=>.any
def upd(t:Nat→AV)(i:Nat)(v:AV):Nat→AV:=fun j=>if j=i then v else t j
theorem constAV_rel{γ:List Gh}{H:List AObj}{Φ:Nat→Nat→Prop}{w:World}(v:Value):ARel γ H Φ w v (constAV v):=by
 unfold constAV
 split
 ·exact .pv (.bool _)
 ·exact .pv (.int _ _)
 ·rename_i s;exact .pv (.str s.data.toList)
 ·exact .nils
 ·exact .pv .nil
 ·exact .pv .nilp
 exact .any _
def Slots(γ:List Gh)(H:List AObj)(Φ:Nat→Nat→Prop)(w:World)(a:Act)(t:Nat→AV):Prop:=∀i,ARel γ H Φ w (a.tmps.getD i undef) (t i)
theorem ev_rel{γ:List Gh}{H:List AObj}{Φ:Nat→Nat→Prop}{w:World}{a:Act}{t:Nat→AV}(hs:Slots γ H Φ w a t)(x:Operand):ARel γ H Φ w (a.eval x) (ev t x):=by
 cases x with
 | tmp i=>exact hs i
 | const v=>exact constAV_rel v
 | func f=>exact .fn f [] [] rfl (fun k v l hv=>by simp at hv)
 | _=>exact .any _
def nrm:AV→AV
 | .nils=>.pv (.slice [])
 | .full xs=>.pv (.slice xs)
 | a=>a
theorem nrm_rel{γ:List Gh}{H:List AObj}{Φ:Nat→Nat→Prop}{w:World}{v:Value}{a:AV}(h:ARel γ H Φ w v a):ARel γ H Φ w v (nrm a):=by
 cases h with
 | nils=>exact .pv .sliceNil
 | ifc t u p h=>exact .ifc t u p h
 | full A n xs h=>exact .pv h
 | any v=>exact .any v
 | pv h=>exact .pv h
 | ref b l off h=>exact .ref b l off h
 | pptr b o cs vs h1 h2 h3=>exact .pptr b o cs vs h1 h2 h3
 | vec A l n cap e sz len h1 h2 h3 h4=>exact .vec A l n cap e sz len h1 h2 h3 h4
 | vptr b o l n i off e sz len h1 h2 h3=>exact .vptr b o l n i off e sz len h1 h2 h3
 | mref b l h=>exact .mref b l h
 | selfp A l h=>exact .selfp A l h
 | tup ws vs h1 h2=>exact .tup ws vs h1 h2
 | agg ws vs h1 h2 h3=>exact .agg ws vs h1 h2 h3
 | fn f cs caps h1 h2=>exact .fn f cs caps h1 h2
def toPV(H:List AObj):AV→Option PV
 | .pv p=>some p
 | .nils=>some (.slice [])
 | .full xs=>some (.slice xs)
 | .vec l n=>match H[l]? with
   | some (.row _ _ xs true)=>if xs.length=n then some (.slice xs)else none
   | _=>none
 | _=>none
theorem row_rep{E:Env}{γ:List Gh}{H:List AObj}{Φ:Nat→Nat→Prop}{w:World}{e:TypeId}{sz:Nat}{xs:List PV}{g:Gh}(h:ObjRel E γ H Φ w (.row e sz xs true) g):Rep Φ w g.v (.slice xs):=by
 obtain⟨cells,hown,hcl,hrep,hsz,h1,_,_,hphi⟩:=h
 have hfl:=flat_length hsz
 rcases hown.2 with⟨hv,hn⟩|⟨b,cap,cur,hv,_,hb,hnc,hcm,hcs,htake⟩
 ·have hx:xs=[]:=List.eq_nil_of_length_eq_zero hn
  subst hx
  rw[hv]
  exact .sliceNil
 rw[hv]
 refine .slice b 0 xs.length cap sz xs (fun k=>cells.getD k undef) rfl hnc hcm hsz h1 (fun k hk=>?_) (fun k c hc=>?_)
 ·have hk':k<cells.length:=by omega
  refine⟨(hphi b (by rw[hv];rfl) _).2 rfl (by omega),?_⟩
  have hc:=hown.cells (g:=b) (by rw[hv];rfl) k cells[k] (List.getElem?_eq_getElem hk')
  rw[Addr.add_lit]at hc
  rw[hc,List.getD_eq_getElem?_getD,List.getElem?_eq_getElem hk']
  rfl
 have hk:k<(flat xs).length:=(List.getElem?_eq_some_iff.1 hc).1
 have hk':k<cells.length:=by omega
 have:=hrep k cells[k] c (List.getElem?_eq_getElem hk') hc
 rwa [List.getD_eq_getElem?_getD,List.getElem?_eq_getElem hk']
theorem toPV_rep{E:Env}{γ:List Gh}{H:List AObj}{Φ:Nat→Nat→Prop}{w:World}(hI:OInv E γ H Φ w){v:Value}{a:AV}{p:PV}(h:ARel γ H Φ w v a)(hp:toPV H a=some p):Rep Φ w v p:=by
 cases h with
 | pv h=>simp[toPV]at hp;exact hp▸h
 | vec A l n cap e sz len hrow hn hA h=>
   simp only[toPV]at hp
   split at hp
   ·rename_i e' sz' xs hl
    have hrow':=rowAt_row hl
    rw[hrow]at hrow'
    injection hrow' with hrow'
    injection hrow' with _ hrow'
    injection hrow' with _ hlen
    split at hp
    ·rename_i hx
     simp only[Option.some.injEq]at hp
     subst hp
     obtain⟨g,hg,ho⟩:=hI.gh hl
     have hr:=row_rep ho
     have hv:=h (by omega)
     simp only[gv,hg,Option.map_some,Option.some.injEq]at hv
     rwa [hv]at hr
    cases hp
   cases hp
 | any=>simp[toPV]at hp
 | ref=>simp[toPV]at hp
 | pptr=>simp[toPV]at hp
 | vptr=>simp[toPV]at hp
 | mref=>simp[toPV]at hp
 | selfp=>simp[toPV]at hp
 | ifc=>simp[toPV]at hp
 | nils=>simp[toPV]at hp;subst hp;exact .sliceNil
 | full A n xs h=>simp[toPV]at hp;subst hp;exact h
 | tup=>simp[toPV]at hp
 | agg=>simp[toPV]at hp
 | fn=>simp[toPV]at hp
end Go.Abs
namespace Go.Abs
open Go.RowKit
def qlen(T:Nat→Option TI)(H:List AObj)(ty:TypeId)(x:AV):Option AV:=
 match T ty with
 | some ⟨.str,_,_,_⟩=>match x with
   | .pv (.str s)=>some (.pv (.int .i64 s.length))
   | _=>none
 | some ⟨.slice _,_,_,_⟩=>match x with
   | .pv (.slice xs)=>some (.pv (.int .i64 xs.length))
   | .vec _ n=>some (.pv (.int .i64 n))
   | .pv .snil=>some (.pv (.int .i64 0))
   | _=>none
 | some ⟨.map _ _,_,_,_⟩=>match x with
   | .mref l=>match H[l]? with
     | some (.map es)=>some (.pv (.int .i64 es.length))
     | _=>none
   | _=>none
 | _=>none
def pbin(op:BinOp):PV→PV→Option PV
 | .int k a,.int k' b=>
   if k=k' then
    match op with
    | .add=>some (.int k (k.wrap (a+b)))
    | .sub=>some (.int k (k.wrap (a-b)))
    | .mul=>some (.int k (k.wrap (a * b)))
    | .quo=>if b=0 then none else some (.int k (k.wrap (a.tdiv b)))
    | .rem=>if b=0 then none else some (.int k (a.tmod b))
    | .and=>some (.int k (bits .and k a b))
    | .or=>some (.int k (bits .or k a b))
    | .xor=>some (.int k (bits .xor k a b))
    | .andNot=>some (.int k (bits .andNot k a b))
    | .eql=>some (.bool (a==b))
    | .neq=>some (.bool (a != b))
    | .lss=>some (.bool (decide (a<b)))
    | .leq=>some (.bool (decide (a≤b)))
    | .gtr=>some (.bool (decide (a>b)))
    | .geq=>some (.bool (decide (a≥b)))
    | .shl=>if b<0 then none else some (.int k (k.wrap (a * 2 ^ (min b.toNat k.bits))))
    | .shr=>if b<0 then none else some (.int k (a.fdiv (2 ^ (min b.toNat k.bits))))
   else
    match op with
    | .shl=>if b<0 then none else some (.int k (k.wrap (a * 2 ^ (min b.toNat k.bits))))
    | .shr=>if b<0 then none else some (.int k (a.fdiv (2 ^ (min b.toNat k.bits))))
    | _=>none
 | .str a,.str b=>
   match op with
   | .add=>if a.length+b.length≤9223372036854775807 then some (.str (a++b))else none
   | .eql=>some (.bool (a==b))
   | .neq=>some (.bool !(a==b))
   | .lss=>some (.bool (Op.bytesLess a b))
   | .leq=>some (.bool (Op.bytesLess a b||a==b))
   | .gtr=>some (.bool !(Op.bytesLess a b||a==b))
   | .geq=>some (.bool !(Op.bytesLess a b))
   | _=>none
 | _,_=>none
def isBoolT(T:Nat→Option TI)(t:TypeId):Bool:=
 match T t with
 | some ⟨.bool,_,_,_⟩=>true
 | _=>false
def qbin(T:Nat→Option TI)(op:BinOp)(t:TypeId):AV→AV→Option AV
 | .pv (.bool a),.pv (.bool b)=>
   if isBoolT T t then
    match op with
    | .eql=>some (.pv (.bool (a==b)))
    | .neq=>some (.pv (.bool !(a==b)))
    | _=>none
   else none
 | .pv p,.pv q=>(pbin op p q).map .pv
 | _,_=>none
def qnil2(T:Nat→Option TI)(op:BinOp)(t:TypeId):AV→Option AV
 | .pv .nil=>match T t,op with
   | some ⟨.iface,_,_,_⟩,.eql=>some (.pv (.bool true))
   | some ⟨.iface,_,_,_⟩,.neq=>some (.pv (.bool false))
   | _,_=>none
 | .pv .ifc=>match T t,op with
   | some ⟨.iface,_,_,_⟩,.eql=>some (.pv (.bool false))
   | some ⟨.iface,_,_,_⟩,.neq=>some (.pv (.bool true))
   | _,_=>none
 | _=>none
def isNil:Operand→Bool
 | .const .nilIface=>true
 | _=>false
def pvEq:EK→PV→PV→Option Bool
 | .int,.int k a,.int k' b=>if k=k' then some (decide (a=b))else none
 | .str,.str a,.str b=>some (decide (a=b))
 | .bool,.bool a,.bool b=>some (a==b)
 | _,_,_=>none
def cellsEq:List EK→List PV→List PV→Option Bool
 | [],[],[]=>some true
 | k::ks,p::ps,q::qs=>match pvEq k p q,cellsEq ks ps qs with
   | some a,some b=>some (a&&b)
   | _,_=>none
 | _,_,_=>none
def qeq(ks:List EK)(op:BinOp):AV→AV→Option AV
 | .pv (.agg a),.pv (.agg b)=>match op with
   | .eql=>(cellsEq ks a b).map fun r=>.pv (.bool r)
   | .neq=>(cellsEq ks a b).map fun r=>.pv (.bool !r)
   | _=>none
 | _,_=>none
def qun(op:UnOp):AV→Option AV
 | .pv (.bool b)=>match op with
   | .not=>some (.pv (.bool !b))
   | _=>none
 | .pv (.int k n)=>match op with
   | .neg=>some (.pv (.int k (k.wrap (0-n))))
   | _=>none
 | _=>none
def rdCells(ti:TI)(cs:List PV):Option PV:=
 match ti.k with
 | .strct _=>if ti.size≤cs.length then some (.agg (cs.take ti.size))else none
 | .other=>none
 | _=>cs[0]?
def allPV:List AV→Option (List PV)
 | []=>some []
 | .pv p::r=>(allPV r).map (p::·)
 | _=>none
def qload(T:Nat→Option TI)(H:List AObj)(t:TypeId)(x:AV):Option AV:=
 match T t with
 | none=>none
 | some ti=>
   match x with
   | .pptr cs=>(rdCells ti cs).map .pv
   | .ref l o=>match H[l]? with
     | some (.var cs)=>
       match ti.k with
       | .strct _=>if o+ti.size≤cs.length then some (match allPV ((cs.drop o).take ti.size)with
         | some ps=>.pv (.agg ps)
         | none=>.agg ((cs.drop o).take ti.size))else none
       | .other=>none
       | _=>cs[o]?
     | _=>none
   | .vptr l n i o=>match H[l]? with
     | some (.row _ _ xs _)=>if xs.length=n then match xs[i]? with
        | some x=>(rdCells ti (x.cells.drop o)).map .pv
        | none=>none
       else none
     | some (.tree _ _ _ _ _ m xs)=>if xs.length=n∧m≤i then match xs[i]? with
        | some x=>(rdCells ti (x.cells.drop o)).map .pv
        | none=>none
       else none
     | some (.hrow _ sz xs j off l2 n2)=>if xs.length=n∧i=j then match xs[i]? with
        | some x=>match ti.k with
          | .strct _=>if o=0∧ti.size=sz then some (.agg ((x.cells.map .pv).set off (.vec l2 n2)))else none
          | .other=>none
          | _=>if o=off then some (.vec l2 n2)else(x.cells[o]?).map .pv
        | none=>none
       else none
     | _=>none
   | _=>none
def qfieldAddr(T:Nat→Option TI)(t:TypeId)(f:Nat)(x:AV):Option AV:=
 match T t with
 | some ⟨.strct fs,_,_,_⟩=>match fs[f]? with
   | some (off,sz)=>if sz=0 then none else match x with
     | .ref l o=>some (.ref l (o+off))
     | .pptr cs=>some (.pptr (cs.drop off))
     | .vptr l n i o=>some (.vptr l n i (o+off))
     | _=>none
   | none=>none
 | _=>none
def qindexAddr(T:Nat→Option TI)(H:List AObj)(t:TypeId)(x i:AV):Option AV:=
 match T t with
 | some ⟨.slice e,_,_,_⟩=>match T e,i with
   | some te,.pv (.int _ i)=>
     if 0≤i then match x with
      | .pv (.slice xs)=>match xs[i.toNat]? with
        | some y=>if y.cells.length=te.size then some (.pptr y.cells)else none
        | none=>none
      | .vec l n=>match rowAt H l with
        | some (_,sz,_)=>if i.toNat<n∧sz=te.size then some (.vptr l n i.toNat 0)else none
        | _=>none
      | _=>none
     else none
   | _,_=>none
 | _=>none
def qindex(T:Nat→Option TI)(t:TypeId)(x i:AV):Option AV:=
 match T t,x,i with
 | some ⟨.str,_,_,_⟩,.pv (.str s),.pv (.int _ i)=>
   if 0≤i then match s[i.toNat]? with
    | some c=>some (.pv (.int .u8 c.toNat))
    | none=>none
   else none
 | _,_,_=>none
def boundOr(d:Nat):Option AV→Option Nat
 | none=>some d
 | some (.pv (.int _ n))=>if 0≤n then some n.toNat else none
 | _=>none
def qslice(T:Nat→Option TI)(H:List AObj)(t:TypeId)(x:AV)(lo hi:Option AV):Option AV:=
 match T t with
 | some ⟨.str,_,_,_⟩=>match x with
   | .pv (.str s)=>match boundOr 0 lo,boundOr s.length hi with
     | some l,some h=>if l≤h∧h≤s.length then some (.pv (.str ((s.drop l).take (h-l))))else none
     | _,_=>none
   | _=>none
 | some ⟨.slice e,_,_,_⟩=>match T e,toPV H x with
   | some te,some (.slice xs)=>match boundOr 0 lo,boundOr xs.length hi with
     | some l,some h=>if l≤h∧h≤xs.length∧(xs.all fun y=>y.cells.length==te.size)=true then some (.pv (.slice ((xs.drop l).take (h-l))))else none
     | _,_=>none
   | _,_=>none
 | _=>none
def qextract(x:AV)(i:Nat):Option AV:=
 match x with
 | .tup vs=>vs[i]?
 | _=>none
def putCells(cs:List PV)(off:Nat)(ps:List PV):List PV:=cs.take off++ps++cs.drop (off+ps.length)
def qfill(H:List AObj)(fs:List (Nat×Nat)):List PV→List (Nat×AV)→Option (List PV)
 | cs,[]=>some cs
 | cs,(i,v)::r=>match fs[i]?,toPV H v with
   | some (off,sz),some p=>if p.cells.length=sz∧off+sz≤cs.length then qfill H fs (putCells cs off p.cells) r else none
   | _,_=>none
def qbuild(T:Nat→Option TI)(H:List AObj)(t:TypeId)(parts:List (Nat×AV)):Option AV:=
 match T t with
 | some ⟨.strct (f0::fs),_,_,some z⟩=>(qfill H (f0::fs) z parts).map fun cs=>.pv (.agg cs)
 | _=>none
def qnil:AV→Option AV
 | .ref l o=>some (.ref l o)
 | .pptr cs=>some (.pptr cs)
 | .vptr l n i o=>some (.vptr l n i o)
 | _=>none
def keyEq:PV→PV→Option Bool
 | .int k a,.int k' b=>if k=k' then some (a==b)else none
 | .str a,.str b=>some (a==b)
 | .bool a,.bool b=>some (a==b)
 | _,_=>none
def findIn(k:PV):List (PV×PV)→Nat→Option (Option (Nat×PV))
 | [],_=>some none
 | e::es,i=>match keyEq k e.1 with
   | some true=>some (some (i,e.2))
   | some false=>findIn k es (i+1)
   | none=>none
def simpleKey(T:Nat→Option TI)(k:TypeId)(p:PV):Bool:=
 match T k,p with
 | some ⟨.str,_,_,_⟩,.str _=>true
 | some ⟨.int j,_,_,_⟩,.int j' _=>j==j'
 | _,_=>false
def zeroPV(ti:TI):Option PV:=
 match ti.k,ti.zero with
 | .strct _,some z=>some (.agg z)
 | .other,_=>none
 | _,some [z]=>some z
 | _,_=>none
def qlookup(T:Nat→Option TI)(H:List AObj)(t:TypeId)(m k:AV)(ok:Bool):Option AV:=
 match T t,m,k with
 | some ⟨.map kt et,_,_,_⟩,.mref l,.pv kp=>match H[l]?,T et with
   | some (.map es),some te=>if simpleKey T kt kp then
      match findIn kp es 0,zeroPV te with
      | some (some (_,p)),_=>some (if ok then .tup [.pv p,.pv (.bool true)]else .pv p)
      | some none,some z=>some (if ok then .tup [.pv z,.pv (.bool false)]else .pv z)
      | _,_=>none
     else none
   | _,_=>none
 | _,_,_=>none
def qconv(T:Nat→Option TI)(src dst:TypeId)(x:AV):Option AV:=
 match T src,T dst,x with
 | some ⟨.int _,_,_,_⟩,some ⟨.int k,_,_,_⟩,.pv (.int _ n)=>some (.pv (.int k (k.wrap n)))
 | some ⟨.str,_,_,_⟩,some ⟨.str,_,_,_⟩,.pv (.str s)=>some (.pv (.str s))
 | _,_,_=>none
def bytesPV:List PV→Option (List UInt8)
 | []=>some []
 | .int .u8 n::r=>if 0≤n∧n<256 then(bytesPV r).map (UInt8.ofNat n.toNat::·)else none
 | _=>none
def isU8(T:Nat→Option TI)(e:TypeId):Bool:=
 match T e with
 | some ⟨.int .u8,_,_,_⟩=>true
 | _=>false
def qbytes(T:Nat→Option TI)(H:List AObj)(src dst:TypeId)(l n:Nat):Option AV:=
 match T src,T dst,H[l]? with
 | some ⟨.slice e,_,_,_⟩,some ⟨.str,_,_,_⟩,some (.row _ 1 xs _)=>if isU8 T e=true∧xs.length=n then(bytesPV xs).map fun s=>.pv (.str s)else none
 | _,_,_=>none
def qbytesF(T:Nat→Option TI)(src dst:TypeId)(xs:List PV):Option AV:=
 match T src,T dst with
 | some ⟨.slice e,_,_,_⟩,some ⟨.str,_,_,_⟩=>if isU8 T e=true then(bytesPV xs).map fun s=>.pv (.str s)else none
 | _,_=>none
def qconv2(T:Nat→Option TI)(H:List AObj)(src dst:TypeId):AV→Option AV
 | .vec l n=>qbytes T H src dst l n
 | .full xs=>qbytesF T src dst xs
 | x=>qconv T src dst x
theorem qconv2_pv(T:Nat→Option TI)(H:List AObj)(src dst:TypeId)(p:PV):qconv2 T H src dst (.pv p)=qconv T src dst (.pv p):=rfl
def refsOf:List AV→Option (List Nat)
 | []=>some []
 | .ref l 0::r=>(refsOf r).map (l::·)
 | _=>none
def qval(T:Nat→Option TI)(t:Nat→AV)(H:List AObj):Op→Option AV
 | .move x=>some (ev t x)
 | .assign x=>some (ev t x)
 | .pick c a b=>match ev t c with
   | .pv (.bool v)=>some (if v then ev t a else ev t b)
   | _=>none
 | .binOp op ty x y _=>qbin T op ty (ev t x) (ev t y)
 | .unOp op _ x=>qun op (ev t x)
 | .load ty x=>qload T H ty (ev t x)
 | .fieldAddr ty x f=>qfieldAddr T ty f (ev t x)
 | .indexAddr ty x i=>qindexAddr T H ty (nrm (ev t x)) (ev t i)
 | .index ty x i=>qindex T ty (ev t x) (ev t i)
 | .slice ty x lo hi none=>qslice T H ty (ev t x) (lo.map (ev t)) (hi.map (ev t))
 | .extract x i=>qextract (ev t x) i
 | .build ty parts=>qbuild T H ty (parts.toList.map fun p=>(p.1,ev t p.2))
 | .nilCheck x=>qnil (ev t x)
 | .lookup ty m k ok=>qlookup T H ty (ev t m) (ev t k) ok
 | .convert src dst x=>qconv2 T H src dst (ev t x)
 | .call ⟨.builtin .len,args,ats⟩=>match args.toList,ats.toList with
   | [x],[ty]=>qlen T H ty (nrm (ev t x))
   | _,_=>none
 | .makeFunc (.func f) first caps=>if first.size=0 then(refsOf (caps.toList.map (ev t))).map (AV.fn f)else none
 | _=>none
end Go.Abs
