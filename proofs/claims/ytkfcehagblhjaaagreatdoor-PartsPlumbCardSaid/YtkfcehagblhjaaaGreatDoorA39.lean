import Derived.Test.YtkfcehagblhjaaaGreatDoorA28
import Derived.Lib.AppendStr
import Derived.Shelf.Strings.Builder1
set_option linter.unusedVariables false
set_option linter.unusedSimpArgs false
set_option linter.defProp false
namespace Go.Abs
open Go.RowKit
def BIG:Nat:=1180591620717411303424
def iter{α R:Type}(body:(α→Option R)→α→Option R):Nat→α→Option R
 | 0,_=>none
 | n+1,a=>body (iter body n) a
theorem iter_some{α R:Type}{body:(α→Option R)→α→Option R}{n:Nat}{a:α}{r:R}(h:iter body n a=some r):∃m,n=m+1∧body (iter body m) a=some r:=by
 cases n with
 | zero=>cases h
 | succ m=>exact⟨m,rfl,h⟩
def guardO{α:Type}[Inhabited α](g:Bool)(x:Option α):Option α:=bif g then x else some default
theorem guardO_t{α:Type}[Inhabited α]{g:Bool}{x:Option α}{v:α}(h:guardO g x=some v):g=true→x=some v:=fun hg=>by
 subst hg
 exact h
theorem bif_t{α:Type}{b:Bool}{x y:Option α}{r:α}(hb:b=true)(h:(bif b then x else y)=some r):x=some r:=by
 subst hb
 exact h
theorem bif_f{α:Type}{b:Bool}{x y:Option α}{r:α}(hb:b=false)(h:(bif b then x else y)=some r):y=some r:=by
 subst hb
 exact h
def sidx(s:List UInt8)(i:Int):Option Int:=if 0≤i then s[i.toNat]?.map fun c=>(c.toNat:Int)else none
def sslice(s:List UInt8)(lo hi:Int):Option (List UInt8):=if 0≤lo∧lo≤hi∧hi≤s.length then some ((s.drop lo.toNat).take (hi.toNat-lo.toNat))else none
def lidx{α:Type}(xs:List α)(i:Int):Option α:=if 0≤i then xs[i.toNat]? else none
def lslice{α:Type}(xs:List α)(lo hi:Int):Option (List α):=if 0≤lo∧lo≤hi∧hi≤xs.length then some ((xs.drop lo.toNat).take (hi.toNat-lo.toNat))else none
def catO(a b:List UInt8):Option (List UInt8):=if a.length+b.length≤9223372036854775807 then some (a++b)else none
def appO{α:Type}(sz:Nat)(xs ys:List α):Option (List α):=if (xs.length+ys.length) * sz≤140737488355328 then some (xs++ys)else none
def quoO(k:IntKind)(a b:Int):Option Int:=if b=0 then none else some (k.wrap (a.tdiv b))
theorem catO_eq{a b:List UInt8}(h:a.length+b.length≤9223372036854775807):catO a b=some (a++b):=if_pos h
theorem appO_eq{α:Type}{sz:Nat}{xs ys:List α}(h:(xs.length+ys.length) * sz≤140737488355328):appO sz xs ys=some (xs++ys):=if_pos h
theorem sidx_f{s:List UInt8}{i v:Int}(h:sidx s i=some v):(0≤i)=True∧s[i.toNat]?=some (s.getD i.toNat 0)∧((s.getD i.toNat 0).toNat:Int)=v:=by
 unfold sidx at h
 split at h
 ·rename_i h0
  obtain⟨c,hc,rfl⟩:=Option.map_eq_some_iff.1 h
  have:s.getD i.toNat 0=c:=by rw[List.getD_eq_getElem?_getD,hc];rfl
  rw[this]
  exact⟨eq_true h0,hc,rfl⟩
 cases h
theorem sidx_g{g:Bool}{s:List UInt8}{i v:Int}(h:g=true→sidx s i=some v):(g=true→0≤i)∧(g=true→s[i.toNat]?=some (s.getD i.toNat 0))∧(g=true→((s.getD i.toNat 0).toNat:Int)=v):=
 ⟨fun hg=>of_eq_true (sidx_f (h hg)).1,fun hg=>(sidx_f (h hg)).2.1,fun hg=>(sidx_f (h hg)).2.2⟩
theorem lidx_f{α:Type}{xs:List α}{i:Int}{x:α}(h:lidx xs i=some x):(0≤i)=True∧xs[i.toNat]?=some x∧(i.toNat<xs.length)=True:=by
 unfold lidx at h
 split at h
 ·rename_i h0
  exact⟨eq_true h0,h,eq_true (List.getElem?_eq_some_iff.1 h).1⟩
 cases h
theorem lidx_g{α:Type}{g:Bool}{xs:List α}{i:Int}{x:α}(h:g=true→lidx xs i=some x):(g=true→0≤i)∧(g=true→xs[i.toNat]?=some x)∧(g=true→i.toNat<xs.length):=
 ⟨fun hg=>of_eq_true (lidx_f (h hg)).1,fun hg=>(lidx_f (h hg)).2.1,fun hg=>of_eq_true (lidx_f (h hg)).2.2⟩
theorem sslice_f{s t:List UInt8}{lo hi:Int}(h:sslice s lo hi=some t):(0≤lo)=True∧(0≤hi)=True∧(lo.toNat≤hi.toNat)=True∧(hi.toNat≤s.length)=True∧(s.drop lo.toNat).take (hi.toNat-lo.toNat)=t:=by
 unfold sslice at h
 split at h
 ·rename_i h0
  injection h with h
  exact⟨eq_true h0.1,eq_true (by omega),eq_true (by omega),eq_true (by omega),h⟩
 cases h
theorem sslice_g{g:Bool}{s t:List UInt8}{lo hi:Int}(h:g=true→sslice s lo hi=some t):(g=true→0≤lo)∧(g=true→0≤hi)∧(g=true→lo.toNat≤hi.toNat)∧(g=true→hi.toNat≤s.length)∧(g=true→(s.drop lo.toNat).take (hi.toNat-lo.toNat)=t):=
 ⟨fun hg=>of_eq_true (sslice_f (h hg)).1,fun hg=>of_eq_true (sslice_f (h hg)).2.1,fun hg=>of_eq_true (sslice_f (h hg)).2.2.1,fun hg=>of_eq_true (sslice_f (h hg)).2.2.2.1,fun hg=>(sslice_f (h hg)).2.2.2.2⟩
theorem lslice_f{α:Type}{s t:List α}{lo hi:Int}(h:lslice s lo hi=some t):(0≤lo)=True∧(0≤hi)=True∧(lo.toNat≤hi.toNat)=True∧(hi.toNat≤s.length)=True∧t=(s.drop lo.toNat).take (hi.toNat-lo.toNat):=by
 unfold lslice at h
 split at h
 ·rename_i h0
  injection h with h
  exact⟨eq_true h0.1,eq_true (by omega),eq_true (by omega),eq_true (by omega),h.symm⟩
 cases h
theorem catO_f{a b v:List UInt8}(h:catO a b=some v):(a.length+b.length≤9223372036854775807)=True∧a++b=v:=by
 unfold catO at h
 split at h
 ·rename_i h0
  injection h with h
  exact⟨eq_true h0,h⟩
 cases h
theorem catO_g{g:Bool}{a b v:List UInt8}(h:g=true→catO a b=some v):(g=true→a.length+b.length≤9223372036854775807)∧(g=true→a++b=v):=
 ⟨fun hg=>of_eq_true (catO_f (h hg)).1,fun hg=>(catO_f (h hg)).2⟩
theorem appO_f{α:Type}{sz:Nat}{xs ys v:List α}(h:appO sz xs ys=some v):((xs.length+ys.length) * sz≤140737488355328)=True∧v=xs++ys:=by
 unfold appO at h
 split at h
 ·rename_i h0
  injection h with h
  exact⟨eq_true h0,h.symm⟩
 cases h
section
variable {E:Env}{O:Orc}{k:Nat}{Q:Exit→St→Prop}
theorem AW.seqJ{α:Type}(S:α→St)(p:α→Prop){x y:Code}{σ:St}(hy:∀a,p a→AW E k y Q (S a))(hx:AW E k x (thenQ (fun σ'=>∃a,p a∧Weak E k σ' (S a)) Q) σ):AW E k (.seq x y) Q σ:=by
 refine AW.seq (hx.mono fun e σ' hQ=>?_)
 cases e with
 | normal=>
   obtain⟨a,ha,hw⟩:=hQ
   exact AW.weak hw (hy a ha)
 | _=>exact hQ
theorem Weak.norm{m n:Nat}{t:Nat→AV}{L:List (Nat×AV)}{H H':List AObj}(hk:k≤m)(hL:keeps t L)(hH:H.take m=H')(ho:H'.all (AObj.ltB m)=true)(hl:(L.all fun p=>p.2.ltB m)=true):Weak E k ⟨t,n,H⟩ ⟨sl L,n,H'⟩:=
 (Weak.forget (σ:=⟨t,n,H⟩) (keeps_sl hL)).trans (Weak.cut hk hH ho hl)
theorem Weak.slots{n:Nat}{t:Nat→AV}{L:List (Nat×AV)}{H:List AObj}(hL:keeps t L):Weak E k ⟨t,n,H⟩ ⟨sl L,n,H⟩:=Weak.forget (σ:=⟨t,n,H⟩) (keeps_sl hL)
end
theorem map_inj_of{α β:Type}{f:α→β}(hf:∀x y,f x=f y→x=y):∀ {xs ys:List α},xs.map f=ys.map f→xs=ys
 | [],[],_=>rfl
 | [],_::_,h=>by simp at h
 | _::_,[],h=>by simp at h
 | x::xs,y::ys,h=>by
   simp only[List.map_cons,List.cons.injEq]at h
   rw[hf _ _ h.1,map_inj_of hf h.2]
theorem str_inj{x y:List UInt8}(h:PV.str x=PV.str y):x=y:=by injection h
theorem int_inj{k:IntKind}{x y:Int}(h:PV.int k x=PV.int k y):x=y:=by injection h
theorem bool_inj{x y:Bool}(h:PV.bool x=PV.bool y):x=y:=by injection h
end Go.Abs
namespace Go.Abs
open Go.RowKit
section
variable {E:Env}{k:Nat}
theorem Weak.of_eq{σ σ' σ'':St}(h:Weak E k σ σ')(e:σ'=σ''):Weak E k σ σ'':=e▸h
end
theorem ecall_eq{O:Orc}{H:List AObj}{f:FuncId}{args:List AV}{sel:List Nat}{az:List AV}{Hs:List AObj}{rs:List AV}{H':List AObj}{r:AV}{Hn:List AObj}
 (h1:dedup (locsOf H args++innerLocs H (locsOf H args))=sel) (h2:selObjs H (idx sel) sel=some Hs) (h3:renArgs H (idx sel) args=some az) (h4:O.C f az Hs=some (rs,H')) (h5:decide (sel.length≤H'.length)=true)
 (h6:retAV (rs.map (AV.mapL (backN H.length sel)))=r) (h7:backObjs H sel H'=Hn):ecall O H f args=some (r,Hn):=by
 unfold ecall
 simp only[h1,h2,h3,h4]
 rw[if_pos (of_decide_eq_true h5),h6,h7]
theorem str_all(xs:List (List UInt8)):((xs.map PV.str).all fun z=>z.cells.length==1)=true:=by simp[PV.cells]
theorem int_all(k:IntKind)(xs:List Int):((xs.map (PV.int k)).all fun z=>z.cells.length==1)=true:=by simp[PV.cells]
theorem bool_all(xs:List Bool):((xs.map PV.bool).all fun z=>z.cells.length==1)=true:=by simp[PV.cells]
theorem mp_nil:mp []=[]:=rfl
theorem cells_agg(cs:List PV):(PV.agg cs).cells=cs:=rfl
theorem cells_str(s:List UInt8):(PV.str s).cells=[.str s]:=rfl
theorem cells_int(k:IntKind)(n:Int):(PV.int k n).cells=[.int k n]:=rfl
theorem cells_bool(b:Bool):(PV.bool b).cells=[.bool b]:=rfl
theorem cells_slice(xs:List PV):(PV.slice xs).cells=[.slice xs]:=rfl
end Go.Abs
namespace Go.Abs
open Go.RowKit Go.Shelf Go.Proofs
section
variable {P:Program}{w:World}
theorem strRow(e:TypeId)(i:TypeInfo)(hsize:i.size=1)(xs news:List Value)(n m old:Nat)(hx:xs.length=n * 1)(hl:news.length=m)(h63:n+m≤maxLen):
 (w.drew.alloc (.cells (xs.toArray++news.toArray++Builtin.zeroCells (Value.int .u8 0).cells (grownCap w (n+m) old e-(n+m))) e)).ownsRow 0 e 1
   (.slice (some ⟨w.heap.size,0,none⟩) (n+m) (grownCap w (n+m) old e)) (n+m) (xs++news):=by
 have h:=grownRow (w:=w) e i (.int .u8 0) (by rw[hsize];rfl) xs news n m old (by rw[hsize];exact hx) (by rw[hsize,Nat.mul_one];exact hl) h63
 rw[hsize]at h
 exact h
theorem append_own_str(t u ty e:TypeId)(i:TypeInfo)(ht:P.underlying t=some (.slice e))(hu:P.underlying u=some .string)(hi:P.info? e=some i)(hz:i.zero=some (.int .u8 0))(hsize:i.size=1)(hby:i.bytes=1)
 (v:Value) (n:Nat) (xs:List Value) (hown:w.ownsRow 0 e 1 v n xs) (s:ByteArray) (h63:n+s.size≤maxLen) (hbytes:n+s.size≤140737488355328):
 ∃v' w',(Builtin.append_ #[t,u] ty #[v,.string s]).run P w=.ok v' w'∧w'.ownsRow 0 e 1 v' (n+s.size) (xs++Lib.strCells s)∧Grew w w' v v':=by
 have hxl:xs.length=n * 1:=hown.1
 have hsmall:n+s.size≤9223372036854775807:=by unfold maxLen at h63;omega
 have hlen:(xs++Lib.strCells s).length=(n+s.size) * 1:=by rw[List.length_append,hxl,Lib.strCells_length,Nat.mul_one,Nat.mul_one]
 rcases hown.2 with⟨rfl,rfl⟩|⟨g,cap,cur,rfl,hbg,hg,hnc,hcm,hcs,htake⟩
 ·have hx:xs=[]:=List.eq_nil_of_length_eq_zero (by simpa using hxl)
  subst hx
  by_cases hm:s.size=0
  ·have hn:Lib.strCells s=[]:=List.eq_nil_of_length_eq_zero (by rw[Lib.strCells_length];exact hm)
   refine⟨.slice none 0 0,w,?_,by rw[hm,hn];exact World.ownsRow_nil w 0 e 1,⟨rfl,rfl,rfl,Nat.le_refl _,.inr ⟨rfl,rfl,fun _ _=>rfl⟩⟩⟩
   have hf:=Lib.run_firstCells_string (P:=P) w 1 s
   rw[hm]at hf
   simp[Builtin.append_,run_underlying ht,run_underlying hu,sizeOf,typeInfo,hi,hsize,Builtin.lenOf,hm,hf]
  have hr:=run_append_nil_string (P:=P) w t u ty e i (.int .u8 0) ht hu hi hz s (by omega) (by omega) (by rw[hby];omega)
  have hgr:=strRow (w:=w) e i hsize [] (Lib.strCells s) 0 s.size 0 (by simp) (Lib.strCells_length s) h63
  simp only[Nat.zero_add,List.nil_append,Array.empty_append]at hgr ⊢
  have e1:(s.data.map fun b=>Value.int .u8 b.toNat)=(Lib.strCells s).toArray:=by
   apply Array.ext'
   simp[Lib.strCells]
  rw[e1]at hr
  exact⟨_,_,hr,hgr,grew_new _ _ _ _ _⟩
 by_cases hroom:n+s.size≤cap
 ·have hcs':cur.size=cap:=by simpa using hcs
  have hr:=Lib.run_append_room_string (P:=P) w t u ty e i ht hu hi hsize g n cap cur hg s hroom (by omega)
  refine⟨_,_,hr,⟨hlen,.inr ⟨g,cap,_,rfl,hbg,setRow_heap w g cur _ e _ hg,hroom,hcm,?_,?_⟩⟩,⟨rfl,rfl,rfl,by simp,.inr ⟨rfl,by simp,fun b hb=>setRow_other w g b _ (fun e=>hb (by simp[Value.ownBlock,e]))⟩⟩⟩
  ·simp only[List.size_toArray,List.length_append,List.length_take,List.length_drop,Array.length_toList,Lib.strCells_length]
   omega
  have ht':cur.toList.take n=xs:=by simpa using htake
  rw[ht',←hlen]
  exact List.take_left
 have holds:∀ (j:Nat) u,xs[j]?=some u→w.cell? ((⟨g,0,none⟩:Addr).add j)=some u:=hown.cells (g:=g) rfl
 have hr:=Lib.run_append_grow_string (P:=P) w t u ty e i (.int .u8 0) ht hu hi hz ⟨g,0,none⟩ n cap xs (by rw[hsize];exact hxl) holds s (by omega) (by omega) (by rw[hby];exact growslice_fits (by omega) (by omega))
 exact⟨_,_,hr,strRow e i hsize xs (Lib.strCells s) n s.size cap hxl (Lib.strCells_length s) h63,grew_new _ _ _ _ _⟩
theorem wpList_append_str{ops:Array Oper}{rest:List Oper}{o:Oper}{a:Act}{Q:Exit→Act→World→Prop}(hgd:o.guard=none)(sl x:Operand)(t u:TypeId)
 (ho:o.op=.call { callee:=.builtin .append,args:=#[sl,x],argTypes:=#[t,u] }) (e:TypeId) (i:TypeInfo) (ht:P.underlying t=some (.slice e)) (hu:P.underlying u=some .string) (hi:P.info? e=some i) (hz:i.zero=some (.int .u8 0))
 (hsize:i.size=1) (hby:i.bytes=1) (v:Value) (n:Nat) (xs:List Value) (hs:a.eval sl=v) (hown:w.ownsRow 0 e 1 v n xs) (s:ByteArray) (hx:a.eval x=.string s)
 (h63:n+s.size≤maxLen) (hbytes:n+s.size≤140737488355328)
 (h:∀v' w',w'.ownsRow 0 e 1 v' (n+s.size) (xs++Lib.strCells s)→Grew w w' v v'→wpList P ops Q rest (a.put o.dst v') w'):wpList P ops Q (o::rest) a w:=by
 refine wpList_plain hgd fun K hK=>?_
 obtain⟨v',w',hr,h2,h3⟩:=append_own_str (P:=P) (w:=w) t u o.type e i ht hu hi hz hsize hby v n xs hown s h63 hbytes
 unfold Oper.wp execOp
 simp only[ho,resolve,invoke,builtin,Sem.run_bind,Sem.run_pure,Result.andThen_ok,List.map_toArray,List.map_cons,List.map_nil,hs,hx,hr]
 exact hK _ _ (h v' w' h2 h3)
end
section
variable {P:Program}{ρ:Ren}
theorem Grew.old{w w':World}{v v':Value}(h:Grew w w' v v'){b:Nat}(hb:b<w.heap.size)(hn:v.ownBlock≠some b):w'.heap[b]?=w.heap[b]?:=by
 rcases h.way with⟨_,_,k⟩|⟨_,_,k⟩
 ·exact k b hb
 exact k b (fun e=>hn e.symm)
theorem Grew.blk{w w':World}{v v':Value}(h:Grew w w' v v'){b:Nat}(hb:v'.ownBlock=some b):v.ownBlock=some b∨b=w.heap.size:=by
 rcases h.way with⟨k,_,_⟩|⟨k,_,_⟩
 ·rw[k]at hb
  injection hb with hb
  exact .inr hb.symm
 rw[k]at hb
 exact .inl hb
structure Wrote(T e:TypeId)(b:Nat)(v:Value)(bs:List Value)(w w':World):Prop where
 os:w'.os=w.os
 tape:w'.tape=w.tape
 output:w'.output=w.output
 size:w.heap.size≤w'.heap.size
 old:∀k,k<w.heap.size→k≠b→v.ownBlock≠some k→w'.heap[k]?=w.heap[k]?
 now:∃v',w'.heap[b]?=some (.cells #[.pointer (some ⟨b,0,none⟩),v'] T (0,0))∧w'.ownsRow 0 e 1 v' bs.length bs∧v'.ownBlock≠some b∧∀k,v'.ownBlock=some k→(v.ownBlock=some k∨w.heap.size≤k)∧k<w'.heap.size
theorem setCell_other(w:World)(b j k:Nat)(v:Value)(h:k≠b):(w.setCell ⟨b,j,none⟩ v).heap[k]?=w.heap[k]?:=Below.heap_setCell _ _ _ _ (fun e=>h e)
theorem setCell_0{w:World}{b:Nat}{p v q:Value}{T:TypeId}(h:w.heap[b]?=some (.cells #[p,v] T (0,0))):(w.setCell ⟨b,0,none⟩ q).heap[b]?=some (.cells #[q,v] T (0,0)):=by
 simp[World.setCell,Array.getElem?_modify,h]
theorem setCell_1{w:World}{b:Nat}{p v q:Value}{T:TypeId}(h:w.heap[b]?=some (.cells #[p,v] T (0,0))):(w.setCell ⟨b,1,none⟩ q).heap[b]?=some (.cells #[p,q] T (0,0)):=by
 simp[World.setCell,Array.getElem?_modify,h]
theorem setCell_size(w:World)(a:Addr)(v:Value):(w.setCell a v).heap.size=w.heap.size:=by simp[World.setCell]
structure Bld(T e:TypeId)(b:Nat)(p v:Value)(bs:List Value)(w:World):Prop where
 addr:p=.pointer none∨p=.pointer (some ⟨b,0,none⟩)
 here:w.heap[b]?=some (.cells #[p,v] T (0,0))
 owns:w.ownsRow 0 e 1 v bs.length bs
 apart:v.ownBlock≠some b
theorem Bld.lt{T e:TypeId}{b:Nat}{p v:Value}{bs:List Value}{w:World}(h:Bld T e b p v bs w):b<w.heap.size:=(Array.getElem?_eq_some_iff.1 h.here).1
theorem copyCheck_x(L:Lays.n240 P ρ)(X:Builder.X72 P ρ){b:Nat}{p v:Value}{bs:List Value}{w:World}(h:Bld (ρ.t 72) (ρ.t 5) b p v bs w):
 Calls P (ρ.f 240) #[.pointer (some ⟨b,0,none⟩)] w fun e w'=>e=.returned (.tuple #[])∧Bld (ρ.t 72) (ρ.t 5) b (.pointer (some ⟨b,0,none⟩)) v bs w'∧w'.os=w.os∧w'.tape=w.tape∧w'.output=w.output∧w'.heap.size=w.heap.size∧∀k,k≠b→w'.heap[k]?=w.heap[k]?:=by
 have hc:w.cell? ⟨b,0,none⟩=some p:=by rw[Lib.cell_of_heap h.here];rfl
 rcases h.addr with rfl|rfl
 ·refine(Any.Builder_copyCheck_fresh L X b w hc (by simp[World.shape?,h.here]) (Lib.frozen_of_heap h.here 0)).mono ?_
  rintro e w' ⟨rfl,rfl⟩
  refine⟨rfl,⟨.inr rfl,setCell_0 h.here,ownsRow_of_heap h.owns fun k hk=>setCell_other _ _ _ _ _ (fun e=>h.apart (by rw[hk,e])),h.apart⟩,rfl,rfl,rfl,setCell_size _ _ _,fun k hk=>setCell_other _ _ _ _ _ hk⟩
 refine(Any.Builder_copyCheck_used L X b w hc).mono ?_
 rintro e w' ⟨rfl,rfl⟩
 exact⟨rfl,h,rfl,rfl,rfl,rfl,fun _ _=>rfl⟩
set_option maxHeartbeats 2000000 in
set_option maxRecDepth 100000 in
theorem writeString_x(L:Lays.n166 P ρ)(X:Builder.Extra P ρ){b:Nat}{p v:Value}{bs:List Value}{w:World}(s:ByteArray)(h:Bld (ρ.t 72) (ρ.t 5) b p v bs w)(hlen:bs.length+s.size≤140737488355328):
 Calls P (ρ.f 166) #[.pointer (some ⟨b,0,none⟩),.string s] w fun e w'=>e=.returned (.tuple #[.int .i64 s.size,.nilIface])∧Wrote (ρ.t 72) (ρ.t 5) b v (bs++Lib.strCells s) w w':=by
 obtain⟨i0,hi,hz0,hz1,hz2⟩:=info_parts X.infoByte
 have mixed:=L.mixed
 have t72:=L.t72;have a72:=L.a72;have z72:=L.z72;have v72:=L.v72;have u72:=run_underlying L.t72
 have t70:=L.t70;have a70:=L.a70;have z70:=L.z70;have v70:=L.v70;have u70:=run_underlying L.t70
 have t37:=L.t37;have a37:=L.a37;have z37:=L.z37;have v37:=L.v37;have u37:=run_underlying L.t37
 have t3:=L.t3;have a3:=L.a3;have z3:=L.z3;have v3:=L.v3;have u3:=run_underlying L.t3
 have t9:=L.t9;have a9:=L.a9;have z9:=L.z9;have v9:=L.v9;have u9:=run_underlying L.t9
 have t4:=L.t4;have a4:=L.a4;have z4:=L.z4;have v4:=L.v4;have u4:=run_underlying L.t4
 have t164:=L.t164;have a164:=L.a164;have z164:=L.z164;have v164:=L.v164;have u164:=run_underlying L.t164
 have t5:=X.t5;have a5:=X.a5;have z5:=X.z5;have v5:=X.v5;have u5:=run_underlying X.t5
 have e240:∀args w,(callFunc (ρ.f 240) args).run P w=.ok (.enter (ρ.f 240) args) w:=enters_of L.f240 (by kernel_rfl) rfl
 go_enter L.f166,Body.n166_ntmps ρ
 go_wp2_with (go_at_fn (ρ.f 240);refine(copyCheck_x { L with } X.toX72 h).mono ?_)
 rintro e w1 ⟨rfl,h1,ho1,ht1,hu1,hs1,hk1⟩
 have hbk:=h1.here
 have hown:=h1.owns
 have hne:=h1.apart
 have c0:w1.cell? ⟨b,0,none⟩=some (.pointer (some ⟨b,0,none⟩)):=by rw[Lib.cell_of_heap hbk];rfl
 have c1:w1.cell? ⟨b,1,none⟩=some v:=by rw[Lib.cell_of_heap hbk];rfl
 go_wp2_with (at_builtin;refine wpList_append_str rfl _ _ (ρ.t 37) (ρ.t 9) rfl (ρ.t 5) i0 L.t37 L.t9 hi hz0 hz1 hz2 _ _ _ rfl hown s rfl ?c3 ?c4 ?_)
 case c3=>unfold maxLen;omega
 case c4=>omega
 intro v' w2 hown' hgrow
 have hlt:b<w1.heap.size:=h1.lt
 have hb2:w2.heap[b]?=some (.cells #[.pointer (some ⟨b,0,none⟩),v] (ρ.t 72) (0,0)):=by
  rw[hgrow.old hlt hne]
  exact hbk
 have d0:w2.cell? ⟨b,0,none⟩=some (.pointer (some ⟨b,0,none⟩)):=by rw[Lib.cell_of_heap hb2];rfl
 have d1:w2.cell? ⟨b,1,none⟩=some v:=by rw[Lib.cell_of_heap hb2];rfl
 have f1:w2.frozen? ⟨b,1,none⟩=false:=Lib.frozen_of_heap hb2 1
 obtain⟨ao,n',cap,rfl⟩:∃ao n' cap,v'=.slice ao n' cap:=by
  rcases hown'.2 with⟨hv,_⟩|⟨g,cap,cur,hv,_⟩
  ·exact⟨_,_,_,hv⟩
  exact⟨_,_,_,hv⟩
 have hne':=Lib.ownBlock_ne hown' hb2 X.neB5
 have hsz:=hgrow.size
 go_wp2
 go_ret2
 refine⟨rfl,hgrow.os.trans ho1,hgrow.tape.trans ht1,hgrow.output.trans hu1,?_,fun k hk hkb hkv=>?_,?_⟩
 ·show w.heap.size≤(w2.setCell ⟨b,1,none⟩ _).heap.size
  rw[setCell_size]
  omega
 ·show(w2.setCell ⟨b,1,none⟩ _).heap[k]?=_
  rw[setCell_other _ _ _ _ _ hkb,hgrow.old (by omega) hkv,hk1 k hkb]
 refine⟨_,setCell_1 hb2,?_,hne',fun k hk=>⟨?_,?_⟩⟩
 ·have:(bs++Lib.strCells s).length=bs.length+s.size:=by rw[List.length_append,Lib.strCells_length]
  rw[this]
  exact ownsRow_of_heap hown' fun k hk=>setCell_other _ _ _ _ _ (fun e=>hne' (by rw[hk,e]))
 ·rcases hgrow.blk hk with h2|h2
  ·exact .inl h2
  exact .inr (by omega)
 show k<(w2.setCell ⟨b,1,none⟩ _).heap.size
 rw[setCell_size]
 rcases hown'.2 with⟨hv,_⟩|⟨g,cap,cur,hv,_,hg,_⟩
 ·rw[hv]at hk
  cases hk
 rw[hv]at hk
 injection hk with hk
 subst hk
 exact(Array.getElem?_eq_some_iff.1 hg).1
end
end Go.Abs
namespace Go.Abs
open Go.RowKit Go.Shelf Go.Proofs
section
variable {P:Program}{ρ:Ren}
structure ReadB(v:Value)(w w':World):Prop where
 os:w'.os=w.os
 tape:w'.tape=w.tape
 output:w'.output=w.output
 size:w.heap.size≤w'.heap.size
 old:∀k,k<w.heap.size→v.ownBlock≠some k→w'.heap[k]?=w.heap[k]?
theorem ReadB.of_below{v:Value}{w w':World}(h:Below w.heap.size w w'):ReadB v w w':=⟨h.os,h.tape,h.output,h.size,fun k hk _=>h.block k hk⟩
set_option maxHeartbeats 2000000 in
set_option maxRecDepth 100000 in
theorem string_one(L:Lays.n169 P ρ)(X:Builder.Extra P ρ){b:Nat}{p v:Value}{l:List UInt8}{w:World}(h:Bld (ρ.t 72) (ρ.t 5) b p v (Lib.byteCells l) w)(h0:l≠[]):
 Calls P (ρ.f 169) #[.pointer (some ⟨b,0,none⟩)] w fun e w'=>e=.returned (.string ⟨l.toArray⟩)∧ReadB v w w':=by
 have hbk:=h.here
 have hown:=h.owns
 have hl0:l.length≠0:=by simpa using h0
 rw[Lib.byteCells_length]at hown
 obtain⟨g,cap,cur,rfl,hbg,hg,hnc,hcm,hcs,htake⟩:∃g cap cur,v=.slice (some ⟨g,0,none⟩) l.length cap∧0≤g∧w.heap[g]?=some (.cells cur (ρ.t 5) (0,0))∧l.length≤cap∧cap≤maxLen∧cur.size=cap * 1∧cur.toList.take (l.length * 1)=Lib.byteCells l:=by
  rcases hown.2 with⟨_,hz⟩|⟨g,cap,cur,hv,r⟩
  ·exact absurd hz hl0
  exact⟨g,cap,cur,hv,r⟩
 have c1:w.drew.cell? ⟨b,1,none⟩=some (.slice (some ⟨g,0,none⟩) l.length cap):=by
  have:w.drew.heap[b]?=some (.cells #[p,.slice (some ⟨g,0,none⟩) l.length cap] (ρ.t 72) (0,0)):=hbk
  rw[Lib.cell_of_heap this];rfl
 have hSD:(Builtin.unsafeSliceData_ #[(ρ.t 37)] (ρ.t 127) #[.slice (some ⟨g,0,none⟩) l.length cap]).run P w.drew=.ok (.pointer (some ⟨g,0,none⟩)) w.drew:=
  Lib.run_unsafeSliceData_row _ _ _ _ _ _ (by omega)
 have hUS:(Builtin.unsafeString_ #[(ρ.t 127),(ρ.t 3)] (ρ.t 9) #[.pointer (some ⟨g,0,none⟩),.int .i64 l.length]).run P w.drew=.ok (.string ⟨l.toArray⟩) (w.drew.freeze ⟨g,0,none⟩ l.length):=by
  refine Lib.run_unsafeString_row w.drew (ρ.t 127) (ρ.t 3) (ρ.t 9) (ρ.t 5) L.t127 X.cellsByte g cur.size (by have hg':w.drew.heap[g]?=some (.cells cur (ρ.t 5) (0,0)):=hg;simp[World.shape?,hg']) l h0 (by omega) (by unfold maxLen at hcm;omega) ?_
  intro j x hx
  have:=hown.cells (g:=g) rfl j (.int .u8 x.toNat) (by simp[Lib.byteCells,hx])
  exact this
 have hread:ReadB (.slice (some ⟨g,0,none⟩) l.length cap) w (w.drew.freeze ⟨g,0,none⟩ l.length):=by
  have hb:=Lib.below_freeze (Below.drew (Below.refl 0 w)) (p:=⟨g,0,none⟩) (Nat.zero_le _) l.length
  refine⟨hb.os,hb.tape,hb.output,hb.size,fun k hk hn=>?_⟩
  ·have hkg:g≠k:=fun e=>hn (by rw[←e];rfl)
   show(w.drew.freeze ⟨g,0,none⟩ l.length).heap[k]?=w.drew.heap[k]?
   unfold World.freeze
   split
   ·rfl
   simp only[Array.getElem?_modify]
   rw[if_neg hkg]
 have mixed:=L.mixed
 have t72:=L.t72;have a72:=L.a72;have z72:=L.z72;have v72:=L.v72;have u72:=run_underlying L.t72
 have t70:=L.t70;have a70:=L.a70;have z70:=L.z70;have v70:=L.v70;have u70:=run_underlying L.t70
 have t37:=L.t37;have a37:=L.a37;have z37:=L.z37;have v37:=L.v37;have u37:=run_underlying L.t37
 have t127:=L.t127;have a127:=L.a127;have z127:=L.z127;have v127:=L.v127;have u127:=run_underlying L.t127
 have t3:=L.t3;have a3:=L.a3;have z3:=L.z3;have v3:=L.v3;have u3:=run_underlying L.t3
 have t9:=L.t9;have a9:=L.a9;have z9:=L.z9;have v9:=L.v9;have u9:=run_underlying L.t9
 have t5:=X.t5;have a5:=X.a5;have z5:=X.z5;have v5:=X.v5;have u5:=run_underlying X.t5
 go_enter L.f169,Body.n169_ntmps ρ
 go_wp2
 go_region_o
 all_goals(go_wp2;go_ret;exact⟨rfl,hread⟩)
theorem string_x(L:Lays.n169 P ρ)(X:Builder.Extra P ρ){b:Nat}{p v:Value}{l:List UInt8}{w:World}(h:Bld (ρ.t 72) (ρ.t 5) b p v (Lib.byteCells l) w):
 Calls P (ρ.f 169) #[.pointer (some ⟨b,0,none⟩)] w fun e w'=>e=.returned (.string ⟨l.toArray⟩)∧ReadB v w w':=by
 cases l with
 | cons x r=>exact string_one L X h (by simp)
 | nil=>
   have hbk:=h.here
   rcases h.owns.2 with⟨rfl,_⟩|⟨g,cap,cur,rfl,hbg,hg,_,_,_,_⟩
   ·exact(Any.Builder_String_nil L X w.heap.size b p w hbk).mono fun e w' ⟨he,hb⟩=>⟨he,.of_below hb⟩
   by_cases hc0:cap=0
   ·subst hc0
    exact(Any.Builder_String_noroom L X w.heap.size b g p cur w (Nat.le_refl _) hbk hg).mono fun e w' ⟨he,hb⟩=>⟨he,.of_below hb⟩
   exact(Any.Builder_String_room L X w.heap.size b g cap p w hc0 hbk).mono fun e w' ⟨he,hb⟩=>⟨he,.of_below hb⟩
end
section
variable {E:Env}{f:FuncId}
theorem bld_arg{γ:List Gh}{Φ:Nat→Nat→Prop}{w:World}{s:List UInt8}(hI:OInv E γ [.bld s] Φ w){c:Value}(h:ARel γ [.bld s] Φ w c (.ref 0 0)):
 ∃g b p v,γ=[g]∧c=.pointer (some ⟨b,0,none⟩)∧g.v=c∧g.own=b::v.ownBlock.toList∧Bld (E.bT.getD 0) E.be b p v (Lib.byteCells s) w∧(∀k,¬ Φ b k)∧∀c,v.ownBlock=some c→∀k,¬ Φ c k:=by
 have hl:γ.length=1:=hI.len
 match γ,hl with
 | [g],_=>
   obtain⟨b,p,v,hv,hown,hp,hheap,howns,hne,h1,h2⟩:=hI.obj 0 _ g rfl rfl
   cases h with
   | ref b' l off hg=>
     have:g.v=.pointer (some ⟨b',0,none⟩):=by simpa[gv]using hg
     rw[hv]at this
     injection this with this
     injection this with this
     injection this with this
     subst this
     exact⟨g,b,p,v,rfl,rfl,hv,hown,⟨hp,hheap,by rw[Lib.byteCells_length];exact howns,hne⟩,h1,h2⟩
theorem Good.writeString(hc:∀ (b:Nat) (p v:Value) (bs:List Value) (w:World) (s:ByteArray),Bld (E.bT.getD 0) E.be b p v bs w→bs.length+s.size≤140737488355328→
 Calls E.P f #[.pointer (some ⟨b,0,none⟩),.string s] w fun e w'=>e=.returned (.tuple #[.int .i64 s.size,.nilIface])∧Wrote (E.bT.getD 0) E.be b v (bs++Lib.strCells s) w w')
 (b s:List UInt8) (h:b.length+s.length≤140737488355328):Good E f [.ref 0 0,.pv (.str s)] [.bld b] [.pv (.int .i64 s.length),.pv .nil] [.bld (b++s)]:=by
 intro w Φ γ cargs hI hl hr
 match cargs,hl with
 | [c0,c1],_=>
   obtain⟨g,blk,p,v,rfl,rfl,hgv,hgo,hB,hp1,hp2⟩:=bld_arg hI (hr 0 c0 _ rfl rfl)
   have h1:=rep_str (arel_pv (hr 1 c1 _ rfl rfl))
   subst h1
   have hsz:(⟨⟨s⟩⟩:ByteArray).size=s.length:=rfl
   refine(hc blk p v _ w ⟨⟨s⟩⟩ hB (by rw[Lib.byteCells_length,hsz];exact h)).mono fun e w' ⟨he,hW⟩=>?_
   obtain⟨v',hnow,hown',hne',hblk⟩:=hW.now
   have hmem:∀k,k∈g.own↔k=blk∨v.ownBlock=some k:=fun k=>by rw[hgo];simp
   have hkeep:∀k,k<w.heap.size→k∉g.own→w'.heap[k]?=w.heap[k]?:=fun k hk hn=>hW.old k hk (fun e=>hn ((hmem k).2 (.inl e))) (fun e=>hn ((hmem k).2 (.inr e)))
   have hphi:∀k,k∈g.own→∀j,¬ Φ k j:=fun k hk j=>by
    rcases(hmem k).1 hk with rfl|h
    ·exact hp1 j
    exact hp2 k h j
   have hok:=hI.setObj (o':=.bld (b++s)) (g':=⟨g.v,blk::v'.ownBlock.toList⟩) (l:=0) (g:=g) (o:=.bld b) rfl rfl hkeep hW.size hW.os hW.tape hW.output (fun _ _ h=>h) (fun _ _ h _ _=>h) (fun k j h=>Nat.lt_of_lt_of_le (hI.phi k j h) hW.size)
    (fun k j h hk=>absurd h (hphi k hk j)) (fun k hk=>by
      simp only[List.mem_cons,Option.mem_toList]at hk
      rcases hk with rfl|hk
      ·exact⟨.inl ((hmem k).2 (.inl rfl)),Nat.lt_of_lt_of_le hB.lt hW.size⟩
      obtain⟨h1,h2⟩:=hblk k hk
      exact⟨h1.elim (fun h=>.inl ((hmem k).2 (.inr h))) .inr,h2⟩) (.inl rfl) (fun e sz n h=>by cases h)
    (fun hE=>by
      refine⟨blk,.pointer (some ⟨blk,0,none⟩),v',hgv,rfl,.inr rfl,hnow,?_,hne',hp1,fun k hk j hj=>?_⟩
      ·have e1:(b++s).map (fun u=>Value.int .u8 u.toNat)=Lib.byteCells b++Lib.strCells ⟨⟨s⟩⟩:=by
        rw[Lib.strCells_eq,←Lib.byteCells_append]
        rfl
       have e2:(Lib.byteCells b++Lib.strCells ⟨⟨s⟩⟩).length=(b++s).length:=by rw[←e1,List.length_map]
       rw[e1,←e2]
       exact hown'
      rcases(hblk k hk).1 with h1|h1
      ·exact hp2 k h1 j hj
      have:=hI.phi k j hj
      omega)
   refine⟨[.int .i64 s.length,.nilIface],_,Φ,he,hok,rfl,fun i u r hu hr=>?_⟩
   match i,hu,hr with
   | 0,hu,hr=>cases hu;cases hr;exact .pv (.int _ _)
   | 1,hu,hr=>cases hu;cases hr;exact .pv .nil
theorem Good.string(hc:∀ (b:Nat) (p v:Value) (l:List UInt8) (w:World),Bld (E.bT.getD 0) E.be b p v (Lib.byteCells l) w→
 Calls E.P f #[.pointer (some ⟨b,0,none⟩)] w fun e w'=>e=.returned (.string ⟨l.toArray⟩)∧ReadB v w w')
 (b:List UInt8):Good E f [.ref 0 0] [.bld b] [.pv (.str b)] [.gone]:=by
 intro w Φ γ cargs hI hl hr
 match cargs,hl with
 | [c0],_=>
   obtain⟨g,blk,p,v,rfl,rfl,hgv,hgo,hB,hp1,hp2⟩:=bld_arg hI (hr 0 c0 _ rfl rfl)
   refine(hc blk p v b w hB).mono fun e w' ⟨he,hW⟩=>?_
   have hmem:∀k,k∈g.own↔k=blk∨v.ownBlock=some k:=fun k=>by rw[hgo];simp
   have hphi:∀k,k∈g.own→∀j,¬ Φ k j:=fun k hk j=>by
    rcases(hmem k).1 hk with rfl|h
    ·exact hp1 j
    exact hp2 k h j
   have hok:=hI.setObj (o':=.gone) (g':=g) (l:=0) (g:=g) (o:=.bld b) rfl rfl (fun k hk hn=>hW.old k hk (fun e=>hn ((hmem k).2 (.inr e)))) hW.size hW.os hW.tape hW.output (fun _ _ h=>h) (fun _ _ h _ _=>h) (fun k j h=>Nat.lt_of_lt_of_le (hI.phi k j h) hW.size)
    (fun k j h hk=>absurd h (hphi k hk j)) (fun k hk=>⟨.inl hk,Nat.lt_of_lt_of_le (hI.own 0 g rfl k hk).2 hW.size⟩) (.inl rfl) (fun e sz n h=>by cases h) (fun _=>trivial)
   refine⟨[.string ⟨⟨b⟩⟩],_,Φ,he,hok,rfl,fun i u r hu hr=>?_⟩
   match i,hu,hr with
   | 0,hu,hr=>cases hu;cases hr;exact .pv (.str _)
end
end Go.Abs
namespace Go.Abs
def loopR{α R:Type}(G:α→Int→Option R→Option R)(fin:Option R):List α→Int→Option R
 | [],_=>fin
 | x::xs,i=>G x i (loopR G fin xs (i+1))
def loopS{α S R:Type}(G:α→Int→(S→Option R)→S→Option R)(fin:S→Option R):List α→Int→S→Option R
 | [],_,s=>fin s
 | x::xs,i,s=>G x i (loopS G fin xs (i+1)) s
theorem wrap64{n:Int}(h1:-9223372036854775808≤n)(h2:n≤9223372036854775807):IntKind.wrap .i64 n=n:=wrap_i64_id h1 h2
theorem lidx_nat{α:Type}(xs:List α)(i:Nat):lidx xs (i:Int)=xs[i]?:=by
 unfold lidx
 rw[if_pos (Int.natCast_nonneg i),Int.toNat_natCast]
theorem lidx_at{α:Type}{xs:List α}{i:Nat}(h:i<xs.length):lidx xs (i:Int)=some xs[i]:=by
 rw[lidx_nat,List.getElem?_eq_getElem h]
theorem sidx_nat(s:List UInt8)(i:Nat):sidx s (i:Int)=s[i]?.map fun c=>(c.toNat:Int):=by
 unfold sidx
 rw[if_pos (Int.natCast_nonneg i),Int.toNat_natCast]
theorem sidx_at{s:List UInt8}{i:Nat}(h:i<s.length):sidx s (i:Int)=some (s[i].toNat:Int):=by
 rw[sidx_nat,List.getElem?_eq_getElem h]
 rfl
theorem drop_at{α:Type}{l:List α}{j:Nat}(h:j<l.length):l.drop j=l[j]::l.drop (j+1):=List.drop_eq_getElem_cons h
theorem iter_range{α R:Type}{body:(Int→Option R)→Int→Option R}(l:List α)(G:α→Int→Option R→Option R)(fin:Option R)
 (hb:∀again i,body again i=bif decide (i<(l.length:Int))then(lidx l i).bind (fun x=>G x i (again (IntKind.wrap .i64 (i+1))))else fin) (hl:l.length≤9223372036854775807):
 iter body BIG 0=loopR G fin l 0:=by
 have h:∀ (n j:Nat),j≤l.length→l.length-j<n→iter body n (j:Int)=loopR G fin (l.drop j) j:=by
  intro n
  induction n with
  | zero=>intro j _ h;omega
  | succ n ih=>
    intro j hj hn
    show body (iter body n) j=_
    rw[hb]
    by_cases hlt:j<l.length
    ·rw[decide_eq_true (by omega),lidx_at hlt,drop_at hlt]
     simp only[cond_true,Option.bind_some,loopR]
     rw[wrap64 (by omega) (by omega)]
     congr 1
     exact ih (j+1) (by omega) (by omega)
    rw[decide_eq_false (by omega),List.drop_eq_nil_of_le (by omega)]
    rfl
 exact h BIG 0 (Nat.zero_le _) (by unfold BIG;omega)
theorem iter_rangeS{α S R:Type}{body:(Int×S→Option R)→Int×S→Option R}(l:List α)(G:α→Int→(S→Option R)→S→Option R)(fin:S→Option R)
 (hb:∀again i s,body again (i,s)=bif decide (i<(l.length:Int))then(lidx l i).bind (fun x=>G x i (fun s'=>again (IntKind.wrap .i64 (i+1),s')) s)else fin s) (hl:l.length≤9223372036854775807) (s:S):
 iter body BIG (0,s)=loopS G fin l 0 s:=by
 have h:∀ (n j:Nat) (s:S),j≤l.length→l.length-j<n→iter body n ((j:Int),s)=loopS G fin (l.drop j) j s:=by
  intro n
  induction n with
  | zero=>intro j _ _ h;omega
  | succ n ih=>
    intro j s hj hn
    show body (iter body n) (j,s)=_
    rw[hb]
    by_cases hlt:j<l.length
    ·rw[decide_eq_true (by omega),lidx_at hlt,drop_at hlt]
     simp only[cond_true,Option.bind_some,loopS]
     rw[wrap64 (by omega) (by omega)]
     congr 1
     funext s'
     exact ih (j+1) s' (by omega) (by omega)
    rw[decide_eq_false (by omega),List.drop_eq_nil_of_le (by omega)]
    rfl
 exact h BIG 0 s (Nat.zero_le _) (by unfold BIG;omega)
def B(c:UInt8):Int:=(c.toNat:Int)
theorem iter_rangeB{R:Type}{body:(Int→Option R)→Int→Option R}(s:List UInt8)(G:Int→Int→Option R→Option R)(fin:Option R)
 (hb:∀again i,body again i=bif decide (i<(s.length:Int))then(sidx s i).bind (fun x=>G x i (again (IntKind.wrap .i64 (i+1))))else fin) (hl:s.length≤9223372036854775807):
 iter body BIG 0=loopR G fin (s.map B) 0:=by
 have h:∀ (n j:Nat),j≤s.length→s.length-j<n→iter body n (j:Int)=loopR G fin ((s.drop j).map B) j:=by
  intro n
  induction n with
  | zero=>intro j _ h;omega
  | succ n ih=>
    intro j hj hn
    show body (iter body n) j=_
    rw[hb]
    by_cases hlt:j<s.length
    ·rw[decide_eq_true (by omega),sidx_at hlt,drop_at hlt]
     simp only[cond_true,Option.bind_some,loopR,List.map_cons]
     rw[wrap64 (by omega) (by omega)]
     unfold B
     congr 1
     exact ih (j+1) (by omega) (by omega)
    rw[decide_eq_false (by omega),List.drop_eq_nil_of_le (by omega)]
    rfl
 exact h BIG 0 (Nat.zero_le _) (by unfold BIG;omega)
theorem byte_eq(a b:UInt8):decide ((a.toNat:Int)=(b.toNat:Int))=decide (a=b):=by
 rw[Bool.eq_iff_iff,decide_eq_true_eq,decide_eq_true_eq,Int.ofNat_inj]
 exact⟨fun h=>UInt8.toNat_inj.1 h,fun h=>by rw[h]⟩
theorem cond_f{α:Type}(a b:α):(bif false then a else b)=b:=rfl
theorem cond_t{α:Type}(a b:α):(bif true then a else b)=a:=rfl
end Go.Abs
namespace Go.Abs
theorem ex_map{α:Type}{f:α→PV}{W:α→Prop}:∀ {xs:List PV},(∀x∈xs,∃y,x=f y∧W y)→∃ys:List α,xs=ys.map f∧∀y∈ys,W y
 | [],_=>⟨[],rfl,fun y hy=>by cases hy⟩
 | x::xs,h=>by
   obtain⟨y,hy,hw⟩:=h x (by simp)
   obtain⟨ys,hys,hws⟩:=ex_map (xs:=xs) fun z hz=>h z (by simp[hz])
   refine⟨y::ys,by rw[hy,hys];rfl,fun z hz=>?_⟩
   rcases List.mem_cons.1 hz with rfl|hz
   ·exact hw
   exact hws z hz
end Go.Abs
namespace Go.Abs
open Go.RowKit
section
variable {E:Env}{O:Orc}{σ σ':St}{k:Nat}{Q:Exit→St→Prop}
theorem AW.cases(b:Bool){c:Code}(ht:b=true→AW E k c Q σ)(hf:b=false→AW E k c Q σ):AW E k c Q σ:=by
 cases b with
 | true=>exact ht rfl
 | false=>exact hf rfl
theorem AW.after{c:Code}(h:AW E k c (thenQ (fun σ'=>∃σ'',Weak E k σ' σ''∧Q .normal σ'') Q) σ):AW E k c Q σ:=by
 intro γ₀ H₀ Φ₀ w₀ a w hl hR
 refine wp_mono (h γ₀ H₀ Φ₀ w₀ a w hl hR) (fun e a' w' ⟨σ',hR',hQ⟩=>?_)
 cases e with
 | normal=>
   obtain⟨σ'',hw,hq⟩:=hQ
   exact⟨σ'',hw γ₀ H₀ Φ₀ w₀ a' w' hl hR',hq⟩
 | _=>exact⟨σ',hR',hQ⟩
theorem Weak.ownC(l j:Nat)(e:TypeId)(sz:Nat)(hsz:0<sz){cs:List AV}(hl:σ.h[l]?=some (.var cs))(hj:cs[j]?=some .nils)(fz:Bool:=true):
 Weak E k σ ⟨σ.t,σ.n,σ.h.set l (.var (cs.set j (.vec σ.h.length 0)))++[.row e sz [] fz]⟩:=by
 intro γ₀ H₀ Φ₀ w₀ a w hl0' hR
 obtain⟨⟨γ,Φ,hok,hs⟩,hn,hd,hl0⟩:=hR
 have hrow:w.ownsRow 0 e sz (.slice none 0 0) ([]:List PV).length []:=World.ownsRow_nil w 0 e sz
 obtain⟨γ',Φ',hk,hr⟩:=pushRow (v:=.slice none 0 0) hok.inv hrow ⟨rfl,rfl,rfl,Nat.le_refl _,.inr ⟨rfl,rfl,fun _ _=>rfl⟩⟩ rfl ⟨rfl,fun c hc=>by simp[flat_nil]at hc,fun k v c hv _=>by simp at hv⟩ (fun z hz=>by cases hz) hsz fz
 have hlt:l<σ.h.length:=(List.getElem?_eq_some_iff.1 hl).1
 have hl2:(σ.h++[AObj.row e sz [] fz])[l]?=some (.var cs):=by rw[List.getElem?_append_left hlt];exact hl
 obtain⟨g,hg,hO⟩:=hk.inv.gh hl2
 obtain⟨b,T,vs,hv,hown,hb,hvl,hrel,hnΦ⟩:=hO
 have hjl:j<cs.length:=(List.getElem?_eq_some_iff.1 hj).1
 have hk2:=hk.inv.setObj (o':=.var (cs.set j (.vec σ.h.length 0))) (g':=g) (w':=w) (Φ':=Φ') hl2 hg (fun _ _ _=>rfl) (Nat.le_refl _) rfl rfl rfl (fun _ _ h=>h)
  (fun _ _ h _ _=>h) (fun b k h=>hk.inv.phi b k h) (fun _ _ _ _=>rfl) (fun b hb=>⟨.inl hb,(hk.inv.own l g hg b hb).2⟩) (.inl rfl)
  (fun e1 sz1 n1 h=>by cases h)
  (fun hE=>⟨b,T,vs,hv,hown,hb,by simpa using hvl,fun i v c hvi hc=>by
    by_cases hij:i=j
    ·subst hij
     rw[List.getElem?_set_self hjl]at hc
     injection hc with hc
     subst hc
     obtain⟨h1,h2⟩:=hrel i v _ hvi hj
     refine⟨h1,?_⟩
     cases h2
     exact hr.mono hE
    ·rw[List.getElem?_set_ne (Ne.symm hij)]at hc
     obtain⟨h1,h2⟩:=hrel i v c hvi hc
     exact⟨h1,h2.mono hE⟩,hnΦ.1,fun c hc hs=>by
    rcases List.mem_or_eq_of_mem_set hc with hc|rfl
    ·exact hnΦ.2 c hc hs
    cases hs⟩)
 rw[List.set_append_left l _ hlt]at hk2
 exact⟨⟨_,_,(hok.trans hk).trans hk2,fun i=>((hs i).mono hk.evo).mono hk2.evo⟩,hn,hd,hl0⟩
end
theorem isNil_tmp(i:Nat):isNil (.tmp i)=false:=rfl
theorem isNil_func(i:Nat):isNil (.func i)=false:=rfl
theorem isNil_int(k:IntKind)(n:Int):isNil (.const (.int k n))=false:=rfl
theorem isNil_bool(b:Bool):isNil (.const (.bool b))=false:=rfl
theorem isNil_str(s:ByteArray):isNil (.const (.string s))=false:=rfl
theorem isNil_slice(a:Option Addr)(n c:Nat):isNil (.const (.slice a n c))=false:=rfl
theorem isNil_nil:isNil (.const .nilIface)=true:=rfl
theorem qnil_ref(l o:Nat):qnil (.ref l o)=some (.ref l o):=rfl
theorem qnil_pptr(cs:List PV):qnil (.pptr cs)=some (.pptr cs):=rfl
theorem qnil_vptr(l n i o:Nat):qnil (.vptr l n i o)=some (.vptr l n i o):=rfl
theorem ebox_agg(H:List AObj)(cs:List AV):ebox H (.agg cs)=if noS cs=true then some (.ref H.length 0,H++[.var cs])else none:=rfl
theorem mm2_f(k k':IntKind)(x y:Int):mm2 false (.pv (.int k x)) (.pv (.int k' y))=some (.pv (.int k (imin x y))):=rfl
theorem mm2_t(k k':IntKind)(x y:Int):mm2 true (.pv (.int k x)) (.pv (.int k' y))=some (.pv (.int k (imax x y))):=rfl
theorem erange_str{E:Env}{ty a b:Nat}{c:Option (List PV)}(h:E.T ty=some ⟨.str,a,b,c⟩)(H:List AObj)(s:List UInt8):erange E H ty (.pv (.str s))=some (.ref H.length 0,H++[.iter s 0]):=by
 simp only[erange,h]
theorem enext_t{H:List AObj}{l:Nat}{s:List UInt8}{p:Nat}(hl:H[l]?=some (.iter s p))(h:p<s.length):enext H (.ref l 0) true=some (.tup [.pv (.bool true),.pv (.int .i64 p),.pv (.int .i32 (runeC s p))],H.set l (.iter s (runeN s p))):=by
 simp only[enext,hl,if_pos h]
theorem enext_f{H:List AObj}{l:Nat}{s:List UInt8}{p:Nat}(hl:H[l]?=some (.iter s p))(h:¬ p<s.length):enext H (.ref l 0) true=some (.tup [.pv (.bool false)],H):=by
 simp only[enext,hl,if_neg h]
end Go.Abs
