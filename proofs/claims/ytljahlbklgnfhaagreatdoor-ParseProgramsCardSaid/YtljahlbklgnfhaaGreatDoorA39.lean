import Derived.Test.YtljahlbklgnfhaaGreatDoorA28
import Derived.Lib.AppendStr
import Derived.Shelf.Strings.Builder1
set_option linter.unusedVariables false
set_option linter.unusedSimpArgs false
set_option linter.defProp false
namespace Go.Abs
open Go.RowKit
def BIG:Nat:=1180591620717411303424
def iter{α R:Type}(body:(α->Option R)->α->Option R):Nat->α->Option R
 | 0,_=>none
 | n+1,a=>body (iter body n) a
theorem X2u{α R:Type}{body:(α->Option R)->α->Option R}{n:Nat}{a:α}{r:R}(h:iter body n a=some r):∃m,n=m+1/\body (iter body m) a=some r:=by
 cases n with
 | zero=>cases h
 | succ m=>exact⟨m,rfl,h⟩
def Q0e{α:Type}[Inhabited α](g:Bool)(x:Option α):Option α:=bif g then x else some default
theorem Q0d{α:Type}[Inhabited α]{g:Bool}{x:Option α}{v:α}(h:Q0e g x=some v):g=true->x=some v:=λa=>by
 subst a
 exact h
theorem K3z{α:Type}{b:Bool}{x y:Option α}{r:α}(hb:b=true)(h:(bif b then x else y)=some r):x=some r:=by
 subst hb
 exact h
theorem K4a{α:Type}{b:Bool}{x y:Option α}{r:α}(hb:b=false)(h:(bif b then x else y)=some r):y=some r:=by
 subst hb
 exact h
def sidx(s:List UInt8)(i:Int):Option Int:=if 0<=i then s[i.toNat]?.map λc=>(c.toNat:Int)else none
def Q0m(s:List UInt8)(a b:Int):Option (List UInt8):=if 0<=a/\a<=b/\b<=s.length then some ((s.drop a.toNat).take (b.toNat-a.toNat))else none
def lidx{α:Type}(xs:List α)(i:Int):Option α:=if 0<=i then xs[i.toNat]? else none
def Z5u{α:Type}(xs:List α)(a b:Int):Option (List α):=if 0<=a/\a<=b/\b<=xs.length then some ((xs.drop a.toNat).take (b.toNat-a.toNat))else none
def catO(a b:List UInt8):Option (List UInt8):=if a.length+b.length<=9223372036854775807 then some (a++b)else none
def appO{α:Type}(sz:Nat)(xs ys:List α):Option (List α):=if (xs.length+ys.length) * sz<=140737488355328 then some (xs++ys)else none
theorem X4j{a b:List UInt8}(h:a.length+b.length<=9223372036854775807):catO a b=some (a++b):=if_pos h
theorem Q0n{α:Type}{sz:Nat}{xs ys:List α}(h:(xs.length+ys.length) * sz<=140737488355328):appO sz xs ys=some (xs++ys):=if_pos h
theorem Q1y{s:List UInt8}{i v:Int}(h:sidx s i=some v):(0<=i)=True/\s[i.toNat]?=some (s.getD i.toNat 0)/\((s.getD i.toNat 0).toNat:Int)=v:=by
 unfold sidx at h
 split at h
 ·rename_i b
  obtain⟨c,a,rfl⟩:=G0g.1 h
  have:s.getD i.toNat 0=c:=by rw[G0v,a];rfl
  rw[this]
  exact⟨eq_true b,a,rfl⟩
 cases h
theorem Q1x{g:Bool}{s:List UInt8}{i v:Int}(h:g=true->sidx s i=some v):(g=true->0<=i)/\(g=true->s[i.toNat]?=some (s.getD i.toNat 0))/\(g=true->((s.getD i.toNat 0).toNat:Int)=v):=
 ⟨λa=>G4r (Q1y (h a)).1,λa=>(Q1y (h a)).2.1,λa=>(Q1y (h a)).2.2⟩
theorem Q0l{α:Type}{xs:List α}{i:Int}{x:α}(h:lidx xs i=some x):(0<=i)=True/\xs[i.toNat]?=some x/\(i.toNat<xs.length)=True:=by
 unfold lidx at h
 split at h
 ·rename_i a
  exact⟨eq_true a,h,eq_true (G0f.1 h).1⟩
 cases h
theorem J7c{α:Type}{g:Bool}{xs:List α}{i:Int}{x:α}(h:g=true->lidx xs i=some x):(g=true->0<=i)/\(g=true->xs[i.toNat]?=some x)/\(g=true->i.toNat<xs.length):=
 ⟨λa=>G4r (Q0l (h a)).1,λa=>(Q0l (h a)).2.1,λa=>G4r (Q0l (h a)).2.2⟩
theorem Q0r{s t:List UInt8}{a b:Int}(h:Q0m s a b=some t):(0<=a)=True/\(0<=b)=True/\(a.toNat<=b.toNat)=True/\(b.toNat<=s.length)=True/\(s.drop a.toNat).take (b.toNat-a.toNat)=t:=by
 unfold Q0m at h
 split at h
 ·rename_i d
  injection h with h
  exact⟨eq_true d.1,eq_true (by omega),eq_true (by omega),eq_true (by omega),h⟩
 cases h
theorem Z9v{g:Bool}{s t:List UInt8}{b d:Int}(h:g=true->Q0m s b d=some t):(g=true->0<=b)/\(g=true->0<=d)/\(g=true->b.toNat<=d.toNat)/\(g=true->d.toNat<=s.length)/\(g=true->(s.drop b.toNat).take (d.toNat-b.toNat)=t):=
 ⟨λa=>G4r (Q0r (h a)).1,λa=>G4r (Q0r (h a)).2.1,λa=>G4r (Q0r (h a)).2.2.1,λa=>G4r (Q0r (h a)).2.2.2.1,λa=>(Q0r (h a)).2.2.2.2⟩
theorem Z1k{α:Type}{s t:List α}{a b:Int}(h:Z5u s a b=some t):(0<=a)=True/\(0<=b)=True/\(a.toNat<=b.toNat)=True/\(b.toNat<=s.length)=True/\t=(s.drop a.toNat).take (b.toNat-a.toNat):=by
 unfold Z5u at h
 split at h
 ·rename_i d
  injection h with h
  exact⟨eq_true d.1,eq_true (by omega),eq_true (by omega),eq_true (by omega),h.symm⟩
 cases h
theorem Q6u{a b v:List UInt8}(h:catO a b=some v):(a.length+b.length<=9223372036854775807)=True/\a++b=v:=by
 unfold catO at h
 split at h
 ·rename_i d
  injection h with h
  exact⟨eq_true d,h⟩
 cases h
theorem K0e{g:Bool}{a b v:List UInt8}(h:g=true->catO a b=some v):(g=true->a.length+b.length<=9223372036854775807)/\(g=true->a++b=v):=
 ⟨λd=>G4r (Q6u (h d)).1,λd=>(Q6u (h d)).2⟩
theorem X4p{α:Type}{sz:Nat}{xs ys v:List α}(h:appO sz xs ys=some v):((xs.length+ys.length) * sz<=140737488355328)=True/\v=xs++ys:=by
 unfold appO at h
 split at h
 ·rename_i a
  injection h with h
  exact⟨eq_true a,h.symm⟩
 cases h
section
variable {E:Env}{O:Orc}{k:Nat}{Q:Exit->St->Prop}
theorem AW.seqJ{α:Type}(S:α->St)(p:α->Prop){x y:Code}{σ:St}(d:∀a,p a->AW E k y Q (S a))(g:AW E k x (Z1b (λσ'=>∃a,p a/\Weak E k σ' (S a)) Q) σ):AW E k (.seq x y) Q σ:=by
 refine AW.seq (g.mono λe σ' b=>?_)
 cases e with
 | normal=>
   obtain⟨a,i,j⟩:=b
   exact AW.weak j (d a i)
 | _=>exact b
theorem AW.seqM(σ':St){x y:Code}{σ:St}(b:AW E k x (Z1b (λσ''=>Weak E k σ'' σ') Q) σ)(d:AW E k y Q σ'):AW E k (.seq x y) Q σ:=by
 refine AW.seq (b.mono λe σ'' a=>?_)
 cases e with
 | normal=>exact AW.weak a d
 | _=>exact a
theorem Weak.norm{m n:Nat}{t:Nat->AV}{L:List (Nat×AV)}{H H':List AObj}(hk:k<=m)(a:Q8l t L)(b:H.take m=H')(d:H'.all (AObj.ltB m)=true)(e:(L.all λp=>p.2.ltB m)=true):Weak E k ⟨t,n,H⟩ ⟨sl L,n,H'⟩:=
 (Weak.forget (σ:=⟨t,n,H⟩) (Q4m a)).trans (Weak.cut hk b d e)
theorem Weak.slots{n:Nat}{t:Nat->AV}{L:List (Nat×AV)}{H:List AObj}(a:Q8l t L):Weak E k ⟨t,n,H⟩ ⟨sl L,n,H⟩:=Weak.forget (σ:=⟨t,n,H⟩) (Q4m a)
end
theorem Q6t{α b:Type}{f:α->b}(a:∀x y,f x=f y->x=y):∀ {xs ys:List α},xs.map f=ys.map f->xs=ys
 | [],[],_=>rfl
 | [],_::_,h=>by simp at h
 | _::_,[],h=>by simp at h
 | x::xs,y::ys,h=>by
   simp only[G2g,G3q]at h
   rw[a _ _ h.1,Q6t a h.2]
theorem Q6g{x y:List UInt8}(h:PV.str x=PV.str y):x=y:=by injection h
theorem Q2v{k:IntKind}{x y:Int}(h:PV.int k x=PV.int k y):x=y:=by injection h
theorem Q9n{x y:Bool}(h:PV.bool x=PV.bool y):x=y:=by injection h
end Go.Abs
namespace Go.Abs
open Go.RowKit
section
variable {E:Env}{k:Nat}
theorem Weak.of_eq{σ σ' σ'':St}(h:Weak E k σ σ')(e:σ'=σ''):Weak E k σ σ'':=e▸h
end
theorem Q0k{O:Orc}{H:List AObj}{f:FuncId}{args:List AV}{sel:List Nat}{az:List AV}{Hs:List AObj}{rs:List AV}{H':List AObj}{r:AV}{Hn:List AObj}
 (a:Q5p (Q1l H args++Q1j H (Q1l H args))=sel) (b:Q1a H (idx sel) sel=some Hs) (d:Q0v H (idx sel) args=some az) (e:O.C f az Hs=some (rs,H')) (g:decide (sel.length<=H'.length)=true)
 (i:Q1c (rs.map (AV.mapL (Q6i H.length sel)))=r) (j:Q0q H sel H'=Hn):Q0x O H f args=some (r,Hn):=by
 unfold Q0x
 simp only[a,b,d,e]
 rw[if_pos (G3y g),i,j]
theorem K1q(xs:List (List UInt8)):((xs.map PV.str).all λz=>z.cells.length==1)=true:=by simp[PV.cells]
theorem K3a(k:IntKind)(xs:List Int):((xs.map (PV.int k)).all λz=>z.cells.length==1)=true:=by simp[PV.cells]
theorem X8g(xs:List Bool):((xs.map PV.bool).all λz=>z.cells.length==1)=true:=by simp[PV.cells]
theorem K6h:mp []=[]:=rfl
theorem X4g(cs:List PV):(PV.agg cs).cells=cs:=rfl
theorem X4e(s:List UInt8):(PV.str s).cells=[.str s]:=rfl
theorem X4f(k:IntKind)(n:Int):(PV.int k n).cells=[.int k n]:=rfl
theorem J9w(b:Bool):(PV.bool b).cells=[.bool b]:=rfl
theorem J5i(xs:List PV):(PV.slice xs).cells=[.slice xs]:=rfl
end Go.Abs
namespace Go.Abs
open Go.RowKit Go.Shelf Go.Proofs
section
variable {P:Program}{w:World}
theorem X9e(e:TypeId)(i:TypeInfo)(a:i.size=1)(xs b:List Value)(n m old:Nat)(d:xs.length=n * 1)(g:b.length=m)(j:n+m<=maxLen):
 (w.drew.alloc (.cells (xs.toArray++b.toArray++Builtin.zeroCells (Value.int .u8 0).cells (grownCap w (n+m) old e-(n+m))) e)).ownsRow 0 e 1
   (.slice (some ⟨w.heap.size,0,none⟩) (n+m) (grownCap w (n+m) old e)) (n+m) (xs++b):=by
 have h:=Z1p (w:=w) e i (.int .u8 0) (by rw[a];rfl) xs b n m old (by rw[a];exact d) (by rw[a,G6j];exact g) j
 rw[a]at h
 exact h
theorem Z7x(t u l e:TypeId)(i:TypeInfo)(m:P.underlying t=some (.slice e))(o:P.underlying u=some .string)(p:P.info? e=some i)(A:i.zero=some (.int .u8 0))(d:i.size=1)(C:i.bytes=1)
 (v:Value) (n:Nat) (xs:List Value) (y:w.ownsRow 0 e 1 v n xs) (s:ByteArray) (z:n+s.size<=maxLen) (X:n+s.size<=140737488355328):
 ∃v' w',(Builtin.append_ #[t,u] l #[v,.string s]).run P w=.ok v' w'/\w'.ownsRow 0 e 1 v' (n+s.size) (xs++Lib.strCells s)/\Grew w w' v v':=by
 have q:xs.length=n * 1:=y.1
 have Y:n+s.size<=9223372036854775807:=by unfold maxLen at z;omega
 have D:(xs++Lib.strCells s).length=(n+s.size) * 1:=by rw[G0i,q,Lib.strCells_length,G6j,G6j]
 rcases y.2 with⟨rfl,rfl⟩|⟨g,cap,r,rfl,K,F,aa,L,M,N⟩
 ·have S:xs=[]:=G1g (by simpa using q)
  subst S
  by_cases x:s.size=0
  ·have T:Lib.strCells s=[]:=G1g (by rw[Lib.strCells_length];exact x)
   refine⟨.slice none 0 0,w,?_,by rw[x,T];exact World.ownsRow_nil w 0 e 1,⟨rfl,rfl,rfl,G0o _,.inr ⟨rfl,rfl,λ_ _=>rfl⟩⟩⟩
   have H:=Lib.run_firstCells_string (P:=P) w 1 s
   rw[x]at H
   simp[Builtin.append_,run_underlying m,run_underlying o,sizeOf,typeInfo,p,d,Builtin.lenOf,x,H]
  have a:=run_append_nil_string (P:=P) w t u l e i (.int .u8 0) m o p A s (by omega) (by omega) (by rw[C];omega)
  have I:=X9e (w:=w) e i d [] (Lib.strCells s) 0 s.size 0 (by simp) (Lib.strCells_length s) z
  simp only[G2y,G1y,G6m]at I |-
  have U:(s.data.map λb=>Value.int .u8 b.toNat)=(Lib.strCells s).toArray:=by
   apply G5h
   simp[Lib.strCells]
  rw[U]at a
  exact⟨_,_,a,I,Q9m _ _ _ _ _⟩
 by_cases J:n+s.size<=cap
 ·have ac:r.size=cap:=by simpa using M
  have a:=Lib.run_append_room_string (P:=P) w t u l e i m o p d g n cap r F s J (by omega)
  refine⟨_,_,a,⟨D,.inr ⟨g,cap,_,rfl,K,setRow_heap w g r _ e _ F,J,L,?_,?_⟩⟩,⟨rfl,rfl,rfl,by simp,.inr ⟨rfl,by simp,λb hb=>setRow_other w g b _ (λe=>hb (by simp[Value.ownBlock,e]))⟩⟩⟩
  ·simp only[G4h,G0i,G1h,G0p,G1j,Lib.strCells_length]
   omega
  have V:r.toList.take n=xs:=by simpa using N
  rw[V,<-D]
  exact G6b
 have W:∀ (j:Nat) u,xs[j]?=some u->w.cell? ((⟨g,0,none⟩:Addr).add j)=some u:=y.cells (g:=g) rfl
 have a:=Lib.run_append_grow_string (P:=P) w t u l e i (.int .u8 0) m o p A ⟨g,0,none⟩ n cap xs (by rw[d];exact q) W s (by omega) (by omega) (by rw[C];exact growslice_fits (by omega) (by omega))
 exact⟨_,_,a,X9e e i d xs (Lib.strCells s) n s.size cap q (Lib.strCells_length s) z,Q9m _ _ _ _ _⟩
theorem Z1z{ops:Array Oper}{rest:List Oper}{o:Oper}{a:Act}{Q:Exit->Act->World->Prop}(b:o.guard=none)(sl x:Operand)(t u:TypeId)
 (d:o.op=.call { callee:=.builtin .append,args:=#[sl,x],argTypes:=#[t,u] }) (e:TypeId) (i:TypeInfo) (g:P.underlying t=some (.slice e)) (j:P.underlying u=some .string) (l:P.info? e=some i) (m:i.zero=some (.int .u8 0))
 (p:i.size=1) (q:i.bytes=1) (v:Value) (n:Nat) (xs:List Value) (hs:a.eval sl=v) (r:w.ownsRow 0 e 1 v n xs) (s:ByteArray) (y:a.eval x=.string s)
 (z:n+s.size<=maxLen) (A:n+s.size<=140737488355328)
 (h:∀v' w',w'.ownsRow 0 e 1 v' (n+s.size) (xs++Lib.strCells s)->Grew w w' v v'->wpList P ops Q rest (a.put o.dst v') w'):wpList P ops Q (o::rest) a w:=by
 refine wpList_plain b λK C=>?_
 obtain⟨v',w',D,F,H⟩:=Z7x (P:=P) (w:=w) t u o.type e i g j l m p q v n xs r s z A
 unfold Oper.wp execOp
 simp only[d,resolve,invoke,builtin,Sem.run_bind,Sem.run_pure,Result.andThen_ok,List.map_toArray,G2g,G2h,hs,y,D]
 exact C _ _ (h v' w' F H)
end
section
variable {P:Program}{ρ:Ren}
theorem Grew.old{w w':World}{v v':Value}(h:Grew w w' v v'){b:Nat}(hb:b<w.heap.size)(a:v.ownBlock≠some b):w'.heap[b]?=w.heap[b]?:=by
 rcases h.way with⟨_,_,k⟩|⟨_,_,k⟩
 ·exact k b hb
 exact k b (λe=>a e.symm)
theorem Grew.blk{w w':World}{v v':Value}(h:Grew w w' v v'){b:Nat}(hb:v'.ownBlock=some b):v.ownBlock=some b\/b=w.heap.size:=by
 rcases h.way with⟨k,_,_⟩|⟨k,_,_⟩
 ·rw[k]at hb
  injection hb with hb
  exact .inr hb.symm
 rw[k]at hb
 exact .inl hb
structure Wrote(T e:TypeId)(b:Nat)(v:Value)(bs:List Value)(w w':World):Prop where
 os:w'.os=w.os
 tape:w'.tape=w.tape
 output:w'.output=w.output
 size:w.heap.size<=w'.heap.size
 old:∀k,k<w.heap.size->k≠b->v.ownBlock≠some k->w'.heap[k]?=w.heap[k]?
 now:∃v',w'.heap[b]?=some (.cells #[.pointer (some ⟨b,0,none⟩),v'] T (0,0))/\w'.ownsRow 0 e 1 v' bs.length bs/\v'.ownBlock≠some b/\∀k,v'.ownBlock=some k->(v.ownBlock=some k\/w.heap.size<=k)/\k<w'.heap.size
theorem Q2p(w:World)(b j k:Nat)(v:Value)(h:k≠b):(w.setCell ⟨b,j,none⟩ v).heap[k]?=w.heap[k]?:=Below.heap_setCell _ _ _ _ (λe=>h e)
theorem X1i{w:World}{b:Nat}{p v q:Value}{T:TypeId}(h:w.heap[b]?=some (.cells #[p,v] T (0,0))):(w.setCell ⟨b,0,none⟩ q).heap[b]?=some (.cells #[q,v] T (0,0)):=by
 simp[World.setCell,G3s,h]
theorem J1t{w:World}{b:Nat}{p v q:Value}{T:TypeId}(h:w.heap[b]?=some (.cells #[p,v] T (0,0))):(w.setCell ⟨b,1,none⟩ q).heap[b]?=some (.cells #[p,q] T (0,0)):=by
 simp[World.setCell,G3s,h]
theorem Q4a(w:World)(a:Addr)(v:Value):(w.setCell a v).heap.size=w.heap.size:=by simp[World.setCell]
structure Bld(T e:TypeId)(b:Nat)(p v:Value)(bs:List Value)(w:World):Prop where
 addr:p=.pointer none\/p=.pointer (some ⟨b,0,none⟩)
 here:w.heap[b]?=some (.cells #[p,v] T (0,0))
 owns:w.ownsRow 0 e 1 v bs.length bs
 apart:v.ownBlock≠some b
theorem Bld.lt{T e:TypeId}{b:Nat}{p v:Value}{bs:List Value}{w:World}(h:Bld T e b p v bs w):b<w.heap.size:=(G1b.1 h.here).1
theorem Z6k(L:Lays.n240 P ρ)(X:Builder.X72 P ρ){b:Nat}{p v:Value}{bs:List Value}{w:World}(h:Bld (ρ.t 72) (ρ.t 5) b p v bs w):
 Calls P (ρ.f 240) #[.pointer (some ⟨b,0,none⟩)] w λe w'=>e=.returned (.tuple #[])/\Bld (ρ.t 72) (ρ.t 5) b (.pointer (some ⟨b,0,none⟩)) v bs w'/\w'.os=w.os/\w'.tape=w.tape/\w'.output=w.output/\w'.heap.size=w.heap.size/\∀k,k≠b->w'.heap[k]?=w.heap[k]?:=by
 have a:w.cell? ⟨b,0,none⟩=some p:=by rw[Lib.cell_of_heap h.here];rfl
 rcases h.addr with rfl|rfl
 ·refine(Any.Builder_copyCheck_fresh L X b w a (by simp[World.shape?,h.here]) (Lib.frozen_of_heap h.here 0)).mono ?_
  rintro e w' ⟨rfl,rfl⟩
  refine⟨rfl,⟨.inr rfl,X1i h.here,Q0w h.owns λk hk=>Q2p _ _ _ _ _ (λe=>h.apart (by rw[hk,e])),h.apart⟩,rfl,rfl,rfl,Q4a _ _ _,λk hk=>Q2p _ _ _ _ _ hk⟩
 refine(Any.Builder_copyCheck_used L X b w a).mono ?_
 rintro e w' ⟨rfl,rfl⟩
 exact⟨rfl,h,rfl,rfl,rfl,rfl,λ_ _=>rfl⟩
set_option maxHeartbeats 2000000 in
set_option maxRecDepth 100000 in
theorem Z9p(L:Lays.n166 P ρ)(X:Builder.Extra P ρ){b:Nat}{p v:Value}{bs:List Value}{w:World}(s:ByteArray)(h:Bld (ρ.t 72) (ρ.t 5) b p v bs w)(T:bs.length+s.size<=140737488355328):
 Calls P (ρ.f 166) #[.pointer (some ⟨b,0,none⟩),.string s] w λe w'=>e=.returned (.tuple #[.int .i64 s.size,.nilIface])/\Wrote (ρ.t 72) (ρ.t 5) b v (bs++Lib.strCells s) w w':=by
 obtain⟨i0,x,y,z,A⟩:=info_parts X.infoByte
 have mixed:=L.mixed
 have t72:=L.t72;have a72:=L.a72;have z72:=L.z72;have v72:=L.v72;have U:=run_underlying L.t72
 have t70:=L.t70;have a70:=L.a70;have z70:=L.z70;have v70:=L.v70;have V:=run_underlying L.t70
 have t37:=L.t37;have a37:=L.a37;have z37:=L.z37;have v37:=L.v37;have W:=run_underlying L.t37
 have t3:=L.t3;have a3:=L.a3;have z3:=L.z3;have v3:=L.v3;have Y:=run_underlying L.t3
 have t9:=L.t9;have a9:=L.a9;have z9:=L.z9;have v9:=L.v9;have u9:=run_underlying L.t9
 have t4:=L.t4;have a4:=L.a4;have z4:=L.z4;have v4:=L.v4;have u4:=run_underlying L.t4
 have t164:=L.t164;have a164:=L.a164;have z164:=L.z164;have v164:=L.v164;have ad:=run_underlying L.t164
 have t5:=X.t5;have a5:=X.a5;have z5:=X.z5;have v5:=X.v5;have u5:=run_underlying X.t5
 have af:∀args w,(callFunc (ρ.f 240) args).run P w=.ok (.enter (ρ.f 240) args) w:=enters_of L.f240 (by kernel_rfl) rfl
 go_enter L.f166,Body.n166_ntmps ρ
 go_wp2_with (go_at_fn (ρ.f 240);refine(Z6k { L with } X.toX72 h).mono ?_)
 rintro e w1 ⟨rfl,l,C,D,F,hs1,H⟩
 have n:=l.here
 have I:=l.owns
 have J:=l.apart
 have c0:w1.cell? ⟨b,0,none⟩=some (.pointer (some ⟨b,0,none⟩)):=by rw[Lib.cell_of_heap n];rfl
 have c1:w1.cell? ⟨b,1,none⟩=some v:=by rw[Lib.cell_of_heap n];rfl
 go_wp2_with (at_builtin;refine Z1z rfl _ _ (ρ.t 37) (ρ.t 9) rfl (ρ.t 5) i0 L.t37 L.t9 x y z A _ _ _ rfl I s rfl ?c3 ?c4 ?_)
 case c3=>unfold maxLen;omega
 case c4=>omega
 intro v' a m d
 have K:b<w1.heap.size:=l.lt
 have j:a.heap[b]?=some (.cells #[.pointer (some ⟨b,0,none⟩),v] (ρ.t 72) (0,0)):=by
  rw[d.old K J]
  exact n
 have d0:a.cell? ⟨b,0,none⟩=some (.pointer (some ⟨b,0,none⟩)):=by rw[Lib.cell_of_heap j];rfl
 have d1:a.cell? ⟨b,1,none⟩=some v:=by rw[Lib.cell_of_heap j];rfl
 have f1:a.frozen? ⟨b,1,none⟩=false:=Lib.frozen_of_heap j 1
 obtain⟨o,q,cap,rfl⟩:∃o q cap,v'=.slice o q cap:=by
  rcases m.2 with⟨i,_⟩|⟨g,cap,M,i,_⟩
  ·exact⟨_,_,_,i⟩
  exact⟨_,_,_,i⟩
 have r:=Lib.ownBlock_ne m j X.neB5
 have al:=d.size
 go_wp2
 go_ret2
 refine⟨rfl,d.os.trans C,d.tape.trans D,d.output.trans F,?_,λk hk t N=>?_,?_⟩
 ·show w.heap.size<=(a.setCell ⟨b,1,none⟩ _).heap.size
  rw[Q4a]
  omega
 ·show(a.setCell ⟨b,1,none⟩ _).heap[k]?=_
  rw[Q2p _ _ _ _ _ t,d.old (by omega) N,H k t]
 refine⟨_,J1t j,?_,r,λk hk=>⟨?_,?_⟩⟩
 ·have:(bs++Lib.strCells s).length=bs.length+s.size:=by rw[G0i,Lib.strCells_length]
  rw[this]
  exact Q0w m λk hk=>Q2p _ _ _ _ _ (λe=>r (by rw[hk,e]))
 ·rcases d.blk hk with u|u
  ·exact .inl u
  exact .inr (by omega)
 show k<(a.setCell ⟨b,1,none⟩ _).heap.size
 rw[Q4a]
 rcases m.2 with⟨i,_⟩|⟨g,cap,M,i,_,S,_⟩
 ·rw[i]at hk
  cases hk
 rw[i]at hk
 injection hk with hk
 subst hk
 exact(G1b.1 S).1
end
end Go.Abs
namespace Go.Abs
open Go.RowKit Go.Shelf Go.Proofs
section
variable {P:Program}{ρ:Ren}
structure ReadB(v:Value)(w w':World):Prop where
 os:w'.os=w.os
 tape:w'.tape=w.tape
 output:w'.output=w.output
 size:w.heap.size<=w'.heap.size
 old:∀k,k<w.heap.size->v.ownBlock≠some k->w'.heap[k]?=w.heap[k]?
theorem ReadB.of_below{v:Value}{w w':World}(h:Below w.heap.size w w'):ReadB v w w':=⟨h.os,h.tape,h.output,h.size,λk hk _=>h.block k hk⟩
set_option maxHeartbeats 2000000 in
set_option maxRecDepth 100000 in
theorem J8o(L:Lays.n169 P ρ)(X:Builder.Extra P ρ){b:Nat}{p v:Value}{l:List UInt8}{w:World}(h:Bld (ρ.t 72) (ρ.t 5) b p v (Lib.byteCells l) w)(i:l≠[]):
 Calls P (ρ.f 169) #[.pointer (some ⟨b,0,none⟩)] w λe w'=>e=.returned (.string ⟨l.toArray⟩)/\ReadB v w w':=by
 have m:=h.here
 have d:=h.owns
 have n:l.length≠0:=by simpa using i
 rw[Lib.byteCells_length]at d
 obtain⟨g,cap,a,rfl,D,o,F,q,H,I⟩:∃g cap a,v=.slice (some ⟨g,0,none⟩) l.length cap/\0<=g/\w.heap[g]?=some (.cells a (ρ.t 5) (0,0))/\l.length<=cap/\cap<=maxLen/\a.size=cap * 1/\a.toList.take (l.length * 1)=Lib.byteCells l:=by
  rcases d.2 with⟨_,s⟩|⟨g,cap,a,t,r⟩
  ·exact absurd s n
  exact⟨g,cap,a,t,r⟩
 have J:w.drew.cell? ⟨b,1,none⟩=some (.slice (some ⟨g,0,none⟩) l.length cap):=by
  have:w.drew.heap[b]?=some (.cells #[p,.slice (some ⟨g,0,none⟩) l.length cap] (ρ.t 72) (0,0)):=m
  rw[Lib.cell_of_heap this];rfl
 have K:(Builtin.unsafeSliceData_ #[(ρ.t 37)] (ρ.t 127) #[.slice (some ⟨g,0,none⟩) l.length cap]).run P w.drew=.ok (.pointer (some ⟨g,0,none⟩)) w.drew:=
  Lib.run_unsafeSliceData_row _ _ _ _ _ _ (by omega)
 have M:(Builtin.unsafeString_ #[(ρ.t 127),(ρ.t 3)] (ρ.t 9) #[.pointer (some ⟨g,0,none⟩),.int .i64 l.length]).run P w.drew=.ok (.string ⟨l.toArray⟩) (w.drew.freeze ⟨g,0,none⟩ l.length):=by
  refine Lib.run_unsafeString_row w.drew (ρ.t 127) (ρ.t 3) (ρ.t 9) (ρ.t 5) L.t127 X.cellsByte g a.size (by have u:w.drew.heap[g]?=some (.cells a (ρ.t 5) (0,0)):=o;simp[World.shape?,u]) l i (by omega) (by unfold maxLen at q;omega) ?_
  intro j x y
  have:=d.cells (g:=g) rfl j (.int .u8 x.toNat) (by simp[Lib.byteCells,y])
  exact this
 have z:ReadB (.slice (some ⟨g,0,none⟩) l.length cap) w (w.drew.freeze ⟨g,0,none⟩ l.length):=by
  have hb:=Lib.below_freeze (Below.drew (Below.refl 0 w)) (p:=⟨g,0,none⟩) (G2l _) l.length
  refine⟨hb.os,hb.tape,hb.output,hb.size,λk hk A=>?_⟩
  ·have C:g≠k:=λe=>A (by rw[<-e];rfl)
   show(w.drew.freeze ⟨g,0,none⟩ l.length).heap[k]?=w.drew.heap[k]?
   unfold World.freeze
   split
   ·rfl
   simp only[G3s]
   rw[if_neg C]
 have mixed:=L.mixed
 have t72:=L.t72;have a72:=L.a72;have z72:=L.z72;have v72:=L.v72;have N:=run_underlying L.t72
 have t70:=L.t70;have a70:=L.a70;have z70:=L.z70;have v70:=L.v70;have S:=run_underlying L.t70
 have t37:=L.t37;have a37:=L.a37;have z37:=L.z37;have v37:=L.v37;have T:=run_underlying L.t37
 have t127:=L.t127;have a127:=L.a127;have z127:=L.z127;have v127:=L.v127;have U:=run_underlying L.t127
 have t3:=L.t3;have a3:=L.a3;have z3:=L.z3;have v3:=L.v3;have V:=run_underlying L.t3
 have t9:=L.t9;have a9:=L.a9;have z9:=L.z9;have v9:=L.v9;have W:=run_underlying L.t9
 have t5:=X.t5;have a5:=X.a5;have z5:=X.z5;have v5:=X.v5;have Y:=run_underlying X.t5
 go_enter L.f169,Body.n169_ntmps ρ
 go_wp2
 go_region_o
 all_goals(go_wp2;go_ret;exact⟨rfl,z⟩)
theorem X6t(L:Lays.n169 P ρ)(X:Builder.Extra P ρ){b:Nat}{p v:Value}{l:List UInt8}{w:World}(h:Bld (ρ.t 72) (ρ.t 5) b p v (Lib.byteCells l) w):
 Calls P (ρ.f 169) #[.pointer (some ⟨b,0,none⟩)] w λe w'=>e=.returned (.string ⟨l.toArray⟩)/\ReadB v w w':=by
 cases l with
 | cons x r=>exact J8o L X h (by simp)
 | nil=>
   have d:=h.here
   rcases h.owns.2 with⟨rfl,_⟩|⟨g,cap,j,rfl,n,m,_,_,_,_⟩
   ·exact(Any.Builder_String_nil L X w.heap.size b p w d).mono λe w' ⟨a,hb⟩=>⟨a,.of_below hb⟩
   by_cases i:cap=0
   ·subst i
    exact(Any.Builder_String_noroom L X w.heap.size b g p j w (G0o _) d m).mono λe w' ⟨a,hb⟩=>⟨a,.of_below hb⟩
   exact(Any.Builder_String_room L X w.heap.size b g cap p w i d).mono λe w' ⟨a,hb⟩=>⟨a,.of_below hb⟩
end
section
variable {E:Env}{f:FuncId}
theorem J5k{γ:List Gh}{Φ:Nat->Nat->Prop}{w:World}{s:List UInt8}(a:OInv E γ [.bld s] Φ w){c:Value}(h:ARel γ [.bld s] Φ w c (.ref 0 0)):
 ∃g b p v,γ=[g]/\c=.pointer (some ⟨b,0,none⟩)/\g.v=c/\g.own=b::v.ownBlock.toList/\Bld (E.bT.getD 0) E.be b p v (Lib.byteCells s) w/\(∀k,¬ Φ b k)/\∀c,v.ownBlock=some c->∀k,¬ Φ c k:=by
 have e:γ.length=1:=a.len
 match γ,e with
 | [g],_=>
   obtain⟨b,p,v,d,i,j,m,n,o,q,r⟩:=a.obj 0 _ g rfl rfl
   cases h with
   | ref b' l off t=>
     have:g.v=.pointer (some ⟨b',0,none⟩):=by simpa[gv]using t
     rw[d]at this
     injection this with this
     injection this with this
     injection this with this
     subst this
     exact⟨g,b,p,v,rfl,rfl,d,i,⟨j,m,by rw[Lib.byteCells_length];exact n,o⟩,q,r⟩
theorem Good.writeString(I:∀ (b:Nat) (p v:Value) (bs:List Value) (w:World) (s:ByteArray),Bld (E.bT.getD 0) E.be b p v bs w->bs.length+s.size<=140737488355328->
 Calls E.P f #[.pointer (some ⟨b,0,none⟩),.string s] w λe w'=>e=.returned (.tuple #[.int .i64 s.size,.nilIface])/\Wrote (E.bT.getD 0) E.be b v (bs++Lib.strCells s) w w')
 (b s:List UInt8) (h:b.length+s.length<=140737488355328):Good E f [.ref 0 0,.pv (.str s)] [.bld b] [.pv (.int .i64 s.length),.pv .nil] [.bld (b++s)]:=by
 intro w Φ γ J x K a
 match J,K with
 | [c0,L],_=>
   obtain⟨g,blk,p,v,rfl,rfl,M,N,y,z,A⟩:=J5k x (a 0 c0 _ rfl rfl)
   have m:=Q2a (Q0o (a 1 L _ rfl rfl))
   subst m
   have S:(⟨⟨s⟩⟩:ByteArray).size=s.length:=rfl
   refine(I blk p v _ w ⟨⟨s⟩⟩ y (by rw[Lib.byteCells_length,S];exact h)).mono λe w' ⟨T,d⟩=>?_
   obtain⟨v',U,V,W,C⟩:=d.now
   have q:∀k,k∈g.own↔k=blk\/v.ownBlock=some k:=λk=>by rw[N];simp
   have X:∀k,k<w.heap.size->k∉g.own->w'.heap[k]?=w.heap[k]?:=λk hk D=>d.old k hk (λe=>D ((q k).2 (.inl e))) (λe=>D ((q k).2 (.inr e)))
   have Y:∀k,k∈g.own->∀j,¬ Φ k j:=λk hk j=>by
    rcases(q k).1 hk with rfl|h
    ·exact z j
    exact A k h j
   have aa:=x.setObj (o':=.bld (b++s)) (g':=⟨g.v,blk::v'.ownBlock.toList⟩) (l:=0) (g:=g) (o:=.bld b) rfl rfl X d.size d.os d.tape d.output (λ_ _ h=>h) (λ_ _ h _ _=>h) (λk j h=>G1f (x.phi k j h) d.size)
    (λk j h hk=>absurd h (Y k hk j)) (λk hk=>by
      simp only[G1q,Option.mem_toList]at hk
      rcases hk with rfl|hk
      ·exact⟨.inl ((q k).2 (.inl rfl)),G1f y.lt d.size⟩
      obtain⟨m,h2⟩:=C k hk
      exact⟨m.elim (λh=>.inl ((q k).2 (.inr h))) .inr,h2⟩) (.inl rfl) (λe sz n h=>by cases h)
    (λhE=>by
      refine⟨blk,.pointer (some ⟨blk,0,none⟩),v',M,rfl,.inr rfl,U,?_,W,z,λk hk j F=>?_⟩
      ·have H:(b++s).map (λu=>Value.int .u8 u.toNat)=Lib.byteCells b++Lib.strCells ⟨⟨s⟩⟩:=by
        rw[Lib.strCells_eq,<-Lib.byteCells_append]
        rfl
       have e2:(Lib.byteCells b++Lib.strCells ⟨⟨s⟩⟩).length=(b++s).length:=by rw[<-H,G1m]
       rw[H,<-e2]
       exact V
      rcases(C k hk).1 with m|m
      ·exact A k m j F
      have:=x.phi k j F
      omega)
   refine⟨[.int .i64 s.length,.nilIface],_,Φ,T,aa,rfl,λi u r t a=>?_⟩
   match i,t,a with
   | 0,t,a=>cases t;cases a;exact .pv (.int _ _)
   | 1,t,a=>cases t;cases a;exact .pv .nil
theorem Good.string(t:∀ (b:Nat) (p v:Value) (l:List UInt8) (w:World),Bld (E.bT.getD 0) E.be b p v (Lib.byteCells l) w->
 Calls E.P f #[.pointer (some ⟨b,0,none⟩)] w λe w'=>e=.returned (.string ⟨l.toArray⟩)/\ReadB v w w')
 (b:List UInt8):Good E f [.ref 0 0] [.bld b] [.pv (.str b)] [.gone]:=by
 intro w Φ γ x m y d
 match x,y with
 | [c0],_=>
   obtain⟨g,blk,p,v,rfl,rfl,K,z,A,C,D⟩:=J5k m (d 0 c0 _ rfl rfl)
   refine(t blk p v b w A).mono λe w' ⟨F,a⟩=>?_
   have s:∀k,k∈g.own↔k=blk\/v.ownBlock=some k:=λk=>by rw[z];simp
   have H:∀k,k∈g.own->∀j,¬ Φ k j:=λk hk j=>by
    rcases(s k).1 hk with rfl|h
    ·exact C j
    exact D k h j
   have I:=m.setObj (o':=.gone) (g':=g) (l:=0) (g:=g) (o:=.bld b) rfl rfl (λk hk J=>a.old k hk (λe=>J ((s k).2 (.inr e)))) a.size a.os a.tape a.output (λ_ _ h=>h) (λ_ _ h _ _=>h) (λk j h=>G1f (m.phi k j h) a.size)
    (λk j h hk=>absurd h (H k hk j)) (λk hk=>⟨.inl hk,G1f (m.own 0 g rfl k hk).2 a.size⟩) (.inl rfl) (λe sz n h=>by cases h) (λ_=>trivial)
   refine⟨[.string ⟨⟨b⟩⟩],_,Φ,F,I,rfl,λi u r q d=>?_⟩
   match i,q,d with
   | 0,q,d=>cases q;cases d;exact .pv (.str _)
end
end Go.Abs
namespace Go.Abs
def Q4d{α R:Type}(G:α->Int->Option R->Option R)(fin:Option R):List α->Int->Option R
 | [],_=>fin
 | x::xs,i=>G x i (Q4d G fin xs (i+1))
def Q4z{α S R:Type}(G:α->Int->(S->Option R)->S->Option R)(fin:S->Option R):List α->Int->S->Option R
 | [],_,s=>fin s
 | x::xs,i,s=>G x i (Q4z G fin xs (i+1)) s
theorem Q0f{n:Int}(a:-9223372036854775808<=n)(b:n<=9223372036854775807):IntKind.wrap .i64 n=n:=J3w a b
theorem Z4u{α:Type}(xs:List α)(i:Nat):lidx xs (i:Int)=xs[i]?:=by
 unfold lidx
 rw[if_pos (Int.natCast_nonneg i),G2o]
theorem Z2k{α:Type}{xs:List α}{i:Nat}(h:i<xs.length):lidx xs (i:Int)=some xs[i]:=by
 rw[Z4u,G0c h]
theorem Z4o(s:List UInt8)(i:Nat):sidx s (i:Int)=s[i]?.map λc=>(c.toNat:Int):=by
 unfold sidx
 rw[if_pos (Int.natCast_nonneg i),G2o]
theorem Z9w{s:List UInt8}{i:Nat}(h:i<s.length):sidx s (i:Int)=some (s[i].toNat:Int):=by
 rw[Z4o,G0c h]
 rfl
theorem Q7m{α:Type}{l:List α}{j:Nat}(h:j<l.length):l.drop j=l[j]::l.drop (j+1):=G2p h
theorem Q9l{α R:Type}{body:(Int->Option R)->Int->Option R}(l:List α)(G:α->Int->Option R->Option R)(fin:Option R)
 (hb:∀a i,body a i=bif decide (i<(l.length:Int))then(lidx l i).bind (λx=>G x i (a (IntKind.wrap .i64 (i+1))))else fin) (e:l.length<=9223372036854775807):
 iter body BIG 0=Q4d G fin l 0:=by
 have h:∀ (n j:Nat),j<=l.length->l.length-j<n->iter body n (j:Int)=Q4d G fin (l.drop j) j:=by
  intro n
  induction n with
  | zero=>intro j _ h;omega
  | succ n d=>
    intro j g m
    show body (iter body n) j=_
    rw[hb]
    by_cases b:j<l.length
    ·rw[G0e (by omega),Z2k b,Q7m b]
     simp only[G4y,G0a,Q4d]
     rw[Q0f (by omega) (by omega)]
     congr 1
     exact d (j+1) (by omega) (by omega)
    rw[G0d (by omega),G2t (by omega)]
    rfl
 exact h BIG 0 (G2l _) (by unfold BIG;omega)
theorem J4v{α S R:Type}{body:(Int×S->Option R)->Int×S->Option R}(l:List α)(G:α->Int->(S->Option R)->S->Option R)(fin:S->Option R)
 (hb:∀b i s,body b (i,s)=bif decide (i<(l.length:Int))then(lidx l i).bind (λx=>G x i (λa=>b (IntKind.wrap .i64 (i+1),a)) s)else fin s) (g:l.length<=9223372036854775807) (s:S):
 iter body BIG (0,s)=Q4z G fin l 0 s:=by
 have h:∀ (n j:Nat) (s:S),j<=l.length->l.length-j<n->iter body n ((j:Int),s)=Q4z G fin (l.drop j) j s:=by
  intro n
  induction n with
  | zero=>intro j _ _ h;omega
  | succ n e=>
    intro j s m o
    show body (iter body n) (j,s)=_
    rw[hb]
    by_cases d:j<l.length
    ·rw[G0e (by omega),Z2k d,Q7m d]
     simp only[G4y,G0a,Q4z]
     rw[Q0f (by omega) (by omega)]
     congr 1
     funext a
     exact e (j+1) a (by omega) (by omega)
    rw[G0d (by omega),G2t (by omega)]
    rfl
 exact h BIG 0 s (G2l _) (by unfold BIG;omega)
theorem Q1i{α S R:Type}{body:(S×Int->Option R)->S×Int->Option R}(l:List α)(G:α->Int->(S->Option R)->S->Option R)(fin:S->Option R)
 (hb:∀b i s,body b (s,i)=bif decide (i<(l.length:Int))then(lidx l i).bind (λx=>G x i (λa=>b (a,IntKind.wrap .i64 (i+1))) s)else fin s) (g:l.length<=9223372036854775807) (s:S):
 iter body BIG (s,0)=Q4z G fin l 0 s:=by
 have h:∀ (n j:Nat) (s:S),j<=l.length->l.length-j<n->iter body n (s,(j:Int))=Q4z G fin (l.drop j) j s:=by
  intro n
  induction n with
  | zero=>intro j _ _ h;omega
  | succ n e=>
    intro j s m o
    show body (iter body n) (s,j)=_
    rw[hb]
    by_cases d:j<l.length
    ·rw[G0e (by omega),Z2k d,Q7m d]
     simp only[G4y,G0a,Q4z]
     rw[Q0f (by omega) (by omega)]
     congr 1
     funext a
     exact e (j+1) a (by omega) (by omega)
    rw[G0d (by omega),G2t (by omega)]
    rfl
 exact h BIG 0 s (G2l _) (by unfold BIG;omega)
def B(c:UInt8):Int:=(c.toNat:Int)
theorem Q7j{R:Type}{body:(Int->Option R)->Int->Option R}(s:List UInt8)(G:Int->Int->Option R->Option R)(fin:Option R)
 (hb:∀a i,body a i=bif decide (i<(s.length:Int))then(sidx s i).bind (λx=>G x i (a (IntKind.wrap .i64 (i+1))))else fin) (e:s.length<=9223372036854775807):
 iter body BIG 0=Q4d G fin (s.map B) 0:=by
 have h:∀ (n j:Nat),j<=s.length->s.length-j<n->iter body n (j:Int)=Q4d G fin ((s.drop j).map B) j:=by
  intro n
  induction n with
  | zero=>intro j _ h;omega
  | succ n d=>
    intro j g l
    show body (iter body n) j=_
    rw[hb]
    by_cases b:j<s.length
    ·rw[G0e (by omega),Z9w b,Q7m b]
     simp only[G4y,G0a,Q4d,G2g]
     rw[Q0f (by omega) (by omega)]
     unfold B
     congr 1
     exact d (j+1) (by omega) (by omega)
    rw[G0d (by omega),G2t (by omega)]
    rfl
 exact h BIG 0 (G2l _) (by unfold BIG;omega)
theorem Q2c(a b:UInt8):decide ((a.toNat:Int)=(b.toNat:Int))=decide (a=b):=by
 rw[G5t,G0s,G0s,Int.ofNat_inj]
 exact⟨λh=>UInt8.toNat_inj.1 h,λh=>by rw[h]⟩
theorem Q0a{α:Type}(a b:α):(bif false then a else b)=b:=rfl
theorem Q0b{α:Type}(a b:α):(bif true then a else b)=a:=rfl
end Go.Abs
namespace Go.Abs
open Go.RowKit
section
variable {E:Env}{O:Orc}{σ σ':St}{k:Nat}{Q:Exit->St->Prop}
theorem AW.cases(b:Bool){c:Code}(a:b=true->AW E k c Q σ)(d:b=false->AW E k c Q σ):AW E k c Q σ:=by
 cases b with
 | true=>exact a rfl
 | false=>exact d rfl
theorem AW.after{c:Code}(h:AW E k c (Z1b (λσ'=>∃σ'',Weak E k σ' σ''/\Q .normal σ'') Q) σ):AW E k c Q σ:=by
 intro γ₀ H₀ Φ₀ w₀ a w b i
 refine wp_mono (h γ₀ H₀ Φ₀ w₀ a w b i) (λe j w' ⟨σ',d,g⟩=>?_)
 cases e with
 | normal=>
   obtain⟨σ'',l,hq⟩:=g
   exact⟨σ'',l γ₀ H₀ Φ₀ w₀ j w' b d,hq⟩
 | _=>exact⟨σ',d,g⟩
theorem Weak.ownC(l j:Nat)(e:TypeId)(sz:Nat)(H:0<sz){cs:List AV}(q:σ.h[l]?=some (.var cs))(r:cs[j]?=some .nils):
 Weak E k σ ⟨σ.t,σ.n,σ.h.set l (.var (cs.set j (.vec σ.h.length 0)))++[.row e sz [] true]⟩:=by
 intro γ₀ H₀ Φ₀ w₀ a w W I
 obtain⟨⟨γ,Φ,s,hs⟩,J,hd,K⟩:=I
 have hrow:w.ownsRow 0 e sz (.slice none 0 0) ([]:List PV).length []:=World.ownsRow_nil w 0 e sz
 obtain⟨X,Φ',hk,L⟩:=Z2h (v:=.slice none 0 0) s.inv hrow ⟨rfl,rfl,rfl,G0o _,.inr ⟨rfl,rfl,λ_ _=>rfl⟩⟩ rfl ⟨rfl,λc d=>by simp[Q3y]at d,λk v c m _=>by simp at m⟩ (λz M=>by cases M) H true
 have t:l<σ.h.length:=(G0f.1 q).1
 have u:(σ.h++[AObj.row e sz [] true])[l]?=some (.var cs):=by rw[G0l t];exact q
 obtain⟨g,x,N⟩:=hk.inv.gh u
 obtain⟨b,T,vs,m,S,hb,U,y,A⟩:=N
 have V:j<cs.length:=(G0f.1 r).1
 have n:=hk.inv.setObj (o':=.var (cs.set j (.vec σ.h.length 0))) (g':=g) (w':=w) (Φ':=Φ') u x (λ_ _ _=>rfl) (G0o _) rfl rfl rfl (λ_ _ h=>h)
  (λ_ _ h _ _=>h) (λb k h=>hk.inv.phi b k h) (λ_ _ _ _=>rfl) (λb hb=>⟨.inl hb,(hk.inv.own l g x b hb).2⟩) (.inl rfl)
  (λY aa n1 h=>by cases h)
  (λC=>⟨b,T,vs,m,S,hb,by simpa using U,λi v c D d=>by
    by_cases F:i=j
    ·subst F
     rw[G1c V]at d
     injection d with d
     subst d
     obtain⟨o,p⟩:=y i v _ D r
     refine⟨o,?_⟩
     cases p
     exact L.mono C
    ·rw[G1e (Ne.symm F)]at d
     obtain⟨o,p⟩:=y i v c D d
     exact⟨o,p.mono C⟩,A.1,λc d hs=>by
    rcases G2q d with d|rfl
    ·exact A.2 c d hs
    cases hs⟩)
 rw[List.set_append_left l _ t]at n
 exact⟨⟨_,_,(s.trans hk).trans n,λi=>((hs i).mono hk.evo).mono n.evo⟩,J,hd,K⟩
def renS(f:Nat->Option Nat):List (Nat×AV)->Option (List (Nat×AV))
 | []=>some []
 | (i,a)::r=>match a.ren f,renS f r with
   | some b,some s=>some ((i,b)::s)
   | _,_=>none
theorem X1m{f:Nat->Option Nat}:∀ {L d:List (Nat×AV)},renS f L=some d->∀i,sl d i=.any\/(sl L i).ren f=some (sl d i)
 | [],d,h,i=>by
   simp only[renS,G0b]at h
   subst h
   exact .inl rfl
 | (j,a)::r,d,h,i=>by
   simp only[renS]at h
   split at h
   ·rename_i b s hb hs
    simp only[G0b]at h
    subst h
    simp only[sl]
    split
    ·exact .inr hb
    exact X1m hs i
   cases h
theorem Weak.sel(b:List Nat){t:Nat->AV}{n:Nat}{H Hs:List AObj}{L d:List (Nat×AV)}(l:Q8l t L)(m:(List.range k++b).Nodup)(hs:Q1a H (idx (List.range k++b)) (List.range k++b)=some Hs)
 (o:renS (idx (List.range k++b)) L=some d):Weak E k ⟨t,n,H⟩ ⟨sl d,n,Hs⟩:=by
 intro γ₀ H₀ Φ₀ w₀ a w hk p
 obtain⟨⟨γ,Φ,g,q⟩,r,hd,j⟩:=p
 subst hk
 refine⟨⟨_,Φ,g.sel j m hs,λi=>?_⟩,r,hd,j⟩
 show ARel _ _ Φ w _ (sl d i)
 rcases X1m o i with h|h
 ·rw[h]
  exact .any _
 rcases Q4m l i with e|e
 ·have:=q i
  rw[e]at h
  exact this.select g.inv hs h
 rw[e]at h
 simp only[AV.ren,G0b]at h
 rw[<-h]
 exact .any _
end
theorem X2v(i:Nat):Z5z (.tmp i)=false:=rfl
theorem J9o(i:Nat):Z5z (.func i)=false:=rfl
theorem X2y(k:IntKind)(n:Int):Z5z (.const (.int k n))=false:=rfl
theorem J9p(b:Bool):Z5z (.const (.bool b))=false:=rfl
theorem X2w(s:ByteArray):Z5z (.const (.string s))=false:=rfl
theorem J4w(a:Option Addr)(n c:Nat):Z5z (.const (.slice a n c))=false:=rfl
theorem X2x:Z5z (.const .nilIface)=true:=rfl
theorem J2c{T:Nat->Option TI}{t a b:Nat}{c:Option (List PV)}(h:T t=some ⟨.iface,a,b,c⟩)(x:Bool):J2d T .eql t (.pv (bif x then PV.ifc else PV.nil))=some (.pv (.bool !x)):=by
 cases x<;>simp only[G4y,G5q,J2d,h]<;>rfl
theorem J2b{T:Nat->Option TI}{t a b:Nat}{c:Option (List PV)}(h:T t=some ⟨.iface,a,b,c⟩)(x:Bool):J2d T .neq t (.pv (bif x then PV.ifc else PV.nil))=some (.pv (.bool x)):=by
 cases x<;>simp only[G4y,G5q,J2d,h]<;>rfl
theorem X6v(l o:Nat):qnil (.ref l o)=some (.ref l o):=rfl
theorem X1t(cs:List PV):qnil (.pptr cs)=some (.pptr cs):=rfl
theorem X1s(l n i o:Nat):qnil (.vptr l n i o)=some (.vptr l n i o):=rfl
theorem X8c(H:List AObj)(cs:List AV):ebox H (.agg cs)=if noS cs=true then some (.ref H.length 0,H++[.var cs])else none:=rfl
theorem V9p(k a:IntKind)(x y:Int):mm2 false (.pv (.int k x)) (.pv (.int a y))=some (.pv (.int k (imin x y))):=rfl
theorem V9o(k a:IntKind)(x y:Int):mm2 true (.pv (.int k x)) (.pv (.int a y))=some (.pv (.int k (imax x y))):=rfl
end Go.Abs
