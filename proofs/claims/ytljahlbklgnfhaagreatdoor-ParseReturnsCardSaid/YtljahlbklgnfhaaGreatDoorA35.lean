import Derived.Test.YtljahlbklgnfhaaGreatDoorA28
import Derived.Lib.AppendStr
import Derived.Shelf.Strings.Builder1
set_option linter.unusedVariables false
set_option linter.unusedSimpArgs false
set_option linter.defProp false
namespace Go.Abs
open Go.RowKit
def BIG:Nat:=1180591620717411303424
def iter{α R:Type}(body:(α->Option R)->α->Option R):Nat->α->Option R
 | 0,_=>none
 | n+1,a=>body (iter body n) a
theorem X8p{α R:Type}{body:(α->Option R)->α->Option R}{n:Nat}{a:α}{r:R}(h:iter body n a=some r):∃m,n=m+1/\body (iter body m) a=some r:=by
 cases n with
 | zero=>cases h
 | succ m=>exact⟨m,rfl,h⟩
def Q0e{α:Type}[Inhabited α](g:Bool)(x:Option α):Option α:=bif g then x else some default
theorem Q0d{α:Type}[Inhabited α]{g:Bool}{x:Option α}{v:α}(h:Q0e g x=some v):g=true->x=some v:=λa=>by
 subst a
 exact h
theorem Y1f{α:Type}{b:Bool}{x y:Option α}{r:α}(hb:b=true)(h:(bif b then x else y)=some r):x=some r:=by
 subst hb
 exact h
theorem Y1g{α:Type}{b:Bool}{x y:Option α}{r:α}(hb:b=false)(h:(bif b then x else y)=some r):y=some r:=by
 subst hb
 exact h
def sidx(s:List UInt8)(i:Int):Option Int:=if 0<=i then s[i.toNat]?.map λc=>(c.toNat:Int)else none
def Q0n(s:List UInt8)(a b:Int):Option (List UInt8):=if 0<=a/\a<=b/\b<=s.length then some ((s.drop a.toNat).take (b.toNat-a.toNat))else none
def lidx{α:Type}(xs:List α)(i:Int):Option α:=if 0<=i then xs[i.toNat]? else none
def Q3n{α:Type}(xs:List α)(a b:Int):Option (List α):=if 0<=a/\a<=b/\b<=xs.length then some ((xs.drop a.toNat).take (b.toNat-a.toNat))else none
def catO(a b:List UInt8):Option (List UInt8):=if a.length+b.length<=9223372036854775807 then some (a++b)else none
def appO{α:Type}(sz:Nat)(xs ys:List α):Option (List α):=if (xs.length+ys.length) * sz<=140737488355328 then some (xs++ys)else none
theorem Z4e{a b:List UInt8}(h:a.length+b.length<=9223372036854775807):catO a b=some (a++b):=if_pos h
theorem Q3g{α:Type}{sz:Nat}{xs ys:List α}(h:(xs.length+ys.length) * sz<=140737488355328):appO sz xs ys=some (xs++ys):=if_pos h
theorem Q6h{s:List UInt8}{i v:Int}(h:sidx s i=some v):(0<=i)=True/\s[i.toNat]?=some (s.getD i.toNat 0)/\((s.getD i.toNat 0).toNat:Int)=v:=by
 unfold sidx at h
 split at h
 ·rename_i b
  obtain⟨c,a,rfl⟩:=G0k.1 h
  have:s.getD i.toNat 0=c:=by rw[G0y,a];rfl
  rw[this]
  exact⟨eq_true b,a,rfl⟩
 cases h
theorem Q8n{g:Bool}{s:List UInt8}{i v:Int}(h:g=true->sidx s i=some v):(g=true->0<=i)/\(g=true->s[i.toNat]?=some (s.getD i.toNat 0))/\(g=true->((s.getD i.toNat 0).toNat:Int)=v):=
 ⟨λa=>G5d (Q6h (h a)).1,λa=>(Q6h (h a)).2.1,λa=>(Q6h (h a)).2.2⟩
theorem Q0m{α:Type}{xs:List α}{i:Int}{x:α}(h:lidx xs i=some x):(0<=i)=True/\xs[i.toNat]?=some x/\(i.toNat<xs.length)=True:=by
 unfold lidx at h
 split at h
 ·rename_i a
  exact⟨eq_true a,h,eq_true (G0j.1 h).1⟩
 cases h
theorem Q8v{α:Type}{g:Bool}{xs:List α}{i:Int}{x:α}(h:g=true->lidx xs i=some x):(g=true->0<=i)/\(g=true->xs[i.toNat]?=some x)/\(g=true->i.toNat<xs.length):=
 ⟨λa=>G5d (Q0m (h a)).1,λa=>(Q0m (h a)).2.1,λa=>G5d (Q0m (h a)).2.2⟩
theorem Q1l{s t:List UInt8}{a b:Int}(h:Q0n s a b=some t):(0<=a)=True/\(0<=b)=True/\(a.toNat<=b.toNat)=True/\(b.toNat<=s.length)=True/\(s.drop a.toNat).take (b.toNat-a.toNat)=t:=by
 unfold Q0n at h
 split at h
 ·rename_i d
  injection h with h
  exact⟨eq_true d.1,eq_true (by omega),eq_true (by omega),eq_true (by omega),h⟩
 cases h
theorem X0w{g:Bool}{s t:List UInt8}{b d:Int}(h:g=true->Q0n s b d=some t):(g=true->0<=b)/\(g=true->0<=d)/\(g=true->b.toNat<=d.toNat)/\(g=true->d.toNat<=s.length)/\(g=true->(s.drop b.toNat).take (d.toNat-b.toNat)=t):=
 ⟨λa=>G5d (Q1l (h a)).1,λa=>G5d (Q1l (h a)).2.1,λa=>G5d (Q1l (h a)).2.2.1,λa=>G5d (Q1l (h a)).2.2.2.1,λa=>(Q1l (h a)).2.2.2.2⟩
theorem Q4g{α:Type}{s t:List α}{a b:Int}(h:Q3n s a b=some t):(0<=a)=True/\(0<=b)=True/\(a.toNat<=b.toNat)=True/\(b.toNat<=s.length)=True/\t=(s.drop a.toNat).take (b.toNat-a.toNat):=by
 unfold Q3n at h
 split at h
 ·rename_i d
  injection h with h
  exact⟨eq_true d.1,eq_true (by omega),eq_true (by omega),eq_true (by omega),h.symm⟩
 cases h
theorem Z6t{α:Type}{g:Bool}{s t:List α}{b d:Int}(h:g=true->Q3n s b d=some t):(g=true->0<=b)/\(g=true->0<=d)/\(g=true->b.toNat<=d.toNat)/\(g=true->d.toNat<=s.length)/\(g=true->t=(s.drop b.toNat).take (d.toNat-b.toNat)):=
 ⟨λa=>G5d (Q4g (h a)).1,λa=>G5d (Q4g (h a)).2.1,λa=>G5d (Q4g (h a)).2.2.1,λa=>G5d (Q4g (h a)).2.2.2.1,λa=>(Q4g (h a)).2.2.2.2⟩
theorem Z3a{a b v:List UInt8}(h:catO a b=some v):(a.length+b.length<=9223372036854775807)=True/\a++b=v:=by
 unfold catO at h
 split at h
 ·rename_i d
  injection h with h
  exact⟨eq_true d,h⟩
 cases h
theorem K7v{g:Bool}{a b v:List UInt8}(h:g=true->catO a b=some v):(g=true->a.length+b.length<=9223372036854775807)/\(g=true->a++b=v):=
 ⟨λd=>G5d (Z3a (h d)).1,λd=>(Z3a (h d)).2⟩
theorem K0p{α:Type}{sz:Nat}{xs ys v:List α}(h:appO sz xs ys=some v):((xs.length+ys.length) * sz<=140737488355328)=True/\v=xs++ys:=by
 unfold appO at h
 split at h
 ·rename_i a
  injection h with h
  exact⟨eq_true a,h.symm⟩
 cases h
section
variable {E:Env}{O:Orc}{k:Nat}{Q:Exit->St->Prop}
theorem AW.seqJ{α:Type}(S:α->St)(p:α->Prop){x y:Code}{σ:St}(d:∀a,p a->AW E k y Q (S a))(g:AW E k x (Z2e (λσ'=>∃a,p a/\Weak E k σ' (S a)) Q) σ):AW E k (.seq x y) Q σ:=by
 refine AW.seq (g.mono λe σ' b=>?_)
 cases e with
 | normal=>
   obtain⟨a,i,j⟩:=b
   exact AW.weak j (d a i)
 | _=>exact b
theorem AW.seqM(σ':St){x y:Code}{σ:St}(b:AW E k x (Z2e (λσ''=>Weak E k σ'' σ') Q) σ)(d:AW E k y Q σ'):AW E k (.seq x y) Q σ:=by
 refine AW.seq (b.mono λe σ'' a=>?_)
 cases e with
 | normal=>exact AW.weak a d
 | _=>exact a
theorem Weak.norm{m n:Nat}{t:Nat->AV}{L:List (Nat×AV)}{H H':List AObj}(hk:k<=m)(a:Q8x t L)(b:H.take m=H')(d:H'.all (AObj.ltB m)=true)(e:(L.all λp=>p.2.ltB m)=true):Weak E k ⟨t,n,H⟩ ⟨sl L,n,H'⟩:=
 (Wq1 (σ:=⟨t,n,H⟩) (Q6n a)).trans (Weak.cut hk b d e)
theorem Wq0{n:Nat}{t:Nat->AV}{L:List (Nat×AV)}{H:List AObj}(a:Q8x t L):Weak E k ⟨t,n,H⟩ ⟨sl L,n,H⟩:=Wq1 (σ:=⟨t,n,H⟩) (Q6n a)
end
theorem Q7i{α b:Type}{f:α->b}(a:∀x y,f x=f y->x=y):∀ {xs ys:List α},xs.map f=ys.map f->xs=ys
 | [],[],_=>rfl
 | [],_::_,h=>by simp at h
 | _::_,[],h=>by simp at h
 | x::xs,y::ys,h=>by
   simp only[G2i,G4i]at h
   rw[a _ _ h.1,Q7i a h.2]
theorem Q8m{x y:List UInt8}(h:PV.str x=PV.str y):x=y:=by injection h
theorem Q3e{k:IntKind}{x y:Int}(h:PV.int k x=PV.int k y):x=y:=by injection h
theorem Z3b{x y:Bool}(h:PV.bool x=PV.bool y):x=y:=by injection h
section
variable {E:Env}{k:Nat}
theorem Weak.of_eq{σ σ' σ'':St}(h:Weak E k σ σ')(e:σ'=σ''):Weak E k σ σ'':=e▸h
end
theorem Z2y{O:Orc}{H:List AObj}{f:FuncId}{args:List AV}{sel:List Nat}{az:List AV}{Hs:List AObj}{rs:List AV}{H':List AObj}{r:AV}{Hn:List AObj}
 (a:Q6f (Q1t H args++Q1k H (Q1t H args))=sel) (b:Q1c H (idx sel) sel=some Hs) (d:Q1a H (idx sel) args=some az) (e:O.C f az Hs=some (rs,H')) (g:decide (sel.length<=H'.length)=true)
 (i:Q6w (rs.map (AV.mapL (Q6z H.length sel)))=r) (j:Q0r H sel H'=Hn):Q4u O H f args=some (r,Hn):=by
 unfold Q4u
 simp only[a,b,d,e]
 rw[if_pos (G3e g),i,j]
theorem K9g(xs:List (List UInt8)):((xs.map PV.str).all λz=>z.cells.length==1)=true:=by simp[PV.cells]
theorem V1a(k:IntKind)(xs:List Int):((xs.map (PV.int k)).all λz=>z.cells.length==1)=true:=by simp[PV.cells]
theorem K5i(xs:List Bool):((xs.map PV.bool).all λz=>z.cells.length==1)=true:=by simp[PV.cells]
theorem V5r:mp []=[]:=rfl
theorem K0e(cs:List PV):(PV.agg cs).cells=cs:=rfl
theorem K0c(s:List UInt8):(PV.str s).cells=[.str s]:=rfl
theorem K0d(k:IntKind)(n:Int):(PV.int k n).cells=[.int k n]:=rfl
theorem X5g(b:Bool):(PV.bool b).cells=[.bool b]:=rfl
theorem J9d(xs:List PV):(PV.slice xs).cells=[.slice xs]:=rfl
end Go.Abs
namespace Go.Abs
open Go.RowKit Go.Shelf Go.Proofs
section
variable {P:Program}{w:World}
theorem K6u(e:TypeId)(i:TypeInfo)(a:i.size=1)(xs b:List Value)(n m old:Nat)(d:xs.length=n * 1)(g:b.length=m)(j:n+m<=maxLen):
 (w.drew.alloc (.cells (xs.toArray++b.toArray++Builtin.zeroCells (Value.int .u8 0).cells (grownCap w (n+m) old e-(n+m))) e)).ownsRow 0 e 1
   (.slice (some ⟨w.heap.size,0,none⟩) (n+m) (grownCap w (n+m) old e)) (n+m) (xs++b):=by
 have h:=Z2t (w:=w) e i (.int .u8 0) (by rw[a];rfl) xs b n m old (by rw[a];exact d) (by rw[a,G7n];exact g) j
 rw[a]at h
 exact h
theorem J0j(t u l e:TypeId)(i:TypeInfo)(m:P.underlying t=some (.slice e))(o:P.underlying u=some .string)(p:P.info? e=some i)(A:i.zero=some (.int .u8 0))(d:i.size=1)(C:i.bytes=1)
 (v:Value) (n:Nat) (xs:List Value) (y:w.ownsRow 0 e 1 v n xs) (s:ByteArray) (z:n+s.size<=maxLen) (X:n+s.size<=140737488355328):
 ∃v' w',(Builtin.append_ #[t,u] l #[v,.string s]).run P w=.ok v' w'/\w'.ownsRow 0 e 1 v' (n+s.size) (xs++Lib.strCells s)/\Grew w w' v v':=by
 have q:xs.length=n * 1:=y.1
 have Y:n+s.size<=9223372036854775807:=by unfold maxLen at z;omega
 have D:(xs++Lib.strCells s).length=(n+s.size) * 1:=by rw[G0g,q,G5g,G7n,G7n]
 rcases y.2 with⟨rfl,rfl⟩|⟨g,cap,r,rfl,K,F,aa,L,M,N⟩
 ·have S:xs=[]:=G0u (by simpa using q)
  subst S
  by_cases x:s.size=0
  ·have T:Lib.strCells s=[]:=G0u (by rw[G5g];exact x)
   refine⟨.slice none 0 0,w,?_,by rw[x,T];exact G5b w 0 e 1,⟨rfl,rfl,rfl,G0r _,.inr ⟨rfl,rfl,λ_ _=>rfl⟩⟩⟩
   have H:=Lib.run_firstCells_string (P:=P) w 1 s
   rw[x]at H
   simp[Builtin.append_,G1c m,G1c o,sizeOf,typeInfo,p,d,Builtin.lenOf,x,H]
  have a:=run_append_nil_string (P:=P) w t u l e i (.int .u8 0) m o p A s (by omega) (by omega) (by rw[C];omega)
  have I:=K6u (w:=w) e i d [] (Lib.strCells s) 0 s.size 0 (by simp) (G5g s) z
  simp only[G3h,G0t,G7w]at I |-
  have U:(s.data.map λb=>Value.int .u8 b.toNat)=(Lib.strCells s).toArray:=by
   apply G6h
   simp[Lib.strCells]
  rw[U]at a
  exact⟨_,_,a,I,Z0f _ _ _ _ _⟩
 by_cases J:n+s.size<=cap
 ·have ac:r.size=cap:=by simpa using M
  have a:=Lib.run_append_room_string (P:=P) w t u l e i m o p d g n cap r F s J (by omega)
  refine⟨_,_,a,⟨D,.inr ⟨g,cap,_,rfl,K,G8g w g r _ e _ F,J,L,?_,?_⟩⟩,⟨rfl,rfl,rfl,by simp,.inr ⟨rfl,by simp,λb hb=>G8m w g b _ (λe=>hb (by simp[Value.ownBlock,e]))⟩⟩⟩
  ·simp only[G5q,G0g,G1v,G1w,G2h,G5g]
   omega
  have V:r.toList.take n=xs:=by simpa using N
  rw[V,<-D]
  exact G7b
 have W:∀ (j:Nat) u,xs[j]?=some u->w.cell? ((⟨g,0,none⟩:Addr).add j)=some u:=y.cells (g:=g) rfl
 have a:=G7t (P:=P) w t u l e i (.int .u8 0) m o p A ⟨g,0,none⟩ n cap xs (by rw[d];exact q) W s (by omega) (by omega) (by rw[C];exact G7z (by omega) (by omega))
 exact⟨_,_,a,K6u e i d xs (Lib.strCells s) n s.size cap q (G5g s) z,Z0f _ _ _ _ _⟩
theorem Z3i{ops:Array Oper}{rest:List Oper}{o:Oper}{a:Act}{Q:Exit->Act->World->Prop}(b:o.guard=none)(sl x:Operand)(t u:TypeId)
 (d:o.op=.call { callee:=.builtin .append,args:=#[sl,x],argTypes:=#[t,u] }) (e:TypeId) (i:TypeInfo) (g:P.underlying t=some (.slice e)) (j:P.underlying u=some .string) (l:P.info? e=some i) (m:i.zero=some (.int .u8 0))
 (p:i.size=1) (q:i.bytes=1) (v:Value) (n:Nat) (xs:List Value) (hs:a.eval sl=v) (r:w.ownsRow 0 e 1 v n xs) (s:ByteArray) (y:a.eval x=.string s)
 (z:n+s.size<=maxLen) (A:n+s.size<=140737488355328)
 (h:∀v' w',w'.ownsRow 0 e 1 v' (n+s.size) (xs++Lib.strCells s)->Grew w w' v v'->wpList P ops Q rest (a.put o.dst v') w'):wpList P ops Q (o::rest) a w:=by
 refine wpList_plain b λK C=>?_
 obtain⟨v',w',D,F,H⟩:=J0j (P:=P) (w:=w) t u o.type e i g j l m p q v n xs r s z A
 unfold Oper.wp execOp
 simp only[d,resolve,invoke,builtin,Sem.run_bind,G5l,G1b,List.map_toArray,G2i,G3q,hs,y,D]
 exact C _ _ (h v' w' F H)
end
section
variable {P:Program}{ρ:Ren}
theorem Grew.old{w w':World}{v v':Value}(h:Grew w w' v v'){b:Nat}(hb:b<w.heap.size)(a:v.ownBlock≠some b):w'.heap[b]?=w.heap[b]?:=by
 rcases h.way with⟨_,_,k⟩|⟨_,_,k⟩
 ·exact k b hb
 exact k b (λe=>a e.symm)
theorem Grew.blk{w w':World}{v v':Value}(h:Grew w w' v v'){b:Nat}(hb:v'.ownBlock=some b):v.ownBlock=some b\/b=w.heap.size:=by
 rcases h.way with⟨k,_,_⟩|⟨k,_,_⟩
 ·rw[k]at hb
  injection hb with hb
  exact .inr hb.symm
 rw[k]at hb
 exact .inl hb
structure Wrote(T e:TypeId)(b:Nat)(v:Value)(bs:List Value)(w w':World):Prop where
 os:w'.os=w.os
 tape:w'.tape=w.tape
 output:w'.output=w.output
 size:w.heap.size<=w'.heap.size
 old:∀k,k<w.heap.size->k≠b->v.ownBlock≠some k->w'.heap[k]?=w.heap[k]?
 now:∃v',w'.heap[b]?=some (.cells #[.pointer (some ⟨b,0,none⟩),v'] T (0,0))/\w'.ownsRow 0 e 1 v' bs.length bs/\v'.ownBlock≠some b/\∀k,v'.ownBlock=some k->(v.ownBlock=some k\/w.heap.size<=k)/\k<w'.heap.size
theorem Q2r(w:World)(b j k:Nat)(v:Value)(h:k≠b):(w.setCell ⟨b,j,none⟩ v).heap[k]?=w.heap[k]?:=Below.heap_setCell _ _ _ _ (λe=>h e)
theorem X6z{w:World}{b:Nat}{p v q:Value}{T:TypeId}(h:w.heap[b]?=some (.cells #[p,v] T (0,0))):(w.setCell ⟨b,0,none⟩ q).heap[b]?=some (.cells #[q,v] T (0,0)):=by
 simp[World.setCell,G4g,h]
theorem J5c{w:World}{b:Nat}{p v q:Value}{T:TypeId}(h:w.heap[b]?=some (.cells #[p,v] T (0,0))):(w.setCell ⟨b,1,none⟩ q).heap[b]?=some (.cells #[p,q] T (0,0)):=by
 simp[World.setCell,G4g,h]
theorem Q4l(w:World)(a:Addr)(v:Value):(w.setCell a v).heap.size=w.heap.size:=by simp[World.setCell]
structure Bld(T e:TypeId)(b:Nat)(p v:Value)(bs:List Value)(w:World):Prop where
 addr:p=.pointer none\/p=.pointer (some ⟨b,0,none⟩)
 here:w.heap[b]?=some (.cells #[p,v] T (0,0))
 owns:w.ownsRow 0 e 1 v bs.length bs
 apart:v.ownBlock≠some b
theorem Bld.lt{T e:TypeId}{b:Nat}{p v:Value}{bs:List Value}{w:World}(h:Bld T e b p v bs w):b<w.heap.size:=(G1r.1 h.here).1
theorem Z8u(L:Lays.n240 P ρ)(X:Builder.X72 P ρ){b:Nat}{p v:Value}{bs:List Value}{w:World}(h:Bld (ρ.t 72) (ρ.t 5) b p v bs w):
 Calls P (ρ.f 240) #[.pointer (some ⟨b,0,none⟩)] w λe w'=>e=.returned (.tuple #[])/\Bld (ρ.t 72) (ρ.t 5) b (.pointer (some ⟨b,0,none⟩)) v bs w'/\w'.os=w.os/\w'.tape=w.tape/\w'.output=w.output/\w'.heap.size=w.heap.size/\∀k,k≠b->w'.heap[k]?=w.heap[k]?:=by
 have a:w.cell? ⟨b,0,none⟩=some p:=by rw[G3s h.here];rfl
 rcases h.addr with rfl|rfl
 ·refine(Any.Builder_copyCheck_fresh L X b w a (by simp[World.shape?,h.here]) (G7x h.here 0)).mono ?_
  rintro e w' ⟨rfl,rfl⟩
  refine⟨rfl,⟨.inr rfl,X6z h.here,Q1s h.owns λk hk=>Q2r _ _ _ _ _ (λe=>h.apart (by rw[hk,e])),h.apart⟩,rfl,rfl,rfl,Q4l _ _ _,λk hk=>Q2r _ _ _ _ _ hk⟩
 refine(Any.Builder_copyCheck_used L X b w a).mono ?_
 rintro e w' ⟨rfl,rfl⟩
 exact⟨rfl,h,rfl,rfl,rfl,rfl,λ_ _=>rfl⟩
set_option maxHeartbeats 2000000 in
set_option maxRecDepth 100000 in
theorem J2k(L:Lays.n166 P ρ)(X:Builder.Extra P ρ){b:Nat}{p v:Value}{bs:List Value}{w:World}(s:ByteArray)(h:Bld (ρ.t 72) (ρ.t 5) b p v bs w)(U:bs.length+s.size<=140737488355328):
 Calls P (ρ.f 166) #[.pointer (some ⟨b,0,none⟩),.string s] w λe w'=>e=.returned (.tuple #[.int .i64 s.size,.nilIface])/\Wrote (ρ.t 72) (ρ.t 5) b v (bs++Lib.strCells s) w w':=by
 obtain⟨x,y,z,A,C⟩:=info_parts X.infoByte
 have mixed:=L.mixed
 have V:=L.t72;have W:=L.a72;have Y:=L.z72;have aa:=L.v72;have ac:=G1c L.t72
 have ad:=L.t70;have ae:=L.a70;have af:=L.z70;have ag:=L.v70;have ah:=G1c L.t70
 have ak:=L.t37;have al:=L.a37;have am:=L.z37;have aq:=L.v37;have ar:=G1c L.t37
 have t3:=L.t3;have a3:=L.a3;have z3:=L.z3;have v3:=L.v3;have u3:=G1c L.t3
 have t9:=L.t9;have a9:=L.a9;have z9:=L.z9;have v9:=L.v9;have u9:=G1c L.t9
 have t4:=L.t4;have a4:=L.a4;have z4:=L.z4;have v4:=L.v4;have u4:=G1c L.t4
 have aN:=L.t164;have aO:=L.a164;have aP:=L.z164;have aQ:=L.v164;have aS:=G1c L.t164
 have t5:=X.t5;have a5:=X.a5;have z5:=X.z5;have v5:=X.v5;have u5:=G1c X.t5
 have a0:∀args w,(callFunc (ρ.f 240) args).run P w=.ok (.enter (ρ.f 240) args) w:=enters_of L.f240 (by kernel_rfl) rfl
 go_enter L.f166,Body.n166_ntmps ρ
 go_wp2_with (go_at_fn (ρ.f 240);refine(Z8u { L with } X.toX72 h).mono ?_)
 rintro e w1 ⟨rfl,l,D,F,H,hs1,I⟩
 have n:=l.here
 have J:=l.owns
 have K:=l.apart
 have c0:w1.cell? ⟨b,0,none⟩=some (.pointer (some ⟨b,0,none⟩)):=by rw[G3s n];rfl
 have c1:w1.cell? ⟨b,1,none⟩=some v:=by rw[G3s n];rfl
 go_wp2_with (at_builtin;refine Z3i rfl _ _ (ρ.t 37) (ρ.t 9) rfl (ρ.t 5) x L.t37 L.t9 y z A C _ _ _ rfl J s rfl ?c3 ?c4 ?_)
 case c3=>unfold maxLen;omega
 case c4=>omega
 intro v' a m d
 have M:b<w1.heap.size:=l.lt
 have j:a.heap[b]?=some (.cells #[.pointer (some ⟨b,0,none⟩),v] (ρ.t 72) (0,0)):=by
  rw[d.old M K]
  exact n
 have d0:a.cell? ⟨b,0,none⟩=some (.pointer (some ⟨b,0,none⟩)):=by rw[G3s j];rfl
 have d1:a.cell? ⟨b,1,none⟩=some v:=by rw[G3s j];rfl
 have f1:a.frozen? ⟨b,1,none⟩=false:=G7x j 1
 obtain⟨o,q,cap,rfl⟩:∃o q cap,v'=.slice o q cap:=by
  rcases m.2 with⟨i,_⟩|⟨g,cap,N,i,_⟩
  ·exact⟨_,_,_,i⟩
  exact⟨_,_,_,i⟩
 have r:=Lib.ownBlock_ne m j X.neB5
 have a8:=d.size
 go_wp2
 go_ret2
 refine⟨rfl,d.os.trans D,d.tape.trans F,d.output.trans H,?_,λk hk t S=>?_,?_⟩
 ·show w.heap.size<=(a.setCell ⟨b,1,none⟩ _).heap.size
  rw[Q4l]
  omega
 ·show(a.setCell ⟨b,1,none⟩ _).heap[k]?=_
  rw[Q2r _ _ _ _ _ t,d.old (by omega) S,I k t]
 refine⟨_,J5c j,?_,r,λk hk=>⟨?_,?_⟩⟩
 ·have:(bs++Lib.strCells s).length=bs.length+s.size:=by rw[G0g,G5g]
  rw[this]
  exact Q1s m λk hk=>Q2r _ _ _ _ _ (λe=>r (by rw[hk,e]))
 ·rcases d.blk hk with u|u
  ·exact .inl u
  exact .inr (by omega)
 show k<(a.setCell ⟨b,1,none⟩ _).heap.size
 rw[Q4l]
 rcases m.2 with⟨i,_⟩|⟨g,cap,N,i,_,T,_⟩
 ·rw[i]at hk
  cases hk
 rw[i]at hk
 injection hk with hk
 subst hk
 exact(G1r.1 T).1
end
section
variable {P:Program}{ρ:Ren}
structure ReadB(v:Value)(w w':World):Prop where
 os:w'.os=w.os
 tape:w'.tape=w.tape
 output:w'.output=w.output
 size:w.heap.size<=w'.heap.size
 old:∀k,k<w.heap.size->v.ownBlock≠some k->w'.heap[k]?=w.heap[k]?
theorem ReadB.of_below{v:Value}{w w':World}(h:Below w.heap.size w w'):ReadB v w w':=⟨h.os,h.tape,h.output,h.size,λk hk _=>h.block k hk⟩
set_option maxHeartbeats 2000000 in
set_option maxRecDepth 100000 in
theorem X3t(L:Lays.n169 P ρ)(X:Builder.Extra P ρ){b:Nat}{p v:Value}{l:List UInt8}{w:World}(h:Bld (ρ.t 72) (ρ.t 5) b p v (Lib.byteCells l) w)(i:l≠[]):
 Calls P (ρ.f 169) #[.pointer (some ⟨b,0,none⟩)] w λe w'=>e=.returned (.string ⟨l.toArray⟩)/\ReadB v w w':=by
 have m:=h.here
 have d:=h.owns
 have n:l.length≠0:=by simpa using i
 rw[G6j]at d
 obtain⟨g,cap,a,rfl,F,o,H,q,I,J⟩:∃g cap a,v=.slice (some ⟨g,0,none⟩) l.length cap/\0<=g/\w.heap[g]?=some (.cells a (ρ.t 5) (0,0))/\l.length<=cap/\cap<=maxLen/\a.size=cap * 1/\a.toList.take (l.length * 1)=Lib.byteCells l:=by
  rcases d.2 with⟨_,t⟩|⟨g,cap,a,u,r⟩
  ·exact absurd t n
  exact⟨g,cap,a,u,r⟩
 have K:w.drew.cell? ⟨b,1,none⟩=some (.slice (some ⟨g,0,none⟩) l.length cap):=by
  have:w.drew.heap[b]?=some (.cells #[p,.slice (some ⟨g,0,none⟩) l.length cap] (ρ.t 72) (0,0)):=m
  rw[G3s this];rfl
 have M:(Builtin.unsafeSliceData_ #[(ρ.t 37)] (ρ.t 127) #[.slice (some ⟨g,0,none⟩) l.length cap]).run P w.drew=.ok (.pointer (some ⟨g,0,none⟩)) w.drew:=
  G6c _ _ _ _ _ _ (by omega)
 have N:(Builtin.unsafeString_ #[(ρ.t 127),(ρ.t 3)] (ρ.t 9) #[.pointer (some ⟨g,0,none⟩),.int .i64 l.length]).run P w.drew=.ok (.string ⟨l.toArray⟩) (w.drew.freeze ⟨g,0,none⟩ l.length):=by
  refine G8d w.drew (ρ.t 127) (ρ.t 3) (ρ.t 9) (ρ.t 5) L.t127 X.cellsByte g a.size (by have y:w.drew.heap[g]?=some (.cells a (ρ.t 5) (0,0)):=o;simp[World.shape?,y]) l i (by omega) (by unfold maxLen at q;omega) ?_
  intro j x z
  have:=d.cells (g:=g) rfl j (.int .u8 x.toNat) (by simp[Lib.byteCells,z])
  exact this
 have A:ReadB (.slice (some ⟨g,0,none⟩) l.length cap) w (w.drew.freeze ⟨g,0,none⟩ l.length):=by
  have hb:=Lib.below_freeze (Below.drew (Below.refl 0 w)) (p:=⟨g,0,none⟩) (G1t _) l.length
  refine⟨hb.os,hb.tape,hb.output,hb.size,λk hk C=>?_⟩
  ·have D:g≠k:=λe=>C (by rw[<-e];rfl)
   show(w.drew.freeze ⟨g,0,none⟩ l.length).heap[k]?=w.drew.heap[k]?
   unfold World.freeze
   split
   ·rfl
   simp only[G4g]
   rw[if_neg D]
 have mixed:=L.mixed
 have S:=L.t72;have T:=L.a72;have U:=L.z72;have V:=L.v72;have W:=G1c L.t72
 have Y:=L.t70;have aa:=L.a70;have ac:=L.z70;have ad:=L.v70;have ae:=G1c L.t70
 have af:=L.t37;have ag:=L.a37;have ah:=L.z37;have ak:=L.v37;have al:=G1c L.t37
 have am:=L.t127;have ao:=L.a127;have aq:=L.z127;have ar:=L.v127;have au:=G1c L.t127
 have t3:=L.t3;have a3:=L.a3;have z3:=L.z3;have v3:=L.v3;have u3:=G1c L.t3
 have t9:=L.t9;have a9:=L.a9;have z9:=L.z9;have v9:=L.v9;have u9:=G1c L.t9
 have t5:=X.t5;have a5:=X.a5;have z5:=X.z5;have v5:=X.v5;have u5:=G1c X.t5
 go_enter L.f169,Body.n169_ntmps ρ
 go_wp2
 go_region_o
 all_goals(go_wp2;go_ret;exact⟨rfl,A⟩)
theorem K3e(L:Lays.n169 P ρ)(X:Builder.Extra P ρ){b:Nat}{p v:Value}{l:List UInt8}{w:World}(h:Bld (ρ.t 72) (ρ.t 5) b p v (Lib.byteCells l) w):
 Calls P (ρ.f 169) #[.pointer (some ⟨b,0,none⟩)] w λe w'=>e=.returned (.string ⟨l.toArray⟩)/\ReadB v w w':=by
 cases l with
 | cons x r=>exact X3t L X h (by simp)
 | nil=>
   have d:=h.here
   rcases h.owns.2 with⟨rfl,_⟩|⟨g,cap,j,rfl,n,m,_,_,_,_⟩
   ·exact(Any.Builder_String_nil L X w.heap.size b p w d).mono λe w' ⟨a,hb⟩=>⟨a,.of_below hb⟩
   by_cases i:cap=0
   ·subst i
    exact(Any.Builder_String_noroom L X w.heap.size b g p j w (G0r _) d m).mono λe w' ⟨a,hb⟩=>⟨a,.of_below hb⟩
   exact(Any.Builder_String_room L X w.heap.size b g cap p w i d).mono λe w' ⟨a,hb⟩=>⟨a,.of_below hb⟩
end
section
variable {E:Env}{f:FuncId}
theorem J9g{γ:List Gh}{Φ:Nat->Nat->Prop}{w:World}{s:List UInt8}(a:OInv E γ [.bld s] Φ w){c:Value}(h:ARel γ [.bld s] Φ w c (.ref 0 0)):
 ∃g b p v,γ=[g]/\c=.pointer (some ⟨b,0,none⟩)/\g.v=c/\g.own=b::v.ownBlock.toList/\Bld (E.bT.getD 0) E.be b p v (Lib.byteCells s) w/\(∀k,¬ Φ b k)/\∀c,v.ownBlock=some c->∀k,¬ Φ c k:=by
 have e:γ.length=1:=a.len
 match γ,e with
 | [g],_=>
   obtain⟨b,p,v,d,i,j,m,n,o,q,r⟩:=a.obj 0 _ g rfl rfl
   cases h with
   | ref b' l off t=>
     have:g.v=.pointer (some ⟨b',0,none⟩):=by simpa[gv]using t
     rw[d]at this
     injection this with this
     injection this with this
     injection this with this
     subst this
     exact⟨g,b,p,v,rfl,rfl,d,i,⟨j,m,by rw[G6j];exact n,o⟩,q,r⟩
theorem Good.writeString(I:∀ (b:Nat) (p v:Value) (bs:List Value) (w:World) (s:ByteArray),Bld (E.bT.getD 0) E.be b p v bs w->bs.length+s.size<=140737488355328->
 Calls E.P f #[.pointer (some ⟨b,0,none⟩),.string s] w λe w'=>e=.returned (.tuple #[.int .i64 s.size,.nilIface])/\Wrote (E.bT.getD 0) E.be b v (bs++Lib.strCells s) w w')
 (b s:List UInt8) (h:b.length+s.length<=140737488355328):Good E f [.ref 0 0,.pv (.str s)] [.bld b] [.pv (.int .i64 s.length),.pv .nil] [.bld (b++s)]:=by
 intro w Φ γ J x K a
 match J,K with
 | [c0,L],_=>
   obtain⟨g,blk,p,v,rfl,rfl,M,N,y,z,A⟩:=J9g x (a 0 c0 _ rfl rfl)
   have m:=Q1z (Q0p (a 1 L _ rfl rfl))
   subst m
   have S:(⟨⟨s⟩⟩:ByteArray).size=s.length:=rfl
   refine(I blk p v _ w ⟨⟨s⟩⟩ y (by rw[G6j,S];exact h)).mono λe w' ⟨T,d⟩=>?_
   obtain⟨v',U,V,W,C⟩:=d.now
   have q:∀k,k∈g.own↔k=blk\/v.ownBlock=some k:=λk=>by rw[N];simp
   have X:∀k,k<w.heap.size->k∉g.own->w'.heap[k]?=w.heap[k]?:=λk hk D=>d.old k hk (λe=>D ((q k).2 (.inl e))) (λe=>D ((q k).2 (.inr e)))
   have Y:∀k,k∈g.own->∀j,¬ Φ k j:=λk hk j=>by
    rcases(q k).1 hk with rfl|h
    ·exact z j
    exact A k h j
   have aa:=x.setObj (o':=.bld (b++s)) (g':=⟨g.v,blk::v'.ownBlock.toList⟩) (l:=0) (g:=g) (o:=.bld b) rfl rfl X d.size d.os d.tape d.output (λ_ _ h=>h) (λ_ _ h _ _=>h) (λk j h=>G1m (x.phi k j h) d.size)
    (λk j h hk=>absurd h (Y k hk j)) (λk hk=>by
      simp only[G1j,Option.mem_toList]at hk
      rcases hk with rfl|hk
      ·exact⟨.inl ((q k).2 (.inl rfl)),G1m y.lt d.size⟩
      obtain⟨m,h2⟩:=C k hk
      exact⟨m.elim (λh=>.inl ((q k).2 (.inr h))) .inr,h2⟩) (.inl rfl) (λe sz n h=>by cases h)
    (λhE=>by
      refine⟨blk,.pointer (some ⟨blk,0,none⟩),v',M,rfl,.inr rfl,U,?_,W,z,λk hk j F=>?_⟩
      ·have H:(b++s).map (λu=>Value.int .u8 u.toNat)=Lib.byteCells b++Lib.strCells ⟨⟨s⟩⟩:=by
        rw[Lib.strCells_eq,<-Lib.byteCells_append]
        rfl
       have e2:(Lib.byteCells b++Lib.strCells ⟨⟨s⟩⟩).length=(b++s).length:=by rw[<-H,G1h]
       rw[H,<-e2]
       exact V
      rcases(C k hk).1 with m|m
      ·exact A k m j F
      have:=x.phi k j F
      omega)
   refine⟨[.int .i64 s.length,.nilIface],_,Φ,T,aa,rfl,λi u r t a=>?_⟩
   match i,t,a with
   | 0,t,a=>cases t;cases a;exact .pv (.int _ _)
   | 1,t,a=>cases t;cases a;exact .pv .nil
theorem Good.string(x:∀ (b:Nat) (p v:Value) (l:List UInt8) (w:World),Bld (E.bT.getD 0) E.be b p v (Lib.byteCells l) w->
 Calls E.P f #[.pointer (some ⟨b,0,none⟩)] w λe w'=>e=.returned (.string ⟨l.toArray⟩)/\ReadB v w w')
 (b:List UInt8):Good E f [.ref 0 0] [.bld b] [.pv (.str b)] [.gone]:=by
 intro w Φ γ y m z d
 match y,z with
 | [c0],_=>
   obtain⟨g,blk,p,v,rfl,rfl,L,A,C,D,F⟩:=J9g m (d 0 c0 _ rfl rfl)
   refine(x blk p v b w C).mono λe w' ⟨H,a⟩=>?_
   have t:∀k,k∈g.own↔k=blk\/v.ownBlock=some k:=λk=>by rw[A];simp
   have I:∀k,k∈g.own->∀j,¬ Φ k j:=λk hk j=>by
    rcases(t k).1 hk with rfl|h
    ·exact D j
    exact F k h j
   have J:=m.setObj (o':=.gone) (g':=g) (l:=0) (g:=g) (o:=.bld b) rfl rfl (λk hk K=>a.old k hk (λe=>K ((t k).2 (.inr e)))) a.size a.os a.tape a.output (λ_ _ h=>h) (λ_ _ h _ _=>h) (λk j h=>G1m (m.phi k j h) a.size)
    (λk j h hk=>absurd h (I k hk j)) (λk hk=>⟨.inl hk,G1m (m.own 0 g rfl k hk).2 a.size⟩) (.inl rfl) (λe sz n h=>by cases h) (λ_=>trivial)
   refine⟨[.string ⟨⟨b⟩⟩],_,Φ,H,J,rfl,λi u r q d=>?_⟩
   match i,q,d with
   | 0,q,d=>cases q;cases d;exact .pv (.str _)
end
end Go.Abs
namespace Go.Abs
def Q3p{α R:Type}(G:α->Int->Option R->Option R)(fin:Option R):List α->Int->Option R
 | [],_=>fin
 | x::xs,i=>G x i (Q3p G fin xs (i+1))
def Q3o{α S R:Type}(G:α->Int->(S->Option R)->S->Option R)(fin:S->Option R):List α->Int->S->Option R
 | [],_,s=>fin s
 | x::xs,i,s=>G x i (Q3o G fin xs (i+1)) s
theorem Q0j{n:Int}(a:-9223372036854775808<=n)(b:n<=9223372036854775807):IntKind.wrap .i64 n=n:=J7i a b
theorem Z2n{α:Type}(xs:List α)(i:Nat):lidx xs (i:Int)=xs[i]?:=by
 unfold lidx
 rw[if_pos (Int.natCast_nonneg i),G2l]
theorem Q6y{α:Type}{xs:List α}{i:Nat}(h:i<xs.length):lidx xs (i:Int)=some xs[i]:=by
 rw[Z2n,G0f h]
theorem Z2o{α:Type}(x:α)(xs:List α):lidx (x::xs) 0=some x:=rfl
theorem X0z(s:List UInt8)(i:Nat):sidx s (i:Int)=s[i]?.map λc=>(c.toNat:Int):=by
 unfold sidx
 rw[if_pos (Int.natCast_nonneg i),G2l]
theorem Q4s{s:List UInt8}{i:Nat}(h:i<s.length):sidx s (i:Int)=some (s[i].toNat:Int):=by
 rw[X0z,G0f h]
 rfl
theorem Q1v{α:Type}{l:List α}{j:Nat}(h:j<l.length):l.drop j=l[j]::l.drop (j+1):=G4p h
theorem Q1e{α R:Type}{body:(Int->Option R)->Int->Option R}(l:List α)(G:α->Int->Option R->Option R)(fin:Option R)
 (hb:∀a i,body a i=bif decide (i<(l.length:Int))then(lidx l i).bind (λx=>G x i (a (IntKind.wrap .i64 (i+1))))else fin) (e:l.length<=9223372036854775807):
 iter body BIG 0=Q3p G fin l 0:=by
 have h:∀ (n j:Nat),j<=l.length->l.length-j<n->iter body n (j:Int)=Q3p G fin (l.drop j) j:=by
  intro n
  induction n with
  | zero=>intro j _ h;omega
  | succ n d=>
    intro j g m
    show body (iter body n) j=_
    rw[hb]
    by_cases b:j<l.length
    ·rw[G0h (by omega),Q6y b,Q1v b]
     simp only[G1a,G0a,Q3p]
     rw[Q0j (by omega) (by omega)]
     congr 1
     exact d (j+1) (by omega) (by omega)
    rw[G0b (by omega),G2f (by omega)]
    rfl
 exact h BIG 0 (G1t _) (by unfold BIG;omega)
theorem Z1k{α S R:Type}{body:(Int×S->Option R)->Int×S->Option R}(l:List α)(G:α->Int->(S->Option R)->S->Option R)(fin:S->Option R)
 (hb:∀b i s,body b (i,s)=bif decide (i<(l.length:Int))then(lidx l i).bind (λx=>G x i (λa=>b (IntKind.wrap .i64 (i+1),a)) s)else fin s) (g:l.length<=9223372036854775807) (s:S):
 iter body BIG (0,s)=Q3o G fin l 0 s:=by
 have h:∀ (n j:Nat) (s:S),j<=l.length->l.length-j<n->iter body n ((j:Int),s)=Q3o G fin (l.drop j) j s:=by
  intro n
  induction n with
  | zero=>intro j _ _ h;omega
  | succ n e=>
    intro j s m o
    show body (iter body n) (j,s)=_
    rw[hb]
    by_cases d:j<l.length
    ·rw[G0h (by omega),Q6y d,Q1v d]
     simp only[G1a,G0a,Q3o]
     rw[Q0j (by omega) (by omega)]
     congr 1
     funext a
     exact e (j+1) a (by omega) (by omega)
    rw[G0b (by omega),G2f (by omega)]
    rfl
 exact h BIG 0 s (G1t _) (by unfold BIG;omega)
theorem Q1i{α S R:Type}{body:(S×Int->Option R)->S×Int->Option R}(l:List α)(G:α->Int->(S->Option R)->S->Option R)(fin:S->Option R)
 (hb:∀b i s,body b (s,i)=bif decide (i<(l.length:Int))then(lidx l i).bind (λx=>G x i (λa=>b (a,IntKind.wrap .i64 (i+1))) s)else fin s) (g:l.length<=9223372036854775807) (s:S):
 iter body BIG (s,0)=Q3o G fin l 0 s:=by
 have h:∀ (n j:Nat) (s:S),j<=l.length->l.length-j<n->iter body n (s,(j:Int))=Q3o G fin (l.drop j) j s:=by
  intro n
  induction n with
  | zero=>intro j _ _ h;omega
  | succ n e=>
    intro j s m o
    show body (iter body n) (s,j)=_
    rw[hb]
    by_cases d:j<l.length
    ·rw[G0h (by omega),Q6y d,Q1v d]
     simp only[G1a,G0a,Q3o]
     rw[Q0j (by omega) (by omega)]
     congr 1
     funext a
     exact e (j+1) a (by omega) (by omega)
    rw[G0b (by omega),G2f (by omega)]
    rfl
 exact h BIG 0 s (G1t _) (by unfold BIG;omega)
def B(c:UInt8):Int:=(c.toNat:Int)
theorem Z1l{R:Type}{body:(Int->Option R)->Int->Option R}(s:List UInt8)(G:Int->Int->Option R->Option R)(fin:Option R)
 (hb:∀a i,body a i=bif decide (i<(s.length:Int))then(sidx s i).bind (λx=>G x i (a (IntKind.wrap .i64 (i+1))))else fin) (e:s.length<=9223372036854775807):
 iter body BIG 0=Q3p G fin (s.map B) 0:=by
 have h:∀ (n j:Nat),j<=s.length->s.length-j<n->iter body n (j:Int)=Q3p G fin ((s.drop j).map B) j:=by
  intro n
  induction n with
  | zero=>intro j _ h;omega
  | succ n d=>
    intro j g l
    show body (iter body n) j=_
    rw[hb]
    by_cases b:j<s.length
    ·rw[G0h (by omega),Q4s b,Q1v b]
     simp only[G1a,G0a,Q3p,G2i]
     rw[Q0j (by omega) (by omega)]
     unfold B
     congr 1
     exact d (j+1) (by omega) (by omega)
    rw[G0b (by omega),G2f (by omega)]
    rfl
 exact h BIG 0 (G1t _) (by unfold BIG;omega)
theorem Q4v(a b:UInt8):decide ((a.toNat:Int)=(b.toNat:Int))=decide (a=b):=by
 rw[G6d,G0l,G0l,Int.ofNat_inj]
 exact⟨λh=>G8q.1 h,λh=>by rw[h]⟩
theorem Q0a{α:Type}(a b:α):(bif false then a else b)=b:=rfl
theorem Q0b{α:Type}(a b:α):(bif true then a else b)=a:=rfl
theorem X2f{α:Type}{f:α->PV}{W:α->Prop}:∀ {xs:List PV},(∀x∈xs,∃y,x=f y/\W y)->∃ys:List α,xs=ys.map f/\∀y∈ys,W y
 | [],_=>⟨[],rfl,λy b=>by cases b⟩
 | x::xs,h=>by
   obtain⟨y,b,d⟩:=h x (by simp)
   obtain⟨ys,e,g⟩:=X2f (xs:=xs) λz a=>h z (by simp[a])
   refine⟨y::ys,by rw[b,e];rfl,λz a=>?_⟩
   rcases G1j.1 a with rfl|a
   ·exact d
   exact g z a
def inK(k:IntKind)(n:Int):Prop:=(Lit.int k n).wf=true
end Go.Abs
