import Derived.Test.YtljahlbklgnfhaaGreatDoorA22
import Derived.ProofKit
import Derived.Deep.Slices
import Derived.LaidMore
import Derived.Lay
import Derived.Carry
import Derived.Below
set_option linter.unusedVariables false
set_option linter.unusedSimpArgs false
set_option linter.defProp false
namespace Go.Abs
open Go.RowKit
def sl:List (Nat×AV)->Nat->AV
 | [],_=>.any
 | (j,v)::r,i=>if i=j then v else sl r i
theorem K5x(i:Nat):sl [] i=.any:=rfl
theorem K1r(j:Nat)(v:AV)(r:List (Nat×AV))(i:Nat):sl ((j,v)::r) i=if i=j then v else sl r i:=rfl
theorem K5p(r:List (Nat×AV))(i:Nat)(v:AV):upd (sl r) i v=sl ((i,v)::r):=rfl
def enum:Nat->List AV->List (Nat×AV)
 | _,[]=>[]
 | n,a::r=>(n,a)::enum (n+1) r
theorem X1e:∀ (args:List AV) (n i:Nat),sl (enum n args) (n+i)=args.getD i .any
 | [],n,i=>by simp[enum,sl]
 | a::r,n,0=>by simp[enum,sl]
 | a::r,n,i+1=>by
   have h:=X1e r (n+1) i
   simp only[enum,sl]
   rw[if_neg (by omega)]
   simpa[G6n,Nat.add_left_comm,G3b]using h
theorem Z6f(args:List AV):Z3p args=sl (enum 0 args):=by
 funext i
 have h:=X1e args 0 i
 simpa[Z3p]using h.symm
def Q8l(t:Nat->AV):List (Nat×AV)->Prop
 | []=>True
 | (j,v)::r=>t j=v/\Q8l t r
theorem X2s(t:Nat->AV):Q8l t []=True:=rfl
theorem J9m(t:Nat->AV)(j:Nat)(v:AV)(r:List (Nat×AV)):Q8l t ((j,v)::r)=(t j=v/\Q8l t r):=rfl
theorem Q4m{t:Nat->AV}:∀ {L:List (Nat×AV)},Q8l t L->∀i,sl L i=t i\/sl L i=.any
 | [],_,i=>.inr rfl
 | (j,v)::r,h,i=>by
   simp only[Q8l]at h
   simp only[sl]
   split
   ·rename_i a
    subst a
    exact .inl h.1.symm
   exact Q4m h.2 i
section
variable {E:Env}{O:Orc}{σ σ':St}{k:Nat}{Q:Exit->St->Prop}
theorem X6y{d:Option Nat}{v:AV}{h:List AObj}(a:put σ d v h=some σ'):σ'.n=σ.n:=by
 unfold put at a
 split at a
 ·simp only[G0b]at a
  subst a
  rfl
 split at a
 ·simp only[G0b]at a
  subst a
  rfl
 cases a
theorem K4e{ops:Array Oper}{o:Oper}(h:Q8a E O ops σ o=some σ'):σ'.n=σ.n:=by
 unfold Q8a at h
 split at h
 ·obtain⟨r,_,a⟩:=G1n.1 h
  exact X6y a
 split at h
 ·split at h
  ·split at h
   ·obtain⟨r,_,a⟩:=G1n.1 h
    exact X6y a
   exact X6y h
  ·exact X6y h
  cases h
 cases h
theorem Z8v{ops:Array Oper}:∀ {l:List Oper} {σ:St},arun E O ops l σ=some σ'->σ'.n=σ.n
 | [],σ,h=>by
   simp only[arun,G0b]at h
   subst h
   rfl
 | o::l,σ,h=>by
   obtain⟨d,a,b⟩:=G1n.1 h
   exact(Z8v b).trans (K4e a)
def Leaves(L:List (Nat×AV))(h':List AObj):Option St->Prop
 | some σ=>Q8l σ.t L/\σ.h=h'
 | none=>False
theorem J4t(L:List (Nat×AV))(h':List AObj)(σ:St):Leaves L h' (some σ)=(Q8l σ.t L/\σ.h=h'):=rfl
theorem AW.reg(hS:Q1p E O){id n:Nat}{t:Nat->AV}{h:List AObj}{ops:Array Oper}(L:List (Nat×AV))(h':List AObj)(b:Leaves L h' (arun E O ops ops.toList ⟨t,n,h⟩))(i:Q .normal ⟨sl L,n,h'⟩):AW E k (.region id ops false) Q ⟨t,n,h⟩:=by
 generalize d:arun E O ops ops.toList ⟨t,n,h⟩=x at b
 cases x with
 | none=>exact b.elim
 | some σ'=>
   have j:=Z8v d
   obtain⟨l,m⟩:=b
   have o:AW E k (.region id ops false) (λe σ''=>e=.normal/\σ''=σ') ⟨t,n,h⟩:=AW.region hS d ⟨rfl,rfl⟩
   intro γ₀ H₀ Φ₀ w₀ a w f p
   refine wp_mono (o γ₀ H₀ Φ₀ w₀ a w f p) (λe q w' ⟨σ2,r,s,u⟩=>?_)
   subst s u
   have y:Weak E k σ2 ⟨sl L,σ2.n,σ2.h⟩:=Weak.forget (Q4m l)
   have g:=y γ₀ H₀ Φ₀ w₀ q w' f r
   rw[j,m]at g
   exact⟨_,g,i⟩
theorem AW.dreg(i:E.P.follows .mixedOrders=true)(hS:Q1p E O){id n:Nat}{t:Nat->AV}{h:List AObj}{ops:Array Oper}(j:Z5s O.pf ops=true)(L:List (Nat×AV))(h':List AObj)(b:Leaves L h' (arun E O ops ops.toList ⟨t,n,h⟩))(l:Q .normal ⟨sl L,n,h'⟩):AW E k (.region id ops true) Q ⟨t,n,h⟩:=by
 generalize d:arun E O ops ops.toList ⟨t,n,h⟩=x at b
 cases x with
 | none=>exact b.elim
 | some σ'=>
   have m:=Z8v d
   obtain⟨o,p⟩:=b
   have q:AW E k (.region id ops true) (λe σ''=>e=.normal/\σ''=σ') ⟨t,n,h⟩:=AW.drawn i hS j d ⟨rfl,rfl⟩
   intro γ₀ H₀ Φ₀ w₀ a w f r
   refine wp_mono (q γ₀ H₀ Φ₀ w₀ a w f r) (λe s w' ⟨σ2,u,y,z⟩=>?_)
   subst y z
   have A:Weak E k σ2 ⟨sl L,σ2.n,σ2.h⟩:=Weak.forget (Q4m o)
   have g:=A γ₀ H₀ Φ₀ w₀ s w' f u
   rw[m,p]at g
   exact⟨_,g,l⟩
theorem AW.dregB(i:E.P.follows .mixedOrders=true)(hS:Q1p E O){id n:Nat}{t:Nat->AV}{h:List AObj}{ops:Array Oper}(B:Z0w)(j:(B.all λp=>J0y (t p.1) p.2)=true)(l:Q3x O.pf B ops=true)(L:List (Nat×AV))(h':List AObj)(b:Leaves L h' (arun E O ops ops.toList ⟨t,n,h⟩))(m:Q .normal ⟨sl L,n,h'⟩):AW E k (.region id ops true) Q ⟨t,n,h⟩:=by
 generalize d:arun E O ops ops.toList ⟨t,n,h⟩=x at b
 cases x with
 | none=>exact b.elim
 | some σ'=>
   have o:=Z8v d
   obtain⟨q,r⟩:=b
   have s:AW E k (.region id ops true) (λe σ''=>e=.normal/\σ''=σ') ⟨t,n,h⟩:=AW.drawnB i hS l (λp u=>G0t.1 j p u) d ⟨rfl,rfl⟩
   intro γ₀ H₀ Φ₀ w₀ a w f y
   refine wp_mono (s γ₀ H₀ Φ₀ w₀ a w f y) (λe z w' ⟨σ2,A,C,D⟩=>?_)
   subst C D
   have F:Weak E k σ2 ⟨sl L,σ2.n,σ2.h⟩:=Weak.forget (Q4m q)
   have g:=F γ₀ H₀ Φ₀ w₀ z w' f A
   rw[o,r]at g
   exact⟨_,g,m⟩
open Classical in
theorem AW.loopI{α:Type}(S:α->St)(p:α->Prop)(d:α->Nat){c:Code}(f:α)(o:p f)(r:∀a,p a->AW E k c (Z1b (λσ'=>∃b,p b/\Weak E k σ' (S b)/\d b<d a) Q) (S a)):AW E k (.loop c) Q (S f):=by
 let q:St->Nat->Prop:=λσ n=>∃a,p a/\S a=σ/\d a=n
 let m:St->Nat:=λσ=>if h:∃n,q σ n then Classical.choose (X7l (q σ) h)else 0
 have g:∀σ,(∃n,q σ n)->q σ (m σ)/\∀n,q σ n->m σ<=n:=by
  intro σ h
  have:=G5d (X7l (q σ) h)
  simp only[m,dif_pos h]
  exact this
 refine AW.loop (λσ=>∃n,q σ n) m ⟨_,f,o,rfl,rfl⟩ (λσ s=>?_)
 obtain⟨⟨a,t,hs,x⟩,y⟩:=g σ s
 subst hs
 refine(r a t).mono (λe σ' i=>?_)
 cases e with
 | normal=>
   obtain⟨b,j,u,z⟩:=i
   have l:∃n,q (S b) n:=⟨d b,b,j,rfl,rfl⟩
   exact⟨S b,u,l,by have:=(g (S b) l).2 (d b) ⟨b,j,rfl,rfl⟩;omega⟩
 | _=>exact i
theorem K6c(a b:Bool):(AV.pv (PV.bool a)=AV.pv (PV.bool b))=(a=true↔b=true):=by
 rw[AV.pv.injEq,PV.bool.injEq,G5t]
theorem K6b(k:Go.IntKind)(a b:Int):(AV.pv (PV.int k a)=AV.pv (PV.int k b))=(a=b):=by
 rw[AV.pv.injEq,PV.int.injEq]
 simp
theorem K2z(a b:Int):(a==b)=decide (a=b):=rfl
theorem K2y(a b:Int):(a != b)=!decide (a=b):=rfl
theorem X0u(a b:List UInt8):(a==b)=decide (a=b):=by
 rw[G5t]
 simp
theorem K1p(a b:List UInt8):(a != b)=!decide (a=b):=by
 rw[bne,X0u]
theorem J3w{n:Int}(a:-9223372036854775808<=n)(b:n<=9223372036854775807):Go.IntKind.i64.wrap n=n:=by
 rw[IntKind.wrap_i64]
 omega
theorem X8i{ops:Array Oper}:arun E O ops [] σ=some σ:=rfl
theorem X4o{ops:Array Oper}{o:Oper}{l:List Oper}:arun E O ops (o::l) σ=(Q8a E O ops σ o).bind (arun E O ops l):=rfl
theorem bind_some{α a:Type}(x:α)(f:α->Option a):(some x).bind f=f x:=rfl
end
end Go.Abs
namespace Go.Abs
open Go.RowKit Go.ChangeShapes Go.WideShapes Go.Deep
def Q6v(P:Program):Nat->TypeId->PV->Prop
 | 0,_,_=>False
 | n+1,t,p=>match P.underlying t with
   | some .bool=>∃b,p=.bool b
   | some (.int k)=>∃m,p=.int k m/\(Lit.int k m).wf=true
   | some .string=>∃s,p=.str s/\s.length<=maxLen
   | some (.slice e)=>∃xs,p=.slice xs/\xs.length<=maxLen/\∀x∈xs,Q6v P n e x/\x.cells.length=P.cellsOf e
   | some (.struct d)=>∃a:List PV,p=.agg (a.flatMap PV.cells)/\a.length=d.size/\∀ (i:Nat) f q,d[i]?=some f->a[i]?=some q->Q6v P n f.type q
   | _=>False
def J3g(P:Program):List Field->Nat->Option Nat
 | [],o=>some o
 | f::a,o=>if f.offset=o then J3g P a (o+P.cellsOf f.type)else none
def supp(P:Program):Nat->TypeId->Bool
 | 0,_=>false
 | n+1,t=>match P.underlying t with
   | some .bool=>P.cellsOf t==1
   | some (.int _)=>P.cellsOf t==1
   | some .string=>P.cellsOf t==1
   | some (.slice e)=>P.cellsOf t==1&&(supp P n e&&P.cellsOf e != 0)
   | some (.struct a)=>J3g P a.toList 0==some (P.cellsOf t)&&a.toList.all λf=>supp P n f.type
   | _=>false
section
variable {H:Type}{enc:TypeId×Value->H}{P:Program}{w:World}
def Low(w:World)(b _:Nat):Prop:=b<w.heap.size
theorem X4h{a:Addr}{v:Value}(h:w.cell? a=some v):a.block<w.heap.size/\a.spot=none:=by
 unfold World.cell? at h
 split at h
 ·rename_i hb
  refine⟨(G1b.1 hb).1,?_⟩
  split at h
  ·cases h
  rename_i hs
  simpa using hs
 cases h
theorem Q3b{Φ:Nat->Nat->Prop}{v:Value}{p:PV}(d:p.one=true)(h:Rep Φ w v p):Q1h Φ w [v] p.cells:=by
 have a:p.cells=[p]:=by cases p<;>first|rfl|simp[PV.one]at d
 rw[a]
 refine⟨rfl,λc a=>by simp at a;subst a;exact d,λk v' c b e=>?_⟩
 cases k with
 | zero=>simp only[G0n,G0b]at b e;subst b e;exact h
 | succ k=>simp at b
theorem Z8o{base:Nat}{n:Bool}(cs:List Value)(m:Nat)(R:TypeId->PV->Prop):
 ∀ (a:List Field) (o e:Nat) (ys:List (DataW H×List MemPlace)),J3g P a o=some e->
  (∀f∈a,∀ (cs:List Value) (x:DataW H×List MemPlace),DataW.trod enc P w base (λ_=>true) n m f.type cs=some x->∃p,Q1h (Low w) w cs p.cells/\R f.type p/\cs.length=P.cellsOf f.type)->e=cs.length->ys.length=a.length->
  (∀ (i:Nat) (f:Field),a[i]?=some f->DataW.trod enc P w base (λ_=>true) n m f.type ((cs.drop f.offset).take (P.cellsOf f.type))=ys[i]?)->
  ∃j:List PV,j.length=a.length/\(∀ (i:Nat) f q,a[i]?=some f->j[i]?=some q->R f.type q)/\Q1h (Low w) w (cs.drop o) (j.flatMap PV.cells)
 | [],o,e,ys,b,_,s,_,_=>by
   simp only[J3g,G0b]at b
   refine⟨[],rfl,λi f q A=>by simp at A,?_⟩
   rw[G2t (by omega)]
   exact⟨rfl,λc b=>by simp at b,λk v c C=>by simp at C⟩
 | f::a,o,e,ys,b,hs,s,t,u=>by
   simp only[J3g]at b
   split at b
   ·rename_i D
    cases ys with
    | nil=>simp at t
    | cons y ys=>
      have z:=u 0 f rfl
      simp only[G0n]at z
      obtain⟨q,hq,F,M⟩:=hs f G4k _ y z
      obtain⟨j,I,J,K⟩:=Z8o cs m R a (o+P.cellsOf f.type) e ys b (λg d=>hs g (G2w _ d)) s (by simpa using t) (λi g d=>by
       have:=u (i+1) g (by simpa using d)
       simpa using this)
      refine⟨q::j,by simp[I],λi g r d l=>?_,?_⟩
      ·cases i with
       | zero=>simp only[G0n,G0b]at d l;subst d l;exact F
       | succ i=>rw[G0y]at d l;exact J i g r d l
      have L:cs.drop o=(cs.drop f.offset).take (P.cellsOf f.type)++cs.drop (o+P.cellsOf f.type):=by
       rw[<-D,<-G6r,G1v]
      rw[L,G5g]
      exact Q5a hq K
   cases b
theorem X1b{base:Nat}{e:TypeId}{a:Addr}{len cap:Nat}(Q:PV->Prop)(ag:¬ P.cellsOf e=0)(S:len<=cap)(A:cap<=maxLen)
 (T:∀i,i<len->∃cs',w.cells? base (a.add (i * P.cellsOf e)) (P.cellsOf e)=some cs'/\∃p:PV,Q1h (Low w) w cs' p.cells/\Q p/\cs'.length=P.cellsOf e):
 ∃xs:List PV,Q1h (Low w) w [.slice (some a) len cap] (PV.slice xs).cells/\xs.length<=maxLen/\∀y∈xs,Q y/\y.cells.length=P.cellsOf e:=by
 have U:∀i,∃p:PV,i<len->∃cs',w.cells? base (a.add (i * P.cellsOf e)) (P.cellsOf e)=some cs'/\Q1h (Low w) w cs' p.cells/\Q p/\cs'.length=P.cellsOf e:=by
  intro i
  by_cases l:i<len
  ·obtain⟨cs',q,V⟩:=T i l
   obtain⟨p,d,b,g⟩:=V
   exact⟨p,λ_=>⟨cs',q,d,b,g⟩⟩
  exact⟨.nil,λh=>absurd h l⟩
 have ⟨f,r⟩:=Classical.axiomOfChoice U
 have s:((List.range len).map f).length=len:=by simp
 have C:∀y∈(List.range len).map f,Q y/\y.cells.length=P.cellsOf e:=by
  intro y t
  obtain⟨i,l,rfl⟩:=G3i.1 t
  obtain⟨cs',_,d,b,g⟩:=r i (G1k.1 l)
  exact⟨b,by rw[<-d.1,g]⟩
 refine⟨(List.range len).map f,?_,by rw[s];omega,C⟩
 by_cases W:len=0
 ·subst W
  exact Q3b rfl (.sliceAny a cap A)
 have D:∀i,i<len->∀j,j<P.cellsOf e->∃v c,w.cell? ⟨a.block,a.off+(i * P.cellsOf e+j),none⟩=some v/\(f i).cells[j]?=some c/\c.one=true/\Rep (Low w) w v c/\a.block<w.heap.size/\a.spot=none:=by
  intro i l j X
  obtain⟨cs',q,d,b,g⟩:=r i l
  obtain⟨_,ah,hat⟩:=World.cells?_some q
  have F:cs'[j]?=some (cs'[j]'(by omega)):=G0c (by omega)
  have u:j<(f i).cells.length:=by rw[<-d.1];omega
  have m:=hat j X
  rw[F]at m
  have n:a.spot=none:=by
   have Y:0<len:=by omega
   obtain⟨aj,aa,_⟩:=r 0 Y
   obtain⟨_,ak,ac⟩:=World.cells?_some aa
   have:=ac 0 (by omega)
   rw[G0c (by omega)]at this
   have h':=(X4h this).2
   simpa[Addr.add]using h'
  have ad:(a.add (i * P.cellsOf e)).add j=⟨a.block,a.off+(i * P.cellsOf e+j),none⟩:=by
   rw[Go.Deep.add_add]
   unfold Addr.add
   split
   ·rename_i h
    rw[h,<-n]
    rfl
   rfl
  rw[ad]at m
  refine⟨_,_,m,G0c u,d.2.1 _ (G2u u),d.2.2 j _ _ F (G0c u),?_,n⟩
  exact(X4h m).1
 have I:0<P.cellsOf e:=by omega
 obtain⟨_,_,_,_,_,_,ae,n⟩:=D 0 (by omega) 0 I
 have ha:a=⟨a.block,a.off,none⟩:=by rw[<-n]
 rw[ha]
 have x:∀y∈(List.range len).map f,y.cells.length=P.cellsOf e:=λy t=>(C y t).2
 have J:=Q0j x
 rw[s]at J
 have hat:∀k,k<(flat ((List.range len).map f)).length->∃v c,w.cell? ⟨a.block,a.off+k,none⟩=some v/\(flat ((List.range len).map f))[k]?=some c/\c.one=true/\Rep (Low w) w v c:=by
  intro k hk
  rw[J]at hk
  have K:k / P.cellsOf e<len:=G5l (by rw[G4c];exact hk)
  have L:=G6h k I
  obtain⟨v,c,d,b,g,z,_,_⟩:=D _ K _ L
  have M:k / P.cellsOf e * P.cellsOf e+k % P.cellsOf e=k:=by rw[G4c];exact G4p _ _
  rw[M]at d
  refine⟨v,c,d,?_,g,z⟩
  have:=Q2j x (k / P.cellsOf e) (k % P.cellsOf e) (f (k / P.cellsOf e)) (by rw[G0x,G3f K];rfl) L
  rw[M]at this
  rw[this]
  exact b
 refine Q3b rfl (.slice a.block a.off len cap (P.cellsOf e) _ (λk=>(w.cell? ⟨a.block,a.off+k,none⟩).getD undef) s S A x (λc o=>?_) (λk hk=>?_) (λk c o=>?_))
 ·obtain⟨k,hk,rfl⟩:=G2e o
  obtain⟨v,N,_,b,g,_⟩:=hat k hk
  rw[G0c hk]at b
  injection b with b
  rw[b]
  exact g
 ·obtain⟨v,N,d,_⟩:=hat k hk
  exact⟨ae,by rw[d];rfl⟩
 have hk:=(G0f.1 o).1
 obtain⟨v,N,d,b,_,z⟩:=hat k hk
 rw[o]at b
 injection b with b
 subst b
 rw[d]
 exact z
theorem X6r{base:Nat}{F:Bool}:∀ (n:Nat) (t:TypeId) (l:Nat) (cs:List Value) (x:DataW H×List MemPlace),supp P n t=true->DataW.trod enc P w base (λ_=>true) F l t cs=some x->
 ∃p,Q1h (Low w) w cs p.cells/\Q6v P n t p/\cs.length=P.cellsOf t:=by
 intro n
 induction n with
 | zero=>intro t l cs x hs;simp[supp]at hs
 | succ n y=>
   intro t l cs x hs g
   simp only[supp]at hs
   simp only[Q6v]
   split at hs
   ·rename_i d
    obtain⟨b,rfl,_⟩:=DataW.trod_bool d g
    exact⟨.bool b,Q3b rfl (.bool b),⟨b,rfl⟩,by simp at hs;simp[hs]⟩
   ·rename_i k d
    obtain⟨m,rfl,_,I⟩:=DataW.trod_int d g
    exact⟨.int k m,Q3b rfl (.int k m),⟨m,rfl,I⟩,by simp at hs;simp[hs]⟩
   ·rename_i d
    obtain⟨s,rfl,_,J⟩:=DataW.trod_string d g
    refine⟨.str s.data.toList,Q3b rfl (.str s.data.toList),⟨s.data.toList,rfl,?_⟩,by simp at hs;simp[hs]⟩
    simpa using J
   ·rename_i e d
    simp only[G0k,G3h,G5x,ne_eq]at hs
    obtain⟨z,K,L⟩:=hs
    rcases open_slice d g with⟨rfl,_⟩|⟨a,len,cap,m,k,D,Pl,rfl,hb,M,N,S,_,T⟩
    ·exact⟨.slice [],Q3b rfl .sliceNil,⟨[],rfl,G2l _,λx U=>by cases U⟩,by simp[z]⟩
    simp only[if_true]at S
    obtain⟨xs,o,r,u⟩:=X1b (base:=base) (Q6v P n e) L M N (λi hi=>by
     obtain⟨cs',V,W⟩:=T i (by omega)
     exact⟨cs',V,y e k cs' _ K W⟩)
    exact⟨.slice xs,o,⟨xs,rfl,r,u⟩,by simp[z]⟩
   ·rename_i X d
    simp only[G0k,G3h]at hs
    obtain⟨ys,k,_,_,A,Y,aa⟩:=DataW.trod_struct d g
    obtain⟨C,o,r,u⟩:=Z8o cs k (Q6v P n) X.toList 0 _ ys hs.1 (λf j cs x h=>y f.type k cs x (G0t.1 hs.2 f j) h) A.symm (by simpa using Y) (λi f j=>aa i f (by simpa using j))
    refine⟨.agg (C.flatMap PV.cells),?_,⟨C,rfl,by simpa using o,λi f q j hq=>r i f q (by simpa using j) hq⟩,A⟩
    simpa[PV.cells]using u
   cases hs
theorem J4o{n:Nat}{t:TypeId}{v:Value}{r:Reach}{b:Nat}{p:PV}(hs:(match P.underlying t with|some .bool|some (.int _)|some .string|some (.slice _)|some (.struct _)=>true|_=>false)=true)(i:Value.okWide P w r b t v)(g:Q1h (Low w) w v.cells.toList p.cells)(f:Q6v P n t p):
 ∃p,Rep (Low w) w v p/\Q6v P n t p:=by
 cases n with
 | zero=>cases f
 | succ n=>
   have one:∀p:PV,p.one=true->v.cells=#[v]->Q1h (Low w) w v.cells.toList p.cells->Rep (Low w) w v p:=by
    intro p o q m
    have s:p.cells=[p]:=by cases p<;>first|rfl|simp[PV.one]at o
    rw[q,s]at m
    exact m.2.2 0 v p rfl rfl
   simp only[Q6v]at f
   split at hs
   ·rename_i d
    rw[d]at f
    obtain⟨b,rfl⟩:=okWide_bool d i
    obtain⟨b',rfl⟩:=f
    exact⟨_,one _ rfl rfl g,by simp only[Q6v,d];exact⟨_,rfl⟩⟩
   ·rename_i k d
    rw[d]at f
    obtain⟨b,rfl⟩:=okWide_int d i
    obtain⟨b',rfl,j⟩:=f
    exact⟨_,one _ rfl rfl g,by simp only[Q6v,d];exact⟨_,rfl,j⟩⟩
   ·rename_i d
    rw[d]at f
    obtain⟨b,rfl⟩:=okWide_string d i
    obtain⟨b',rfl,j⟩:=f
    exact⟨_,one _ rfl rfl g,by simp only[Q6v,d];exact⟨_,rfl,j⟩⟩
   ·rename_i e d
    rw[d]at f
    obtain⟨a,len,cap,rfl⟩:=okWide_slice d i
    obtain⟨xs,rfl,j⟩:=f
    exact⟨_,one _ rfl rfl g,by simp only[Q6v,d];exact⟨_,rfl,j⟩⟩
   ·rename_i u d
    rw[d]at f
    obtain⟨cs,rfl,_⟩:=okWide_struct d i
    obtain⟨x,rfl,hq⟩:=f
    obtain⟨l⟩:=cs
    exact⟨_,.agg l _ g.1 g.2.1 g.2.2,by simp only[Q6v,d];exact⟨_,rfl,hq⟩⟩
   cases hs
theorem X2e{n:Nat}{t:TypeId}{v:Value}{d:DataW H}{ps:List MemPlace}{r:Reach}{b:Nat}(hs:supp P n t=true)(a:Value.okWide P w r b t v)(h:DataW.Trod enc P w 0 (λ_=>true) true t v d ps):
 ∃p,Rep (Low w) w v p/\Q6v P n t p:=by
 obtain⟨e,f⟩:=h
 obtain⟨p,g,i,j⟩:=X6r n t e _ _ hs f
 refine J4o ?_ a g i
 cases n with
 | zero=>simp[supp]at hs
 | succ n=>
   simp only[supp]at hs
   split at hs<;>first|(simp only;done)|(exact absurd hs (by decide))
end
end Go.Abs
namespace Go.Abs
open Go.RowKit Go.ChangeShapes Go.WideShapes
section
variable {H:Type}{enc:TypeId×Value->H}
theorem Good.calls{E:Env}{f:FuncId}{ps:List PV}(q:Good E f (ps.map AV.pv) [] [.pv (.bool true)] []){W:World}{vs:List Value}(r:E.GI W)(s:E.gN<=W.heap.size)(t:vs.length=ps.length)(x:∀ (i:Nat) v p,vs[i]?=some v->ps[i]?=some p->Rep (Low W) W v p):
 Calls E.P f ⟨vs⟩ W λe W'=>e=.returned (.bool true)/\Below W.heap.size W W':=by
 have y:OInv E [] [] (Low W) W:=⟨rfl,λl o g h=>by simp at h,λi j gi I h=>by simp at h,λi g h=>by simp at h,λb k h=>h,r,s⟩
 refine(q W (Low W) [] vs y (by simpa using t) (λi v a m n=>?_)).mono λe W' ⟨us,J,Φ',z,d,A,C⟩=>?_
 ·rw[G0x]at n
  obtain⟨p,D,rfl⟩:=G0g.1 n
  exact .pv (x i v p m D)
 match us,A with
 | [u],_=>
   have F:=C 0 u _ rfl rfl
   have m:=Q9g (Q0o F)
   subst m
   refine⟨z,⟨d.since.os,d.since.tape,d.since.output,d.since.size,λk hk=>?_⟩⟩
   exact d.since.foreign k hk (λi g h=>by simp at h)
theorem Z3f{P:Program}{w:World}{r:Reach}{b:Nat}(TY:TypeId->PV->Prop):∀ {ts:List TypeId} {vs:List Value} {ds:List (DataW H)} {ps:List MemPlace},
 (∀t∈ts,∀ (v:Value) (d:DataW H) (ps:List MemPlace),Value.okWide P w r b t v->DataW.Trod enc P w 0 (λ_=>true) true t v d ps->∃p,Rep (Low w) w v p/\TY t p)->(∀ (i:Nat) t v,ts[i]?=some t->vs[i]?=some v->Value.okWide P w r b t v)->
 DataW.TrodAll enc P w 0 (λ_=>true) true ts vs ds ps->∃g:List PV,vs.length=g.length/\g.length=ts.length/\ds.length=ts.length/\(∀ (i:Nat) v p,vs[i]?=some v->g[i]?=some p->Rep (Low w) w v p)/\∀ (i:Nat) t p,ts[i]?=some t->g[i]?=some p->TY t p
 | [],[],[],_,_,_,_=>⟨[],rfl,rfl,rfl,λi v p h=>by simp at h,λi t p h=>by simp at h⟩
 | t::ts,v::vs,d::ds,ps,hs,f,h=>by
   obtain⟨p,q,j,l,_⟩:=h
   obtain⟨x,m,n⟩:=hs t (by simp) v d p (f 0 t v rfl rfl) j
   obtain⟨g,o,s,u,y,z⟩:=Z3f TY (λt e=>hs t (by simp[e])) (λi t v e A=>f (i+1) t v (by simpa using e) (by simpa using A)) l
   refine⟨x::g,by simp[o],by simp[s],by simp[u],λi v p f a=>?_,λi t p e a=>?_⟩
   ·cases i with
    | zero=>simp only[G0n,G0b]at f a;subst f a;exact m
    | succ i=>rw[G0y]at f a;exact y i v p f a
   cases i with
   | zero=>simp only[G0n,G0b]at e a;subst e a;exact n
   | succ i=>rw[G0y]at e a;exact z i t p e a
 | [],[],_::_,_,_,_,h=>h.elim
 | [],_::_,_,_,_,_,h=>h.elim
 | _::_,[],_,_,_,_,h=>h.elim
 | _::_,_::_,[],_,_,_,h=>h.elim
theorem Z0x{P:Program}(b:laidOutB P=true){W W':World}{e:Nat->Bool}:∀ {ts:List TypeId} {vs:List Value} {ds:List (DataW H)} {ps:List MemPlace},(∀t∈ts,P.readableRec t=true/\t<P.types.size)->
 DataW.TrodAll enc P W 0 (λ_=>true) true ts vs ds ps->(∀p∈ps,W.sameAt W' p)->(∀p∈ps,e p.block=true)->DataW.TrodAll enc P W' 0 e true ts vs ds ps
 | [],[],[],_,_,h,_,_=>h
 | t::ts,v::vs,d::ds,ps,hs,h,f,g=>by
   obtain⟨p,q,i,hb,rfl⟩:=h
   exact⟨p,q,WideElems.Trod_stays b (hs t (by simp)).1 (hs t (by simp)).2 i (λx a=>f x (by simp[a])) (λx a=>g x (by simp[a])),
    Z0x b (λt j=>hs t (by simp[j])) hb (λx a=>f x (by simp[a])) (λx a=>g x (by simp[a])),rfl⟩
 | [],[],_::_,_,_,h,_,_=>h.elim
 | [],_::_,_,_,_,h,_,_=>h.elim
 | _::_,[],_,_,_,h,_,_=>h.elim
 | _::_,_::_,[],_,_,h,_,_=>h.elim
theorem J9f{P:Program}{f:Func}{s:ChangeSpec}{i u x y:Bool}{W W':World}{args:Array Value}{v:Value}{ds gs:List (DataW H)}{before pa pv:List MemPlace}
 (g:DataW.Whole enc P f.params.toList s.vars i W args.toList ds gs before)
 (l:∀ (b:Nat) (d:Nat->Bool) (hd:Bool),DataW.TrodAll enc P W' b d hd f.resultTypes.toList (v.resultList f.resultTypes.size) (s.fn H (ds++gs)).results [])
 (m:∀d:Nat->Bool,(∀p∈before,d p.block=true)->DataW.TrodAll enc P W' 0 d true f.params.toList args.toList (s.fn H (ds++gs)).args pa)
 (n:∀d:Nat->Bool,(∀p∈before,d p.block=true)->DataW.TrodVars enc P W' d s.vars (s.fn H (ds++gs)).vars pv)
 (e:before=pa++pv) (hb:Below W.heap.size W W')
 (z:∀ (j:Nat) (t:TypeId) (r:Value),f.resultTypes[j]?=some t->(v.resultList f.resultTypes.size)[j]?=some r->Value.okWide P W' .any 0 t r):
 s.post enc P f i u x y W args v W':=by
 have o:∀p∈before,p.block<W.heap.size:=λp a=>g.lt p a
 have hold:∀p∈before,(λb=>decide (b<W.heap.size)) p.block=true:=λp a=>by simpa using o p a
 refine⟨ds,gs,before,[],pa,pv,g,l _ _ _,m _ hold,n _ hold,World.keptBut_mono (λp a=>⟨a,?_⟩) (hb.frame (·∈before)),λ_=>?_⟩
 ·rw[e,G2v]at a
  exact Or.inr a
 obtain⟨_,_,_,_,_,A,C⟩:=g
 refine⟨z,_,_,([]++pa)++pv,⟨[]++pa,pv,trodAll_append (m _ (λ_ _=>rfl)) (l _ _ _),n _ (λ_ _=>rfl),rfl,?_,?_⟩,?_⟩
 ·intro b off a
  have q:MemPlace.cell b off∈before:=by rw[e];simpa using a
  rw[hb.frozen (o _ q)]
  exact A b off q
 ·intro D
  have:=C D
  rw[e]at this
  simpa using this
 intro p a _
 rw[e]
 simpa using a
theorem K2v{E:Env}{C:Checked}(N:E.P=C.prog){os:Os}{f:FuncId}{fn:Func}{s:ChangeSpec}{z:List PathCond}{m S T U:Bool}{X:World->Array Value->Prop}(TY:TypeId->PV->Prop){tb:TypeId}
 (own:ownKnob C.prog.godebug=none) (V:os.Started) (Y:C.prog.inits.idxOf? f=none) (aa:C.prog.funcs[f]?=some fn) (ac:laidOutB C.prog=true)
 (A:s.vars=[]) (ad:∀ds:List (DataW H),ds.length=fn.params.size->s.fn H ds={ results:=[.lit (.bool true)],args:=ds })
 (D:fn.resultTypes=#[tb]) (F:C.prog.underlying tb=some .bool)
 (hT:∀t∈fn.params.toList,∀ (w:World) (r:Reach) (b:Nat) (v:Value) (d:DataW H) (ps:List MemPlace),Value.okWide C.prog w r b t v->DataW.Trod enc C.prog w 0 (λ_=>true) true t v d ps->∃p,Rep (Low w) w v p/\TY t p)
 (ae:fn.params.toList.all (λt=>C.prog.readableRec t&&decide (t<C.prog.types.size))=true)
 (hG:∀W:World,W.ShapedOpen C.prog->(∃a,X W.memory a)->E.GI W/\E.gN<=W.heap.size)
 (af:∀ps:List PV,ps.length=fn.params.size->(∀ (i:Nat) t p,fn.params[i]?=some t->ps[i]?=some p->TY t p)->Good E f (ps.map AV.pv) [] [.pv (.bool true)] [])
 (ag:∃ (w:World) (j:Tape) (i:Input),w.os=os/\(w.forCall j i).Shaped C.prog/\i.vars=[]/\Input.okWide C.prog (w.forCall j i) .any w.heap.size f i/\
   ((s.pre enc C.prog fn z m (w.forCall j i).memory i.args/\X (w.forCall j i).memory i.args)/\sizedMet enc C.prog fn (OpenSpec.ofChange s) m (w.forCall j i).memory i.args)/\({}:Assume).holds C.prog (lone (Frame.enter C.prog f i.args .normal) [] (w.forCall j i))):
 ReturnsInHanded {} C os f .any (λw args=>(s.pre enc C.prog fn z m w args/\X w args)/\sizedMet enc C.prog fn (OpenSpec.ofChange s) m w args) (s.post enc C.prog fn m S T U):=by
 refine returnsInHanded_of_calls own V Y ag ?_
 intro w j i _ ah _ aj ak _
 obtain⟨_,_,_,n,al,_,_,_,aH,am⟩:=aj
 have e:n=fn:=G3g (al.symm.trans aa)
 subst e
 obtain⟨⟨⟨ds,gs,before,hw,_⟩,hX⟩,_⟩:=ak
 have I:=DataW.Whole.of_heap (w':=w.forCall j i) (by rfl) hw
 have aq:∀t∈n.params.toList,C.prog.readableRec t=true/\t<C.prog.types.size:=λt l=>by
  have:=G0t.1 ae t l
  rw[G0k,G0s]at this
  exact this
 have J:=I
 obtain⟨p,q,K,o,rfl,_,_⟩:=I
 obtain⟨qs,e1,e2,e3,e4,e5⟩:=Z3f TY (λt l v d ps=>hT t l _ _ _ v d ps) (λi t v l hv=>am i t v (by simpa using l) (by simpa using hv)) K
 rw[A]at o
 obtain⟨aA,hq⟩:gs=[]/\q=[]:=by
  cases gs with
  | nil=>exact⟨rfl,o⟩
  | cons g gs=>exact o.elim
 subst aA hq
 obtain⟨aB,aC⟩:=hG _ ah ⟨_,hX⟩
 have L:=Good.calls (af qs (by simpa using e2) (λi t p l hp=>e5 i t p (by simpa using l) hp)) (W:=w.forCall j i) (vs:=i.args.toList) aB aC e1 e4
 rw[N]at L
 refine Calls.mono L λe W' ⟨he,hb⟩=>?_
 subst he
 have aF:ds.length=n.params.size:=by simpa using e3
 have u:s.fn H (ds++[])={ results:=[.lit (.bool true)],args:=ds }:=by
  rw[G1s]
  exact ad ds aF
 refine ChangeSpec.post_blind (J9f (pa:=p) (pv:=[]) J (λb M hd=>?_) (λM aG=>?_) (λM _=>?_) rfl hb (ok_one D rfl (okWide_bool_mk F _)))
 ·rw[u,D]
  exact trodAll_mk1 (shut_bool F _)
 ·rw[u]
  refine Z0x ac aq K (λx y=>hb.same ?_) (λx y=>aG x (by simp[y]))
  exact J.lt x (by simp[y])
 rw[u,A]
 exact rfl
theorem K6z{E:Env}{C:Checked}(n:E.P=C.prog){os:Os}{f:FuncId}{fn:Func}{s:ChangeSpec}{l:List PathCond}{g o q u:Bool}{X:World->Array Value->Prop}(N:Nat){tb:TypeId}
 (own:ownKnob C.prog.godebug=none) (x:os.Started) (y:C.prog.inits.idxOf? f=none) (z:C.prog.funcs[f]?=some fn) (A:laidOutB C.prog=true)
 (D:s.vars=[]) (F:∀ds:List (DataW H),ds.length=fn.params.size->s.fn H ds={ results:=[.lit (.bool true)],args:=ds })
 (I:fn.resultTypes=#[tb]) (J:C.prog.underlying tb=some .bool)
 (m:fn.params.toList.all (λt=>supp C.prog N t&&(C.prog.readableRec t&&decide (t<C.prog.types.size)))=true)
 (hG:∀W:World,W.ShapedOpen C.prog->(∃a,X W.memory a)->E.GI W/\E.gN<=W.heap.size)
 (K:∀ps:List PV,ps.length=fn.params.size->(∀ (i:Nat) t p,fn.params[i]?=some t->ps[i]?=some p->Q6v C.prog N t p)->Good E f (ps.map AV.pv) [] [.pv (.bool true)] [])
 (L:∃ (w:World) (e:Tape) (i:Input),w.os=os/\(w.forCall e i).Shaped C.prog/\i.vars=[]/\Input.okWide C.prog (w.forCall e i) .any w.heap.size f i/\
   ((s.pre enc C.prog fn l g (w.forCall e i).memory i.args/\X (w.forCall e i).memory i.args)/\sizedMet enc C.prog fn (OpenSpec.ofChange s) g (w.forCall e i).memory i.args)/\({}:Assume).holds C.prog (lone (Frame.enter C.prog f i.args .normal) [] (w.forCall e i))):
 ReturnsInHanded {} C os f .any (λw args=>(s.pre enc C.prog fn l g w args/\X w args)/\sizedMet enc C.prog fn (OpenSpec.ofChange s) g w args) (s.post enc C.prog fn g o q u):=
 K2v n (Q6v C.prog N) own x y z A D F I J
  (λt j w r b v d ps M h=>X2e (by
    have:=G0t.1 m t j
    rw[G0k]at this
    exact this.1) M h)
  (G0t.2 λt j=>by
    have:=G0t.1 m t j
    rw[G0k]at this
    exact this.2) hG K L
end
end Go.Abs
namespace Go.Abs
inductive Sub:PV->List PV->Prop
 | here (xs:List PV):Sub (.slice xs) xs
 | elem {xs:List PV} {x:PV} {ys:List PV} (hx:x∈flat xs) (h:Sub x ys):Sub (.slice xs) ys
 | cell {cs:List PV} {c:PV} {ys:List PV} (hc:c∈cs) (h:Sub c ys):Sub (.agg cs) ys
end Go.Abs
namespace Go.Abs
def mp(m:List (List UInt8×Int)):List (PV×PV):=m.map λx=>(.str x.1,.int .i64 x.2)
theorem X9f{m:Nat}:∀ {L:List (Nat×AV)},(L.all λp=>p.2.ltB m)=true->∀i,scr m (sl L i)=sl L i
 | [],_,i=>rfl
 | (j,v)::r,h,i=>by
   simp only[G7f,G0k]at h
   simp only[sl]
   split
   ·unfold scr
    rw[if_pos h.1]
   exact X9f h.2 i
theorem Weak.cut{E:Env}{k m n:Nat}{L:List (Nat×AV)}{H H':List AObj}(hk:k<=m)(a:H.take m=H')(b:H'.all (AObj.ltB m)=true)(d:(L.all λp=>p.2.ltB m)=true):Weak E k ⟨sl L,n,H⟩ ⟨sl L,n,H'⟩:=by
 have h:=Weak.scrub (E:=E) (σ:=⟨sl L,n,H⟩) hk (by rw[a];exact b)
 have e:Go.Abs.scrub m ⟨sl L,n,H⟩=⟨sl L,n,H'⟩:=by
  unfold Go.Abs.scrub
  simp only[a]
  congr 1
  funext i
  exact X9f d i
 rw[e]at h
 exact h
end Go.Abs
namespace Go.Abs
open Go.RowKit
theorem Good.lib{E:Env}{f:FuncId}{ps rs:List PV}
 (h:∀ (w:World) (Φ:Nat->Nat->Prop) (vs:List Value),E.GI w->(∀b k,Φ b k->b<w.heap.size)->vs.length=ps.length->(∀ (i:Nat) v p,vs[i]?=some v->ps[i]?=some p->Rep Φ w v p)->
   Calls E.P f ⟨vs⟩ w λe w'=>∃ (us:List Value) (Φ':Nat->Nat->Prop),e=.returned (retV us)/\us.length=rs.length/\Below w.heap.size w w'/\(∀b k,Φ b k->Φ' b k)/\(∀b k,Φ' b k->b<w.heap.size->Φ b k)/\(∀b k,Φ' b k->b<w'.heap.size)/\
    ∀ (i:Nat) u r,us[i]?=some u->rs[i]?=some r->Rep Φ' w' u r):Good E f (ps.map AV.pv) [] (rs.map AV.pv) []:=by
 intro w Φ γ m d n o
 refine(h w Φ m d.gi d.phi (by simpa using n) (λi v p g j=>?_)).mono λe w' ⟨us,Φ',q,s,hb,t,x,y,z⟩=>?_
 ·exact Q0o (o i v (.pv p) g (by rw[G0x,j];rfl))
 refine⟨us,γ,Φ',q,d.grow hb.block hb.size hb.os hb.tape hb.output t x y,by simpa using s,λi v a g l=>?_⟩
 rw[G0x]at l
 obtain⟨p,j,rfl⟩:=G0g.1 l
 exact .pv (z i v p g j)
theorem J8n{Φ:Nat->Nat->Prop}{w:World}{v:Value}{xs:List (List UInt8)}(h:Rep Φ w v (.slice (xs.map PV.str))):
 (v=.slice none 0 0/\xs=[])\/(∃A cap,v=.slice (some A) 0 cap/\xs=[]/\cap<=maxLen) \/
 ∃b o cap,v=.slice (some ⟨b,o,none⟩) xs.length cap/\xs.length<=cap/\cap<=maxLen/\∀ (k:Nat) x,xs[k]?=some x->Φ b (o+k)/\w.cell? ⟨b,o+k,none⟩=some (.string ⟨⟨x⟩⟩):=by
 generalize a:PV.slice (xs.map PV.str)=p at h
 cases h with
 | sliceNil=>
   injection a with a
   exact .inl ⟨rfl,by simpa using a⟩
 | sliceAny A cap d=>
   injection a with a
   exact .inr (.inl ⟨A,cap,rfl,by simpa using a,d⟩)
 | slice b o len cap sz ys vs e q d D r g f=>
   injection a with a
   subst a
   have z:flat (xs.map PV.str)=xs.map PV.str:=by
    induction xs with
    | nil=>rfl
    | cons x xs i=>
      rw[G2g,Q4e]
      show PV.str x::flat (xs.map PV.str)=_
      have:∀ys:List (List UInt8),flat (ys.map PV.str)=ys.map PV.str:=by
       intro ys
       induction ys with
       | nil=>rfl
       | cons y ys i=>rw[G2g,Q4e,i];rfl
      rw[this]
   simp only[G1m]at e
   subst e
   refine .inr (.inr ⟨b,o,cap,rfl,q,d,λk x j=>?_⟩)
   rw[z]at g f
   have hk:k<xs.length:=(G0f.1 j).1
   obtain⟨C,l⟩:=g k (by simpa using hk)
   have m:=f k (.str x) (by rw[G0x,j];rfl)
   generalize vs k=u at m l
   cases m with
   | str s=>exact⟨C,l⟩
 | bool b=>cases a
 | int k n=>cases a
 | str s=>cases a
 | nil=>cases a
 | ifc t v=>cases a
 | nilp=>cases a
 | agg vs cs e r f=>cases a
end Go.Abs
