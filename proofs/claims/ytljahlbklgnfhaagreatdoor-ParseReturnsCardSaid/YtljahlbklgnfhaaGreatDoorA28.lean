import Derived.Test.YtljahlbklgnfhaaGreatDoorA22
import Derived.ProofKit
import Derived.Deep.Slices
import Derived.LaidMore
import Derived.Lay
import Derived.Carry
import Derived.Below
set_option linter.unusedVariables false
set_option linter.unusedSimpArgs false
set_option linter.defProp false
namespace Go.Abs
open Go.RowKit
def sl:List (Nat×AV)->Nat->AV
 | [],_=>.any
 | (j,v)::r,i=>if i=j then v else sl r i
theorem V4t(i:Nat):sl [] i=.any:=rfl
theorem K9i(j:Nat)(v:AV)(r:List (Nat×AV))(i:Nat):sl ((j,v)::r) i=if i=j then v else sl r i:=rfl
theorem V4i(r:List (Nat×AV))(i:Nat)(v:AV):upd (sl r) i v=sl ((i,v)::r):=rfl
def enum:Nat->List AV->List (Nat×AV)
 | _,[]=>[]
 | n,a::r=>(n,a)::enum (n+1) r
theorem X6x:∀ (args:List AV) (n i:Nat),sl (enum n args) (n+i)=args.getD i .any
 | [],n,i=>by simp[enum,sl]
 | a::r,n,0=>by simp[enum,sl]
 | a::r,n,i+1=>by
   have h:=X6x r (n+1) i
   simp only[enum,sl]
   rw[if_neg (by omega)]
   simpa[G5s,Nat.add_left_comm,G4h]using h
theorem Z8o(args:List AV):Z5n args=sl (enum 0 args):=by
 funext i
 have h:=X6x args 0 i
 simpa[Z5n]using h.symm
def Q8x(t:Nat->AV):List (Nat×AV)->Prop
 | []=>True
 | (j,v)::r=>t j=v/\Q8x t r
theorem X8n(t:Nat->AV):Q8x t []=True:=rfl
theorem X4w(t:Nat->AV)(j:Nat)(v:AV)(r:List (Nat×AV)):Q8x t ((j,v)::r)=(t j=v/\Q8x t r):=rfl
theorem Q6n{t:Nat->AV}:∀ {L:List (Nat×AV)},Q8x t L->∀i,sl L i=t i\/sl L i=.any
 | [],_,i=>.inr rfl
 | (j,v)::r,h,i=>by
   simp only[Q8x]at h
   simp only[sl]
   split
   ·rename_i a
    subst a
    exact .inl h.1.symm
   exact Q6n h.2 i
section
variable {E:Env}{O:Orc}{σ σ':St}{k:Nat}{Q:Exit->St->Prop}
theorem K3m{d:Option Nat}{v:AV}{h:List AObj}(a:put σ d v h=some σ'):σ'.n=σ.n:=by
 unfold put at a
 split at a
 ·simp only[G0c]at a
  subst a
  rfl
 split at a
 ·simp only[G0c]at a
  subst a
  rfl
 cases a
theorem V2f{ops:Array Oper}{o:Oper}(h:Q9i E O ops σ o=some σ'):σ'.n=σ.n:=by
 unfold Q9i at h
 split at h
 ·obtain⟨r,_,a⟩:=G1x.1 h
  exact K3m a
 split at h
 ·split at h
  ·split at h
   ·obtain⟨r,_,a⟩:=G1x.1 h
    exact K3m a
   exact K3m h
  ·exact K3m h
  cases h
 cases h
theorem J1q{ops:Array Oper}:∀ {l:List Oper} {σ:St},arun E O ops l σ=some σ'->σ'.n=σ.n
 | [],σ,h=>by
   simp only[arun,G0c]at h
   subst h
   rfl
 | o::l,σ,h=>by
   obtain⟨d,a,b⟩:=G1x.1 h
   exact(J1q b).trans (V2f a)
def Leaves(L:List (Nat×AV))(h':List AObj):Option St->Prop
 | some σ=>Q8x σ.t L/\σ.h=h'
 | none=>False
theorem J8i(L:List (Nat×AV))(h':List AObj)(σ:St):Leaves L h' (some σ)=(Q8x σ.t L/\σ.h=h'):=rfl
theorem AW.reg(hS:Q2d E O){id n:Nat}{t:Nat->AV}{h:List AObj}{ops:Array Oper}(L:List (Nat×AV))(h':List AObj)(b:Leaves L h' (arun E O ops ops.toList ⟨t,n,h⟩))(i:Q .normal ⟨sl L,n,h'⟩):AW E k (.region id ops false) Q ⟨t,n,h⟩:=by
 generalize d:arun E O ops ops.toList ⟨t,n,h⟩=x at b
 cases x with
 | none=>exact b.elim
 | some σ'=>
   have j:=J1q d
   obtain⟨l,m⟩:=b
   have o:AW E k (.region id ops false) (λe σ''=>e=.normal/\σ''=σ') ⟨t,n,h⟩:=AW.region hS d ⟨rfl,rfl⟩
   intro γ₀ H₀ Φ₀ w₀ a w f p
   refine wp_mono (o γ₀ H₀ Φ₀ w₀ a w f p) (λe q w' ⟨σ2,r,u,y⟩=>?_)
   subst u y
   have z:Weak E k σ2 ⟨sl L,σ2.n,σ2.h⟩:=Wq1 (Q6n l)
   have g:=z γ₀ H₀ Φ₀ w₀ q w' f r
   rw[j,m]at g
   exact⟨_,g,i⟩
theorem AW.dreg(i:E.P.follows .mixedOrders=true)(hS:Q2d E O){id n:Nat}{t:Nat->AV}{h:List AObj}{ops:Array Oper}(j:Z8c O.pf ops=true)(L:List (Nat×AV))(h':List AObj)(b:Leaves L h' (arun E O ops ops.toList ⟨t,n,h⟩))(l:Q .normal ⟨sl L,n,h'⟩):AW E k (.region id ops true) Q ⟨t,n,h⟩:=by
 generalize d:arun E O ops ops.toList ⟨t,n,h⟩=x at b
 cases x with
 | none=>exact b.elim
 | some σ'=>
   have m:=J1q d
   obtain⟨o,p⟩:=b
   have q:AW E k (.region id ops true) (λe σ''=>e=.normal/\σ''=σ') ⟨t,n,h⟩:=AW.drawn i hS j d ⟨rfl,rfl⟩
   intro γ₀ H₀ Φ₀ w₀ a w f r
   refine wp_mono (q γ₀ H₀ Φ₀ w₀ a w f r) (λe u w' ⟨σ2,y,z,A⟩=>?_)
   subst z A
   have C:Weak E k σ2 ⟨sl L,σ2.n,σ2.h⟩:=Wq1 (Q6n o)
   have g:=C γ₀ H₀ Φ₀ w₀ u w' f y
   rw[m,p]at g
   exact⟨_,g,l⟩
theorem AW.dregB(i:E.P.follows .mixedOrders=true)(hS:Q2d E O){id n:Nat}{t:Nat->AV}{h:List AObj}{ops:Array Oper}(B:Z1z)(j:(B.all λp=>J3y (t p.1) p.2)=true)(l:Q4e O.pf B ops=true)(L:List (Nat×AV))(h':List AObj)(b:Leaves L h' (arun E O ops ops.toList ⟨t,n,h⟩))(m:Q .normal ⟨sl L,n,h'⟩):AW E k (.region id ops true) Q ⟨t,n,h⟩:=by
 generalize d:arun E O ops ops.toList ⟨t,n,h⟩=x at b
 cases x with
 | none=>exact b.elim
 | some σ'=>
   have o:=J1q d
   obtain⟨q,r⟩:=b
   have u:AW E k (.region id ops true) (λe σ''=>e=.normal/\σ''=σ') ⟨t,n,h⟩:=AW.drawnB i hS l (λp y=>G0p.1 j p y) d ⟨rfl,rfl⟩
   intro γ₀ H₀ Φ₀ w₀ a w f z
   refine wp_mono (u γ₀ H₀ Φ₀ w₀ a w f z) (λe A w' ⟨σ2,C,D,F⟩=>?_)
   subst D F
   have I:Weak E k σ2 ⟨sl L,σ2.n,σ2.h⟩:=Wq1 (Q6n q)
   have g:=I γ₀ H₀ Φ₀ w₀ A w' f C
   rw[o,r]at g
   exact⟨_,g,m⟩
open Classical in
theorem AW.loopI{α:Type}(S:α->St)(p:α->Prop)(d:α->Nat){c:Code}(f:α)(o:p f)(r:∀a,p a->AW E k c (Z2e (λσ'=>∃b,p b/\Weak E k σ' (S b)/\d b<d a) Q) (S a)):AW E k (.loop c) Q (S f):=by
 let q:St->Nat->Prop:=λσ n=>∃a,p a/\S a=σ/\d a=n
 let m:St->Nat:=λσ=>if h:∃n,q σ n then Classical.choose (K4b (q σ) h)else 0
 have g:∀σ,(∃n,q σ n)->q σ (m σ)/\∀n,q σ n->m σ<=n:=by
  intro σ h
  have:=G6e (K4b (q σ) h)
  simp only[m,dif_pos h]
  exact this
 refine AW.loop (λσ=>∃n,q σ n) m ⟨_,f,o,rfl,rfl⟩ (λσ t=>?_)
 obtain⟨⟨a,u,hs,y⟩,z⟩:=g σ t
 subst hs
 refine(r a u).mono (λe σ' i=>?_)
 cases e with
 | normal=>
   obtain⟨b,j,x,A⟩:=i
   have l:∃n,q (S b) n:=⟨d b,b,j,rfl,rfl⟩
   exact⟨S b,x,l,by have:=(g (S b) l).2 (d b) ⟨b,j,rfl,rfl⟩;omega⟩
 | _=>exact i
theorem V5c(a b:Bool):(AV.pv (PV.bool a)=AV.pv (PV.bool b))=(a=true↔b=true):=by
 rw[AV.pv.injEq,PV.bool.injEq,G6d]
theorem V5b(k:Go.IntKind)(a b:Int):(AV.pv (PV.int k a)=AV.pv (PV.int k b))=(a=b):=by
 rw[AV.pv.injEq,PV.int.injEq]
 simp
theorem V0z(a b:Int):(a==b)=decide (a=b):=rfl
theorem V0y(a b:Int):(a != b)=!decide (a=b):=rfl
theorem X6r(a b:List UInt8):(a==b)=decide (a=b):=by
 rw[G6d]
 simp
theorem K9f(a b:List UInt8):(a != b)=!decide (a=b):=by
 rw[bne,X6r]
theorem J7i{n:Int}(a:-9223372036854775808<=n)(b:n<=9223372036854775807):Go.IntKind.i64.wrap n=n:=by
 rw[IntKind.wrap_i64]
 omega
theorem K5k{ops:Array Oper}:arun E O ops [] σ=some σ:=rfl
theorem K0o{ops:Array Oper}{o:Oper}{l:List Oper}:arun E O ops (o::l) σ=(Q9i E O ops σ o).bind (arun E O ops l):=rfl
theorem bind_some{α a:Type}(x:α)(f:α->Option a):(some x).bind f=f x:=rfl
end
end Go.Abs
namespace Go.Abs
open Go.RowKit Go.ChangeShapes Go.WideShapes Go.Deep
def Q1w(P:Program):Nat->TypeId->PV->Prop
 | 0,_,_=>False
 | n+1,t,p=>match P.underlying t with
   | some .bool=>∃b,p=.bool b
   | some (.int k)=>∃m,p=.int k m/\(Lit.int k m).wf=true
   | some .string=>∃s,p=.str s/\s.length<=maxLen
   | some (.slice e)=>∃xs,p=.slice xs/\xs.length<=maxLen/\∀x∈xs,Q1w P n e x/\x.cells.length=P.cellsOf e
   | some (.struct d)=>∃a:List PV,p=.agg (a.flatMap PV.cells)/\a.length=d.size/\∀ (i:Nat) f q,d[i]?=some f->a[i]?=some q->Q1w P n f.type q
   | _=>False
theorem Q1w.mono{P:Program}:∀ {n:Nat} {t:TypeId} {p:PV},Q1w P n t p->Q1w P (n+1) t p
 | 0,_,_,h=>by cases h
 | n+1,t,p,h=>by
   rw[Q1w]at h |-
   split at h
   ·exact h
   ·exact h
   ·exact h
   ·obtain⟨xs,a,b,c⟩:=h
    exact⟨xs,a,b,λx d=>⟨(c x d).1.mono,(c x d).2⟩⟩
   ·obtain⟨e,a,b,c⟩:=h
    exact⟨e,a,b,λi f q g hq=>(c i f q g hq).mono⟩
   cases h
def J1m(P:Program):List Field->Nat->Option Nat
 | [],o=>some o
 | f::a,o=>if f.offset=o then J1m P a (o+P.cellsOf f.type)else none
def supp(P:Program):Nat->TypeId->Bool
 | 0,_=>false
 | n+1,t=>match P.underlying t with
   | some .bool=>P.cellsOf t==1
   | some (.int _)=>P.cellsOf t==1
   | some .string=>P.cellsOf t==1
   | some (.slice e)=>P.cellsOf t==1&&(supp P n e&&P.cellsOf e != 0)
   | some (.struct a)=>J1m P a.toList 0==some (P.cellsOf t)&&a.toList.all λf=>supp P n f.type
   | _=>false
def K9c(P:Program)(S:List TypeId):Bool:=S.all λt=>match P.underlying t with
 | some .bool=>P.cellsOf t==1
 | some (.int _)=>P.cellsOf t==1
 | some .string=>P.cellsOf t==1
 | some (.slice e)=>P.cellsOf t==1&&(S.contains e&&P.cellsOf e != 0)
 | some (.struct a)=>J1m P a.toList 0==some (P.cellsOf t)&&a.toList.all λf=>S.contains f.type
 | _=>false
section
variable {H:Type}{enc:TypeId×Value->H}{P:Program}{w:World}
def Low(w:World)(b _:Nat):Prop:=b<w.heap.size
theorem K0f{a:Addr}{v:Value}(h:w.cell? a=some v):a.block<w.heap.size/\a.spot=none:=by
 unfold World.cell? at h
 split at h
 ·rename_i hb
  refine⟨(G1r.1 hb).1,?_⟩
  split at h
  ·cases h
  rename_i hs
  simpa using hs
 cases h
theorem Q1p{Φ:Nat->Nat->Prop}{v:Value}{p:PV}(d:p.one=true)(h:Rep Φ w v p):Q1f Φ w [v] p.cells:=by
 have a:p.cells=[p]:=by cases p<;>first|rfl|simp[PV.one]at d
 rw[a]
 refine⟨rfl,λc a=>by simp at a;subst a;exact d,λk v' c b e=>?_⟩
 cases k with
 | zero=>simp only[G0s,G0c]at b e;subst b e;exact h
 | succ k=>simp at b
theorem Z3z{base:Nat}{n:Bool}(cs:List Value)(m:Nat)(R:TypeId->PV->Prop):
 ∀ (a:List Field) (o e:Nat) (ys:List (DataW H×List MemPlace)),J1m P a o=some e->
  (∀f∈a,∀ (cs:List Value) (x:DataW H×List MemPlace),DataW.trod enc P w base (λ_=>true) n m f.type cs=some x->∃p,Q1f (Low w) w cs p.cells/\R f.type p/\cs.length=P.cellsOf f.type)->e=cs.length->ys.length=a.length->
  (∀ (i:Nat) (f:Field),a[i]?=some f->DataW.trod enc P w base (λ_=>true) n m f.type ((cs.drop f.offset).take (P.cellsOf f.type))=ys[i]?)->
  ∃j:List PV,j.length=a.length/\(∀ (i:Nat) f q,a[i]?=some f->j[i]?=some q->R f.type q)/\Q1f (Low w) w (cs.drop o) (j.flatMap PV.cells)
 | [],o,e,ys,b,_,t,_,_=>by
   simp only[J1m,G0c]at b
   refine⟨[],rfl,λi f q C=>by simp at C,?_⟩
   rw[G2f (by omega)]
   exact⟨rfl,λc b=>by simp at b,λk v c D=>by simp at D⟩
 | f::a,o,e,ys,b,hs,t,u,z=>by
   simp only[J1m]at b
   split at b
   ·rename_i F
    cases ys with
    | nil=>simp at u
    | cons y ys=>
      have A:=z 0 f rfl
      simp only[G0s]at A
      obtain⟨q,hq,I,N⟩:=hs f G1g _ y A
      obtain⟨j,J,K,L⟩:=Z3z cs m R a (o+P.cellsOf f.type) e ys b (λg d=>hs g (G1l _ d)) t (by simpa using u) (λi g d=>by
       have:=z (i+1) g (by simpa using d)
       simpa using this)
      refine⟨q::j,by simp[J],λi g r d l=>?_,?_⟩
      ·cases i with
       | zero=>simp only[G0s,G0c]at d l;subst d l;exact I
       | succ i=>rw[G1f]at d l;exact K i g r d l
      have M:cs.drop o=(cs.drop f.offset).take (P.cellsOf f.type)++cs.drop (o+P.cellsOf f.type):=by
       rw[<-F,<-G8a,G2t]
      rw[M,G4m]
      exact Q5w hq L
   cases b
theorem J4y{base:Nat}{e:TypeId}{a:Addr}{len cap:Nat}(Q:PV->Prop)(ag:¬ P.cellsOf e=0)(S:len<=cap)(C:cap<=maxLen)
 (T:∀i,i<len->∃cs',w.cells? base (a.add (i * P.cellsOf e)) (P.cellsOf e)=some cs'/\∃p:PV,Q1f (Low w) w cs' p.cells/\Q p/\cs'.length=P.cellsOf e):
 ∃xs:List PV,Q1f (Low w) w [.slice (some a) len cap] (PV.slice xs).cells/\xs.length<=maxLen/\∀y∈xs,Q y/\y.cells.length=P.cellsOf e:=by
 have U:∀i,∃p:PV,i<len->∃cs',w.cells? base (a.add (i * P.cellsOf e)) (P.cellsOf e)=some cs'/\Q1f (Low w) w cs' p.cells/\Q p/\cs'.length=P.cellsOf e:=by
  intro i
  by_cases l:i<len
  ·obtain⟨cs',q,V⟩:=T i l
   obtain⟨p,d,b,g⟩:=V
   exact⟨p,λ_=>⟨cs',q,d,b,g⟩⟩
  exact⟨.nil,λh=>absurd h l⟩
 have ⟨f,r⟩:=Classical.axiomOfChoice U
 have t:((List.range len).map f).length=len:=by simp
 have D:∀y∈(List.range len).map f,Q y/\y.cells.length=P.cellsOf e:=by
  intro y u
  obtain⟨i,l,rfl⟩:=G3r.1 u
  obtain⟨cs',_,d,b,g⟩:=r i (G1y.1 l)
  exact⟨b,by rw[<-d.1,g]⟩
 refine⟨(List.range len).map f,?_,by rw[t];omega,D⟩
 by_cases W:len=0
 ·subst W
  exact Q1p rfl (.sliceAny a cap C)
 have F:∀i,i<len->∀j,j<P.cellsOf e->∃v c,w.cell? ⟨a.block,a.off+(i * P.cellsOf e+j),none⟩=some v/\(f i).cells[j]?=some c/\c.one=true/\Rep (Low w) w v c/\a.block<w.heap.size/\a.spot=none:=by
  intro i l j X
  obtain⟨cs',q,d,b,g⟩:=r i l
  obtain⟨_,ah,hat⟩:=World.cells?_some q
  have I:cs'[j]?=some (cs'[j]'(by omega)):=G0f (by omega)
  have x:j<(f i).cells.length:=by rw[<-d.1];omega
  have m:=hat j X
  rw[I]at m
  have n:a.spot=none:=by
   have Y:0<len:=by omega
   obtain⟨ak,aa,_⟩:=r 0 Y
   obtain⟨_,al,ac⟩:=World.cells?_some aa
   have:=ac 0 (by omega)
   rw[G0f (by omega)]at this
   have h':=(K0f this).2
   simpa[Addr.add]using h'
  have ad:(a.add (i * P.cellsOf e)).add j=⟨a.block,a.off+(i * P.cellsOf e+j),none⟩:=by
   rw[Go.Deep.add_add]
   unfold Addr.add
   split
   ·rename_i h
    rw[h,<-n]
    rfl
   rfl
  rw[ad]at m
  refine⟨_,_,m,G0f x,d.2.1 _ (G4d x),d.2.2 j _ _ I (G0f x),?_,n⟩
  exact(K0f m).1
 have J:0<P.cellsOf e:=by omega
 obtain⟨_,_,_,_,_,_,ae,n⟩:=F 0 (by omega) 0 J
 have ha:a=⟨a.block,a.off,none⟩:=by rw[<-n]
 rw[ha]
 have z:∀y∈(List.range len).map f,y.cells.length=P.cellsOf e:=λy u=>(D y u).2
 have K:=Q0s z
 rw[t]at K
 have hat:∀k,k<(flat ((List.range len).map f)).length->∃v c,w.cell? ⟨a.block,a.off+k,none⟩=some v/\(flat ((List.range len).map f))[k]?=some c/\c.one=true/\Rep (Low w) w v c:=by
  intro k hk
  rw[K]at hk
  have L:k / P.cellsOf e<len:=G7l (by rw[G7e];exact hk)
  have M:=G9e k J
  obtain⟨v,c,d,b,g,A,_,_⟩:=F _ L _ M
  have N:k / P.cellsOf e * P.cellsOf e+k % P.cellsOf e=k:=by rw[G7e];exact G8n _ _
  rw[N]at d
  refine⟨v,c,d,?_,g,A⟩
  have:=Q5v z (k / P.cellsOf e) (k % P.cellsOf e) (f (k / P.cellsOf e)) (by rw[G1i,G4f L];rfl) M
  rw[N]at this
  rw[this]
  exact b
 refine Q1p rfl (.slice a.block a.off len cap (P.cellsOf e) _ (λk=>(w.cell? ⟨a.block,a.off+k,none⟩).getD undef) t S C z (λc o=>?_) (λk hk=>?_) (λk c o=>?_))
 ·obtain⟨k,hk,rfl⟩:=G3f o
  obtain⟨v,c',_,b,g,_⟩:=hat k hk
  rw[G0f hk]at b
  injection b with b
  rw[b]
  exact g
 ·obtain⟨v,c',d,_⟩:=hat k hk
  exact⟨ae,by rw[d];rfl⟩
 have hk:=(G0j.1 o).1
 obtain⟨v,c',d,b,_,A⟩:=hat k hk
 rw[o]at b
 injection b with b
 subst b
 rw[d]
 exact A
theorem Y4n{base:Nat}{F:Bool}:∀ (n:Nat) (t:TypeId) (l:Nat) (cs:List Value) (x:DataW H×List MemPlace),supp P n t=true->DataW.trod enc P w base (λ_=>true) F l t cs=some x->
 ∃p,Q1f (Low w) w cs p.cells/\Q1w P n t p/\cs.length=P.cellsOf t:=by
 intro n
 induction n with
 | zero=>intro t l cs x hs;simp[supp]at hs
 | succ n y=>
   intro t l cs x hs g
   simp only[supp]at hs
   simp only[Q1w]
   split at hs
   ·rename_i d
    obtain⟨b,rfl,_⟩:=DataW.trod_bool d g
    exact⟨.bool b,Q1p rfl (.bool b),⟨b,rfl⟩,by simp at hs;simp[hs]⟩
   ·rename_i k d
    obtain⟨m,rfl,_,I⟩:=DataW.trod_int d g
    exact⟨.int k m,Q1p rfl (.int k m),⟨m,rfl,I⟩,by simp at hs;simp[hs]⟩
   ·rename_i d
    obtain⟨s,rfl,_,J⟩:=DataW.trod_string d g
    refine⟨.str s.data.toList,Q1p rfl (.str s.data.toList),⟨s.data.toList,rfl,?_⟩,by simp at hs;simp[hs]⟩
    simpa using J
   ·rename_i e d
    simp only[G0d,G3o,G6w,ne_eq]at hs
    obtain⟨z,K,L⟩:=hs
    rcases open_slice d g with⟨rfl,_⟩|⟨a,len,cap,m,k,D,Pl,rfl,hb,M,N,S,_,T⟩
    ·exact⟨.slice [],Q1p rfl .sliceNil,⟨[],rfl,G1t _,λx U=>by cases U⟩,by simp[z]⟩
    simp only[if_true]at S
    obtain⟨xs,o,r,u⟩:=J4y (base:=base) (Q1w P n e) L M N (λi hi=>by
     obtain⟨cs',V,W⟩:=T i (by omega)
     exact⟨cs',V,y e k cs' _ K W⟩)
    exact⟨.slice xs,o,⟨xs,rfl,r,u⟩,by simp[z]⟩
   ·rename_i X d
    simp only[G0d,G3o]at hs
    obtain⟨ys,k,_,_,A,Y,aa⟩:=DataW.trod_struct d g
    obtain⟨C,o,r,u⟩:=Z3z cs k (Q1w P n) X.toList 0 _ ys hs.1 (λf j cs x h=>y f.type k cs x (G0p.1 hs.2 f j) h) A.symm (by simpa using Y) (λi f j=>aa i f (by simpa using j))
    refine⟨.agg (C.flatMap PV.cells),?_,⟨C,rfl,by simpa using o,λi f q j hq=>r i f q (by simpa using j) hq⟩,A⟩
    simpa[PV.cells]using u
   cases hs
theorem X6h{base:Nat}{C:Bool}{S:List TypeId}(hS:K9c P S=true):∀ (n:Nat) (t:TypeId) (cs:List Value) (x:DataW H×List MemPlace),t∈S->DataW.trod enc P w base (λ_=>true) C n t cs=some x->
 ∃p,Q1f (Low w) w cs p.cells/\Q1w P n t p/\cs.length=P.cellsOf t:=by
 intro n
 induction n with
 | zero=>intro t cs x _ h;simp[DataW.trod]at h
 | succ n u=>
   intro t cs x D g
   have hs:=G0p.1 hS t D
   simp only[Q1w]
   split at hs
   ·rename_i d
    obtain⟨b,rfl,_⟩:=DataW.trod_bool d g
    exact⟨.bool b,Q1p rfl (.bool b),⟨b,rfl⟩,by simp at hs;simp[hs]⟩
   ·rename_i k d
    obtain⟨m,rfl,_,F⟩:=DataW.trod_int d g
    exact⟨.int k m,Q1p rfl (.int k m),⟨m,rfl,F⟩,by simp at hs;simp[hs]⟩
   ·rename_i d
    obtain⟨s,rfl,_,I⟩:=DataW.trod_string d g
    refine⟨.str s.data.toList,Q1p rfl (.str s.data.toList),⟨s.data.toList,rfl,?_⟩,by simp at hs;simp[hs]⟩
    simpa using I
   ·rename_i e d
    simp only[G0d,G3o,G6w,ne_eq,G5m]at hs
    obtain⟨y,J,K⟩:=hs
    rcases DataW.trod_slice d g with⟨rfl,_⟩|⟨a,len,cap,aa,rest,k,hk,rfl,rfl,hb,L,M,ac,hat,_,_⟩
    ·exact⟨.slice [],Q1p rfl .sliceNil,⟨[],rfl,G1t _,λx N=>by cases N⟩,by simp[y]⟩
    obtain rfl:n=k:=G9f hk
    obtain⟨xs,l,o,r⟩:=J4y (base:=base) (Q1w P n e) K L M (λi T=>by
     have h:=hat i T
     rw[G0f (by omega)]at h
     obtain⟨cs',U,V⟩:=G1x.1 h
     exact⟨cs',U,u e cs' _ J V⟩)
    exact⟨.slice xs,l,⟨xs,rfl,o,r⟩,by simp[y]⟩
   ·rename_i W d
    simp only[G0d,G3o]at hs
    obtain⟨ys,k,hk,_,z,X,Y⟩:=DataW.trod_struct d g
    obtain rfl:n=k:=G9f hk
    obtain⟨A,l,o,r⟩:=Z3z cs n (Q1w P n) W.toList 0 _ ys hs.1 (λf j cs x h=>u f.type cs x (by have:=G0p.1 hs.2 f j;rwa [G5m]at this) h) z.symm (by simpa using X) (λi f j=>Y i f (by simpa using j))
    refine⟨.agg (A.flatMap PV.cells),?_,⟨A,rfl,by simpa using l,λi f q j hq=>o i f q (by simpa using j) hq⟩,z⟩
    simpa[PV.cells]using r
   cases hs
theorem J8b{n:Nat}{t:TypeId}{v:Value}{r:Reach}{b:Nat}{p:PV}(hs:(match P.underlying t with|some .bool|some (.int _)|some .string|some (.slice _)|some (.struct _)=>true|_=>false)=true)(i:Value.okWide P w r b t v)(g:Q1f (Low w) w v.cells.toList p.cells)(f:Q1w P n t p):
 ∃p,Rep (Low w) w v p/\Q1w P n t p:=by
 cases n with
 | zero=>cases f
 | succ n=>
   have one:∀p:PV,p.one=true->v.cells=#[v]->Q1f (Low w) w v.cells.toList p.cells->Rep (Low w) w v p:=by
    intro p o q m
    have u:p.cells=[p]:=by cases p<;>first|rfl|simp[PV.one]at o
    rw[q,u]at m
    exact m.2.2 0 v p rfl rfl
   simp only[Q1w]at f
   split at hs
   ·rename_i d
    rw[d]at f
    obtain⟨b,rfl⟩:=okWide_bool d i
    obtain⟨b',rfl⟩:=f
    exact⟨_,one _ rfl rfl g,by simp only[Q1w,d];exact⟨_,rfl⟩⟩
   ·rename_i k d
    rw[d]at f
    obtain⟨b,rfl⟩:=okWide_int d i
    obtain⟨b',rfl,j⟩:=f
    exact⟨_,one _ rfl rfl g,by simp only[Q1w,d];exact⟨_,rfl,j⟩⟩
   ·rename_i d
    rw[d]at f
    obtain⟨b,rfl⟩:=okWide_string d i
    obtain⟨b',rfl,j⟩:=f
    exact⟨_,one _ rfl rfl g,by simp only[Q1w,d];exact⟨_,rfl,j⟩⟩
   ·rename_i e d
    rw[d]at f
    obtain⟨a,len,cap,rfl⟩:=okWide_slice d i
    obtain⟨xs,rfl,j⟩:=f
    exact⟨_,one _ rfl rfl g,by simp only[Q1w,d];exact⟨_,rfl,j⟩⟩
   ·rename_i x d
    rw[d]at f
    obtain⟨cs,rfl,_⟩:=okWide_struct d i
    obtain⟨y,rfl,hq⟩:=f
    obtain⟨l⟩:=cs
    exact⟨_,.agg l _ g.1 g.2.1 g.2.2,by simp only[Q1w,d];exact⟨_,rfl,hq⟩⟩
   cases hs
theorem X4q{S:List TypeId}(hS:K9c P S=true){t:TypeId}{v:Value}{d:DataW H}{ps:List MemPlace}{r:Reach}{b:Nat}(hs:t∈S)(f:Value.okWide P w r b t v)(h:DataW.Trod enc P w 0 (λ_=>true) true t v d ps):
 ∃p,Rep (Low w) w v p/\∃n,Q1w P n t p:=by
 obtain⟨e,g⟩:=h
 obtain⟨p,i,j,l⟩:=X6h hS e t _ _ hs g
 obtain⟨q,a,b⟩:=J8b (by
  have:=G0p.1 hS t hs
  split at this<;>first|(simp only;done)|(exact absurd this (by decide))) f i j
 exact⟨q,a,e,b⟩
end
end Go.Abs
namespace Go.Abs
open Go.RowKit Go.ChangeShapes Go.WideShapes
section
variable {H:Type}{enc:TypeId×Value->H}
theorem Good.calls{E:Env}{f:FuncId}{ps:List PV}(q:Good E f (ps.map AV.pv) [] [.pv (.bool true)] []){W:World}{vs:List Value}(r:E.GI W)(t:E.gN<=W.heap.size)(x:vs.length=ps.length)(y:∀ (i:Nat) v p,vs[i]?=some v->ps[i]?=some p->Rep (Low W) W v p):
 Calls E.P f ⟨vs⟩ W λe W'=>e=.returned (.bool true)/\Below W.heap.size W W':=by
 have z:OInv E [] [] (Low W) W:=⟨rfl,λl o g h=>by simp at h,λi j J K h=>by simp at h,λi g h=>by simp at h,λb k h=>h,r,t⟩
 refine(q W (Low W) [] vs z (by simpa using x) (λi v a m n=>?_)).mono λe W' ⟨us,L,Φ',A,d,C,D⟩=>?_
 ·rw[G1i]at n
  obtain⟨p,F,rfl⟩:=G0k.1 n
  exact .pv (y i v p m F)
 match us,C with
 | [u],_=>
   have I:=D 0 u _ rfl rfl
   have m:=Z0a (Q0p I)
   subst m
   refine⟨A,⟨d.since.os,d.since.tape,d.since.output,d.since.size,λk hk=>?_⟩⟩
   exact d.since.foreign k hk (λi g h=>by simp at h)
theorem Z5a{P:Program}{w:World}{r:Reach}{b:Nat}(TY:TypeId->PV->Prop):∀ {ts:List TypeId} {vs:List Value} {ds:List (DataW H)} {ps:List MemPlace},
 (∀t∈ts,∀ (v:Value) (d:DataW H) (ps:List MemPlace),Value.okWide P w r b t v->DataW.Trod enc P w 0 (λ_=>true) true t v d ps->∃p,Rep (Low w) w v p/\TY t p)->(∀ (i:Nat) t v,ts[i]?=some t->vs[i]?=some v->Value.okWide P w r b t v)->
 DataW.TrodAll enc P w 0 (λ_=>true) true ts vs ds ps->∃g:List PV,vs.length=g.length/\g.length=ts.length/\ds.length=ts.length/\(∀ (i:Nat) v p,vs[i]?=some v->g[i]?=some p->Rep (Low w) w v p)/\∀ (i:Nat) t p,ts[i]?=some t->g[i]?=some p->TY t p
 | [],[],[],_,_,_,_=>⟨[],rfl,rfl,rfl,λi v p h=>by simp at h,λi t p h=>by simp at h⟩
 | t::ts,v::vs,d::ds,ps,hs,f,h=>by
   obtain⟨p,q,j,l,_⟩:=h
   obtain⟨x,m,n⟩:=hs t (by simp) v d p (f 0 t v rfl rfl) j
   obtain⟨g,o,u,y,z,A⟩:=Z5a TY (λt e=>hs t (by simp[e])) (λi t v e C=>f (i+1) t v (by simpa using e) (by simpa using C)) l
   refine⟨x::g,by simp[o],by simp[u],by simp[y],λi v p f a=>?_,λi t p e a=>?_⟩
   ·cases i with
    | zero=>simp only[G0s,G0c]at f a;subst f a;exact m
    | succ i=>rw[G1f]at f a;exact z i v p f a
   cases i with
   | zero=>simp only[G0s,G0c]at e a;subst e a;exact n
   | succ i=>rw[G1f]at e a;exact A i t p e a
 | [],[],_::_,_,_,_,h=>h.elim
 | [],_::_,_,_,_,_,h=>h.elim
 | _::_,[],_,_,_,_,h=>h.elim
 | _::_,_::_,[],_,_,_,h=>h.elim
theorem Z2a{P:Program}(b:laidOutB P=true){W W':World}{sp:Nat->Bool}:∀ {ts:List TypeId} {vs:List Value} {ds:List (DataW H)} {ps:List MemPlace},(∀t∈ts,P.readableRec t=true/\t<P.types.size)->
 DataW.TrodAll enc P W 0 (λ_=>true) true ts vs ds ps->(∀p∈ps,W.sameAt W' p)->(∀p∈ps,sp p.block=true)->DataW.TrodAll enc P W' 0 sp true ts vs ds ps
 | [],[],[],_,_,h,_,_=>h
 | t::ts,v::vs,d::ds,ps,hs,h,e,f=>by
   obtain⟨p,q,g,hb,rfl⟩:=h
   exact⟨p,q,WideElems.Trod_stays b (hs t (by simp)).1 (hs t (by simp)).2 g (λx a=>e x (by simp[a])) (λx a=>f x (by simp[a])),
    Z2a b (λt i=>hs t (by simp[i])) hb (λx a=>e x (by simp[a])) (λx a=>f x (by simp[a])),rfl⟩
 | [],[],_::_,_,_,h,_,_=>h.elim
 | [],_::_,_,_,_,h,_,_=>h.elim
 | _::_,[],_,_,_,h,_,_=>h.elim
 | _::_,_::_,[],_,_,h,_,_=>h.elim
theorem X4o{P:Program}{f:Func}{s:ChangeSpec}{g q u x:Bool}{W W':World}{args:Array Value}{v:Value}{ds gs:List (DataW H)}{before pa pv:List MemPlace}
 (e:DataW.Whole enc P f.params.toList s.vars g W args.toList ds gs before)
 (i:∀ (b:Nat) (sp:Nat->Bool) (hd:Bool),DataW.TrodAll enc P W' b sp hd f.resultTypes.toList (v.resultList f.resultTypes.size) (s.fn H (ds++gs)).results [])
 (l:∀sp:Nat->Bool,(∀p∈before,sp p.block=true)->DataW.TrodAll enc P W' 0 sp true f.params.toList args.toList (s.fn H (ds++gs)).args pa)
 (m:∀sp:Nat->Bool,(∀p∈before,sp p.block=true)->DataW.TrodVars enc P W' sp s.vars (s.fn H (ds++gs)).vars pv)
 (d:before=pa++pv) (hb:Below W.heap.size W W')
 (y:∀ (j:Nat) (t:TypeId) (r:Value),f.resultTypes[j]?=some t->(v.resultList f.resultTypes.size)[j]?=some r->Value.okWide P W' .any 0 t r):
 s.post enc P f g q u x W args v W':=by
 have n:∀p∈before,p.block<W.heap.size:=λp a=>e.lt p a
 have hold:∀p∈before,(λb=>decide (b<W.heap.size)) p.block=true:=λp a=>by simpa using n p a
 refine⟨ds,gs,before,[],pa,pv,e,i _ _ _,l _ hold,m _ hold,World.keptBut_mono (λp a=>⟨a,?_⟩) (hb.frame (·∈before)),λ_=>?_⟩
 ·rw[d,G2z]at a
  exact Or.inr a
 obtain⟨_,_,_,_,_,z,A⟩:=e
 refine⟨y,_,_,([]++pa)++pv,⟨[]++pa,pv,trodAll_append (l _ (λ_ _=>rfl)) (i _ _ _),m _ (λ_ _=>rfl),rfl,?_,?_⟩,?_⟩
 ·intro b off a
  have o:MemPlace.cell b off∈before:=by rw[d];simpa using a
  rw[hb.frozen (n _ o)]
  exact z b off o
 ·intro C
  have:=A C
  rw[d]at this
  simpa using this
 intro p a _
 rw[d]
 simpa using a
theorem V0r{E:Env}{C:Checked}(M:E.P=C.prog){os:Os}{f:FuncId}{fn:Func}{s:ChangeSpec}{z:List PathCond}{m N S T:Bool}{X:World->Array Value->Prop}(TY:TypeId->PV->Prop){tb:TypeId}
 (own:ownKnob C.prog.godebug=none) (U:os.Started) (V:C.prog.inits.idxOf? f=none) (Y:C.prog.funcs[f]?=some fn) (aa:laidOutB C.prog=true)
 (A:s.vars=[]) (ac:∀ds:List (DataW H),ds.length=fn.params.size->s.fn H ds={ results:=[.lit (.bool true)],args:=ds })
 (D:fn.resultTypes=#[tb]) (F:C.prog.underlying tb=some .bool)
 (hT:∀t∈fn.params.toList,∀ (w:World) (r:Reach) (b:Nat) (v:Value) (d:DataW H) (ps:List MemPlace),Value.okWide C.prog w r b t v->DataW.Trod enc C.prog w 0 (λ_=>true) true t v d ps->∃p,Rep (Low w) w v p/\TY t p)
 (ad:fn.params.toList.all (λt=>C.prog.readableRec t&&decide (t<C.prog.types.size))=true)
 (hG:∀W:World,W.ShapedOpen C.prog->(∃a,X W.memory a)->E.GI W/\E.gN<=W.heap.size)
 (ae:∀ps:List PV,ps.length=fn.params.size->(∀ (i:Nat) t p,fn.params[i]?=some t->ps[i]?=some p->TY t p)->Good E f (ps.map AV.pv) [] [.pv (.bool true)] [])
 (af:∃ (w:World) (j:Tape) (i:Input),w.os=os/\(w.forCall j i).Shaped C.prog/\i.vars=[]/\Input.okWide C.prog (w.forCall j i) .any w.heap.size f i/\
   ((s.pre enc C.prog fn z m (w.forCall j i).memory i.args/\X (w.forCall j i).memory i.args)/\sizedMet enc C.prog fn (OpenSpec.ofChange s) m (w.forCall j i).memory i.args)/\({}:Assume).holds C.prog (lone (Frame.enter C.prog f i.args .normal) [] (w.forCall j i))):
 ReturnsInHanded {} C os f .any (λw args=>(s.pre enc C.prog fn z m w args/\X w args)/\sizedMet enc C.prog fn (OpenSpec.ofChange s) m w args) (s.post enc C.prog fn m N S T):=by
 refine returnsInHanded_of_calls own U V af ?_
 intro w j i _ ag _ ah ak _
 obtain⟨_,_,_,n,al,_,_,_,aL,am⟩:=ah
 have e:n=fn:=G3p (al.symm.trans Y)
 subst e
 obtain⟨⟨⟨ds,gs,before,hw,_⟩,hX⟩,_⟩:=ak
 have I:=DataW.Whole.of_heap (w':=w.forCall j i) (by rfl) hw
 have aq:∀t∈n.params.toList,C.prog.readableRec t=true/\t<C.prog.types.size:=λt l=>by
  have:=G0p.1 ad t l
  rw[G0d,G0l]at this
  exact this
 have J:=I
 obtain⟨p,q,K,o,rfl,_,_⟩:=I
 obtain⟨qs,e1,e2,e3,e4,e5⟩:=Z5a TY (λt l v d ps=>hT t l _ _ _ v d ps) (λi t v l hv=>am i t v (by simpa using l) (by simpa using hv)) K
 rw[A]at o
 obtain⟨aB,hq⟩:gs=[]/\q=[]:=by
  cases gs with
  | nil=>exact⟨rfl,o⟩
  | cons g gs=>exact o.elim
 subst aB hq
 obtain⟨aD,aE⟩:=hG _ ag ⟨_,hX⟩
 have L:=Good.calls (ae qs (by simpa using e2) (λi t p l hp=>e5 i t p (by simpa using l) hp)) (W:=w.forCall j i) (vs:=i.args.toList) aD aE e1 e4
 rw[M]at L
 refine Calls.mono L λe W' ⟨he,hb⟩=>?_
 subst he
 have aH:ds.length=n.params.size:=by simpa using e3
 have u:s.fn H (ds++[])={ results:=[.lit (.bool true)],args:=ds }:=by
  rw[G0n]
  exact ac ds aH
 refine ChangeSpec.post_blind (X4o (pa:=p) (pv:=[]) J (λb sp hd=>?_) (λsp aI=>?_) (λsp _=>?_) rfl hb (ok_one D rfl (okWide_bool_mk F _)))
 ·rw[u,D]
  exact trodAll_mk1 (shut_bool F _)
 ·rw[u]
  refine Z2a aa aq K (λx y=>hb.same ?_) (λx y=>aI x (by simp[y]))
  exact J.lt x (by simp[y])
 rw[u,A]
 exact rfl
theorem V0s{E:Env}{C:Checked}(o:E.P=C.prog){os:Os}{f:FuncId}{fn:Func}{s:ChangeSpec}{l:List PathCond}{g q u x:Bool}{X:World->Array Value->Prop}(S:List TypeId){tb:TypeId}
 (own:ownKnob C.prog.godebug=none) (y:os.Started) (z:C.prog.inits.idxOf? f=none) (A:C.prog.funcs[f]?=some fn) (D:laidOutB C.prog=true)
 (F:s.vars=[]) (I:∀ds:List (DataW H),ds.length=fn.params.size->s.fn H ds={ results:=[.lit (.bool true)],args:=ds })
 (J:fn.resultTypes=#[tb]) (K:C.prog.underlying tb=some .bool)
 (hS:K9c C.prog S=true) (m:fn.params.toList.all (λt=>S.contains t&&(C.prog.readableRec t&&decide (t<C.prog.types.size)))=true)
 (hG:∀W:World,W.ShapedOpen C.prog->(∃a,X W.memory a)->E.GI W/\E.gN<=W.heap.size)
 (L:∀ps:List PV,ps.length=fn.params.size->(∀ (i:Nat) t p,fn.params[i]?=some t->ps[i]?=some p->∃n,Q1w C.prog n t p)->Good E f (ps.map AV.pv) [] [.pv (.bool true)] [])
 (M:∃ (w:World) (e:Tape) (i:Input),w.os=os/\(w.forCall e i).Shaped C.prog/\i.vars=[]/\Input.okWide C.prog (w.forCall e i) .any w.heap.size f i/\
   ((s.pre enc C.prog fn l g (w.forCall e i).memory i.args/\X (w.forCall e i).memory i.args)/\sizedMet enc C.prog fn (OpenSpec.ofChange s) g (w.forCall e i).memory i.args)/\({}:Assume).holds C.prog (lone (Frame.enter C.prog f i.args .normal) [] (w.forCall e i))):
 ReturnsInHanded {} C os f .any (λw args=>(s.pre enc C.prog fn l g w args/\X w args)/\sizedMet enc C.prog fn (OpenSpec.ofChange s) g w args) (s.post enc C.prog fn g q u x):=
 V0r o (λt p=>∃n,Q1w C.prog n t p) own y z A D F I J K
  (λt j w r b v d ps N h=>X4q hS (by
    have:=G0p.1 m t j
    rw[G0d,G5m]at this
    exact this.1) N h)
  (G0p.2 λt j=>by
    have:=G0p.1 m t j
    rw[G0d]at this
    exact this.2) hG L M
end
end Go.Abs
namespace Go.Abs
inductive Sub:PV->List PV->Prop
 | here (xs:List PV):Sub (.slice xs) xs
 | elem {xs:List PV} {x:PV} {ys:List PV} (hx:x∈flat xs) (h:Sub x ys):Sub (.slice xs) ys
 | cell {cs:List PV} {c:PV} {ys:List PV} (hc:c∈cs) (h:Sub c ys):Sub (.agg cs) ys
def mp(m:List (List UInt8×Int)):List (PV×PV):=m.map λx=>(.str x.1,.int .i64 x.2)
theorem K6v{m:Nat}:∀ {L:List (Nat×AV)},(L.all λp=>p.2.ltB m)=true->∀i,scr m (sl L i)=sl L i
 | [],_,i=>rfl
 | (j,v)::r,h,i=>by
   simp only[G2m,G0d]at h
   simp only[sl]
   split
   ·unfold scr
    rw[if_pos h.1]
   exact K6v h.2 i
theorem Weak.cut{E:Env}{k m n:Nat}{L:List (Nat×AV)}{H H':List AObj}(hk:k<=m)(a:H.take m=H')(b:H'.all (AObj.ltB m)=true)(d:(L.all λp=>p.2.ltB m)=true):Weak E k ⟨sl L,n,H⟩ ⟨sl L,n,H'⟩:=by
 have h:=Weak.scrub (E:=E) (σ:=⟨sl L,n,H⟩) hk (by rw[a];exact b)
 have e:Go.Abs.scrub m ⟨sl L,n,H⟩=⟨sl L,n,H'⟩:=by
  unfold Go.Abs.scrub
  simp only[a]
  congr 1
  funext i
  exact K6v d i
 rw[e]at h
 exact h
end Go.Abs
namespace Go.Abs
open Go.RowKit
theorem Good.lib{E:Env}{f:FuncId}{ps rs:List PV}
 (h:∀ (w:World) (Φ:Nat->Nat->Prop) (vs:List Value),E.GI w->(∀b k,Φ b k->b<w.heap.size)->vs.length=ps.length->(∀ (i:Nat) v p,vs[i]?=some v->ps[i]?=some p->Rep Φ w v p)->
   Calls E.P f ⟨vs⟩ w λe w'=>∃ (us:List Value) (Φ':Nat->Nat->Prop),e=.returned (retV us)/\us.length=rs.length/\Below w.heap.size w w'/\(∀b k,Φ b k->Φ' b k)/\(∀b k,Φ' b k->b<w.heap.size->Φ b k)/\(∀b k,Φ' b k->b<w'.heap.size)/\
    ∀ (i:Nat) u r,us[i]?=some u->rs[i]?=some r->Rep Φ' w' u r):Good E f (ps.map AV.pv) [] (rs.map AV.pv) []:=by
 intro w Φ γ m d n o
 refine(h w Φ m d.gi d.phi (by simpa using n) (λi v p g j=>?_)).mono λe w' ⟨us,Φ',q,t,hb,x,y,z,A⟩=>?_
 ·exact Q0p (o i v (.pv p) g (by rw[G1i,j];rfl))
 refine⟨us,γ,Φ',q,d.grow hb.block hb.size hb.os hb.tape hb.output x y z,by simpa using t,λi v a g l=>?_⟩
 rw[G1i]at l
 obtain⟨p,j,rfl⟩:=G0k.1 l
 exact .pv (A i v p g j)
theorem J0v{Φ:Nat->Nat->Prop}{w:World}{v:Value}{xs:List (List UInt8)}(h:Rep Φ w v (.slice (xs.map PV.str))):
 (v=.slice none 0 0/\xs=[])\/(∃A cap,v=.slice (some A) 0 cap/\xs=[]/\cap<=maxLen) \/
 ∃b o cap,v=.slice (some ⟨b,o,none⟩) xs.length cap/\xs.length<=cap/\cap<=maxLen/\∀ (k:Nat) x,xs[k]?=some x->Φ b (o+k)/\w.cell? ⟨b,o+k,none⟩=some (.string ⟨⟨x⟩⟩):=by
 generalize a:PV.slice (xs.map PV.str)=p at h
 cases h with
 | sliceNil=>
   injection a with a
   exact .inl ⟨rfl,by simpa using a⟩
 | sliceAny A cap d=>
   injection a with a
   exact .inr (.inl ⟨A,cap,rfl,by simpa using a,d⟩)
 | slice b o len cap sz ys vs e q d D r g f=>
   injection a with a
   subst a
   have z:flat (xs.map PV.str)=xs.map PV.str:=by
    induction xs with
    | nil=>rfl
    | cons x xs i=>
      rw[G2i,Q3q]
      show PV.str x::flat (xs.map PV.str)=_
      have:∀ys:List (List UInt8),flat (ys.map PV.str)=ys.map PV.str:=by
       intro ys
       induction ys with
       | nil=>rfl
       | cons y ys i=>rw[G2i,Q3q,i];rfl
      rw[this]
   simp only[G1h]at e
   subst e
   refine .inr (.inr ⟨b,o,cap,rfl,q,d,λk x j=>?_⟩)
   rw[z]at g f
   have hk:k<xs.length:=(G0j.1 j).1
   obtain⟨C,l⟩:=g k (by simpa using hk)
   have m:=f k (.str x) (by rw[G1i,j];rfl)
   generalize vs k=u at m l
   cases m with
   | str s=>exact⟨C,l⟩
 | bool b=>cases a
 | int k n=>cases a
 | str s=>cases a
 | nil=>cases a
 | ifc t v=>cases a
 | nilp=>cases a
 | agg vs cs e r f=>cases a
end Go.Abs
