import Derived.Test.YtljahlbklgnfhaaGreatDoorA14
import Derived.Laws.MakeOwn
import GoSem.Core.Utf8
set_option linter.unusedVariables false
set_option linter.unusedSimpArgs false
set_option linter.defProp false
namespace Go.Abs
open Go.RowKit
def Q5i(E:Env)(H:List AObj)(b:TypeId)(n c:AV):Option (AV×List AObj):=
 match E.T b,n,c with
 | some ⟨.slice e,_,_,_⟩,.pv (.int _ n),.pv (.int _ c)=>match E.T e with
   | some a=>match X0k a with
     | some z=>if 0<=n/\n<=c/\c.toNat * a.bytes<=140737488355328/\a.bytes≠0/\a.size≠0/\z.cells.length=a.size then
        some (.vec H.length n.toNat,H++[.row e a.size (List.replicate n.toNat z) false])else none
     | none=>none
   | none=>none
 | _,_,_=>none
section
variable {E:Env}{γ:List Gh}{H:List AObj}{Φ:Nat->Nat->Prop}{w:World}
theorem K3z(z:Array Value)(n k:Nat)(a:z.size≠0)(hk:k<n * z.size):(madeCells z (n * z.size))[k]?=z[k % z.size]?:=by
 unfold madeCells
 have:k % z.size<z.size:=G9e _ (by omega)
 simp[hk,this]
theorem Z6e(N:OInv E γ H Φ w){l:TypeId}{a b:Value}{x y r:AV}{H':List AObj}(O:ARel γ H Φ w a x)(hb:ARel γ H Φ w b y)(h:Q5i E H l x y=some (r,H')):
 ∃u w',(Instr.makeSlice l a b).run E.P w=.ok u w'/\Q8j E γ H Φ w r H' u w':=by
 unfold Q5i at h
 split at h
 ·rename_i e _ _ _ Q n S c hT
  split at h
  ·rename_i f F
   split at h
   ·rename_i z T
    split at h
    ·rename_i U
     obtain⟨V,W,av,aw,ay,I⟩:=U
     simp only[G0c,G1k]at h
     obtain⟨rfl,rfl⟩:=h
     have X:=Q2v (Q0p O)
     have Y:=Q2v (Q0p hb)
     subst X;subst Y
     obtain⟨d,hd,hk⟩:=(E.hT _ _ hT).und
     rw[Q4b hk]at hd
     obtain⟨i,d',m,g,aa,aA,aB,hz⟩:=(E.hT _ _ F).info
     obtain⟨zv,o,ac⟩:=X3o (w:=w) (E.hT _ _ F) T
     have ad:i.zero=some zv:=by
      cases J:i.zero with
      | none=>simp[zeroValue,typeInfo,m,J]at o
      | some z'=>simp[zeroValue,typeInfo,m,J]at o;rw[o]
     obtain⟨c1,c2,c3⟩:=Q7d (ac Φ w)
     have ag:zv.cells.size=i.size:=by rw[g,<-I,<-c1];simp
     have aF:c.toNat<=140737488355328:=by
      have:c.toNat<=c.toNat * f.bytes:=G5u _ (by omega)
      omega
     have ah:=run_make (P:=E.P) w l e i zv hd m ad Q S n c V W (by
      have hh:((c.toNat * f.bytes:Nat):Int)<=140737488355328:=by omega
      rw[Int.natCast_mul,G5e (by omega)]at hh
      rw[aa,Int.mul_comm]
      omega) (by omega)
     have j:(List.replicate n.toNat z).length=n.toNat:=by simp
     have t:∀q∈List.replicate n.toNat z,q.cells.length=f.size:=λq hq=>by rw[(G6u.1 hq).2];exact I
     have A:(madeCells zv.cells (c.toNat * i.size)).size=c.toNat * i.size:=size_madeCells _ _
     have aG:n.toNat * i.size<=c.toNat * i.size:=G3n _ (by omega)
     refine⟨_,_,ah,?_⟩
     have al:(w.alloc (.cells (madeCells zv.cells (c.toNat * i.size)) e)).ownsRow 0 e i.size (.slice (some ⟨w.heap.size,0,none⟩) n.toNat c.toNat) (List.replicate n.toNat z).length ((madeCells zv.cells (c.toNat * i.size)).toList.take (n.toNat * i.size)):=by
      refine⟨?_,.inr ⟨w.heap.size,c.toNat,_,by rw[j],G1t _,G4r w _,by rw[j];omega,by unfold maxLen;omega,A,by rw[j]⟩⟩
      rw[G1v,G2h,A,j]
      omega
     have K:=Q0s t
     rw[j]at K
     have:=Z3r (v:=.slice none 0 0) N al ⟨rfl,rfl,rfl,by simp,.inl ⟨rfl,by simp,λb hb=>G7a w _ b hb⟩⟩ rfl ⟨?_,λq hq=>?_,λk u q C hq=>?_⟩ (by rw[g];exact t) (by omega) false
     ·rw[<-g]
      rw[j]at this
      exact this
     ·rw[G1v,G2h,A,K,<-g]
      omega
     ·obtain⟨p,hp,L⟩:=G6m.1 hq
      rw[(G6u.1 hp).2]at L
      exact c2 q L
     have hk:k<n.toNat * f.size:=by
      have:=(G0j.1 hq).1
      omega
     have ao:0<f.size:=by omega
     have aq:k / f.size<n.toNat:=G7l (by rw[G7e];exact hk)
     have ar:k % f.size<f.size:=G9e _ ao
     have au:k / f.size * f.size+k % f.size=k:=by rw[G7e];exact G8n k f.size
     have M:=Q5v t (k / f.size) (k % f.size) z (by rw[G8h,if_pos aq]) ar
     rw[au,hq]at M
     rw[G2a,if_pos (by rw[g];exact hk),G2j]at C
     have D:zv.cells.size=f.size:=by rw[ag,g]
     rw[g,<-D,K3z _ _ _ (by omega) (by rw[D];exact G1m hk (G3n _ (by omega))),D]at C
     exact c3 (k % f.size) u q (by rw[G2j];exact C) M.symm
    cases h
   cases h
  cases h
 cases h
end
def imin(x y:Int):Int:=if y<x then y else x
def imax(x y:Int):Int:=if y>x then y else x
def mm2(a:Bool):AV->AV->Option AV
 | .pv (.int k x),.pv (.int _ y)=>some (.pv (.int k (bif a then imax x y else imin x y)))
 | _,_=>none
def mmL(d:Bool):AV->List AV->Option AV
 | a,[]=>some a
 | a,b::r=>match mm2 d a b with
   | some c=>mmL d c r
   | none=>none
def qmm(d:Bool):List AV->Option AV
 | a::b::r=>mmL d a (b::r)
 | _=>none
def Q2o:AV->Option (List AV)
 | .pv p=>some (p.cells.map .pv)
 | .nils=>some [.nils]
 | .vec l n=>some [.vec l n]
 | .ref l o=>some [.ref l o]
 | .full xs=>some [.full xs]
 | _=>none
def Z7q(a:List (Nat×Nat)):List AV->List (Nat×AV)->Option (List AV)
 | cs,[]=>some cs
 | cs,(f,v)::r=>match a[f]?,Q2o v with
   | some (off,sz),some us=>if us.length=sz/\off+sz<=cs.length then Z7q a (cs.take off++us++cs.drop (off+us.length)) r else none
   | _,_=>none
def Z7s(T:Nat->Option TI)(t:TypeId)(Q0l:List (Nat×AV)):Option AV:=
 match T t with
 | some ⟨.strct a,_,_,some z⟩=>(Z7q a (z.map zAV) Q0l).map .agg
 | _=>none
def Q9e(E:Env)(H:List AObj)(b:TypeId)(len:Nat)(Q0l:List (Nat×AV)):Option (AV×List AObj):=
 match E.T b with
 | some ⟨.slice e,_,_,_⟩=>match E.T e with
   | some a=>if Q0l.length=len/\len * a.size<=16777216/\a.zero.isSome=true/\a.size≠0 then match Q9b H a.size 0 Q0l with
      | some xs=>some (.vec H.length xs.length,H++[.row e a.size xs false])
      | none=>none
     else none
   | none=>none
 | _=>none
section
variable {E:Env}{γ:List Gh}{H:List AObj}{Φ:Nat->Nat->Prop}{w:World}
theorem J3x{v:Value}{a:AV}{us:List AV}(g:ARel γ H Φ w v a)(h:Q2o a=some us):v.cells.toList.length=us.length/\∀ (k:Nat) x c,v.cells.toList[k]?=some x->us[k]?=some c->x.oneCell'=true/\ARel γ H Φ w x c:=by
 have e:v.cells=#[v]->(∀p,a≠.pv p)->(∀vs,a≠.tup vs)->a≠.any->(∀vs,a≠.agg vs)->some [a]=some us->v.cells.toList.length=us.length/\∀ (k:Nat) x c,v.cells.toList[k]?=some x->us[k]?=some c->x.oneCell'=true/\ARel γ H Φ w x c:=by
  intro f i m n o j
  simp only[G0c]at j
  subst j
  rw[f]
  refine⟨rfl,λk x c b d=>?_⟩
  match k,b,d with
  | 0,b,d=>
    simp at b d
    subst b d
    exact⟨X2r g i m n o,g⟩
  | k+1,b,d=>simp at b
 cases g with
 | @pv v p r=>
   simp only[Q2o,G0c]at h
   subst h
   obtain⟨t,i,u⟩:=Q7d r
   refine⟨by simpa using t,λk x c b f=>?_⟩
   rw[G1i]at f
   obtain⟨q,hq,rfl⟩:=G0k.1 f
   have l:=u k x q b hq
   exact⟨l.one (i q (G1o hq)),.pv l⟩
 | vec=>exact e rfl (by simp) (by simp) (by simp) (by simp) h
 | ref=>exact e rfl (by simp) (by simp) (by simp) (by simp) h
 | selfp=>simp[Q2o]at h
 | nils=>exact e rfl (by simp) (by simp) (by simp) (by simp) h
 | full=>exact e rfl (by simp) (by simp) (by simp) (by simp) h
 | any=>simp[Q2o]at h
 | ifc=>simp[Q2o]at h
 | pptr=>simp[Q2o]at h
 | vptr=>simp[Q2o]at h
 | tup=>simp[Q2o]at h
 | fn=>simp[Q2o]at h
 | agg=>simp[Q2o]at h
theorem Z8m(l:List (Nat×Nat))(e:Nat->Option (Nat×Nat))(t:∀ (i:Nat) p,l[i]?=some p->e i=some p):
 ∀ (Q0l:List (Nat×AV)) (vparts:List (Nat×Value)) (cs:List AV) (vs:Array Value) (r:List AV),vparts.length=Q0l.length->
  (∀ (j:Nat) (p:Nat×AV) (q:Nat×Value),Q0l[j]?=some p->vparts[j]?=some q->q.1=p.1/\ARel γ H Φ w q.2 p.2)->
  (vs.toList.length=cs.length/\∀ (k:Nat) x c,vs.toList[k]?=some x->cs[k]?=some c->x.oneCell'=true/\ARel γ H Φ w x c)->
  Z7q l cs Q0l=some r->∃us,Instr.fill e vs vparts=some us/\us.toList.length=r.length/\∀ (k:Nat) x c,us.toList[k]?=some x->r[k]?=some c->x.oneCell'=true/\ARel γ H Φ w x c
 | [],vparts,cs,vs,r,f,_,m,h=>by
   simp only[Z7q,G0c]at h
   subst h
   cases vparts with
   | nil=>exact⟨vs,rfl,m⟩
   | cons a b=>simp at f
 | (i,v)::Q0l,[],cs,vs,r,f,_,_,_=>by simp at f
 | (i,v)::Q0l,(u,v')::vparts,cs,vs,r,f,y,m,h=>by
   simp only[Z7q]at h
   split at h
   ·rename_i off sz us C D
    split at h
    ·rename_i n
     obtain⟨n,T⟩:=n
     obtain⟨z,F⟩:=y 0 (i,v) (u,v') rfl rfl
     simp only at z
     subst z
     obtain⟨A,I⟩:=J3x F D
     have J:v'.cells.size=sz:=by rw[<-n,<-A];simp
     obtain⟨K,L⟩:=m
     have M:vs.size=cs.length:=by rw[<-K];simp
     obtain⟨N,O⟩:=Z6y off v'.cells.toList 0 vs (by simp;omega)
     have P:v'.cells.zipIdx.foldl (λcs (c,j)=>cs.setIfInBounds (off+j) c) vs=(v'.cells.toList.zipIdx 0).foldl (λcs (c,j)=>cs.setIfInBounds (off+j) c) vs:=by
      rw[<-G7v,G7m]
     have Q:Instr.fill e vs ((u,v')::vparts)=Instr.fill e ((v'.cells.toList.zipIdx 0).foldl (λcs (c,j)=>cs.setIfInBounds (off+j) c) vs) vparts:=by
      rw[<-P]
      simp only[Instr.fill,t _ _ C]
      rw[if_neg]
      simp only[J,ne_eq,G5a,G7d,G2k,G0l]
      omega
     rw[Q]
     have U:off+us.length<=cs.length:=by omega
     have o:(cs.take off).length=off:=by rw[G1v];omega
     refine Z8m l e t Q0l vparts _ _ r (by simpa using f) (λj a b S hb=>y (j+1) a b (by simpa using S) (by simpa using hb)) ⟨?_,λk x c g d=>?_⟩ h
     ·rw[G2h,N,M]
      simp only[G0g,G1w,o]
      omega
     rw[G2j,O k]at g
     have V:v'.cells.toList.length=us.length:=A
     by_cases W:off<=k/\k<off+us.length
     ·rw[if_pos ⟨by omega,by omega⟩]at g
      rw[G0e,G0w (by omega),o,G0q (by omega)]at d
      exact I (k-off) x c (by simpa using g) d
     rw[if_neg (by omega)]at g
     refine L k x c (by rw[G2j];exact g) ?_
     by_cases hk:k<off
     ·rw[G0e,G0q (by omega),G2a,if_pos hk]at d
      exact d
     rw[G0e,G0w (by omega),o,G0w (by omega),G2e]at d
     rw[<-d]
     congr 1
     omega
    cases h
   cases h
theorem J2z{t:TypeId}{Q0l:List (Nat×AV)}{vparts:Array (Nat×Value)}(I:vparts.size=Q0l.length)
 (J:∀ (j:Nat) (p:Nat×AV) (q:Nat×Value),Q0l[j]?=some p->vparts[j]?=some q->q.1=p.1/\ARel γ H Φ w q.2 p.2) {r:AV} (h:Z7s E.T t Q0l=some r):
 ∃u,(Instr.build t vparts).run E.P w=.ok u w/\ARel γ H Φ w u r:=by
 unfold Z7s at h
 split at h
 ·rename_i a _ _ z hT
  obtain⟨cs,K,rfl⟩:=G0k.1 h
  obtain⟨i,d,L,hs,_,hd,hk,M⟩:=(E.hT _ _ hT).info
  obtain⟨fields,rfl,N,O⟩:=Q9w hk
  obtain⟨zv,P,Q,_,S,_⟩:=M z rfl
  have T:∀ (l:List Field) (k:Nat),(∀ (j:Nat) f,l[j]?=some f->fields[k+j]?=some f)->
   (l.mapM (λf=>do pure (f.offset,<-sizeOf f.type):Field->Sem (Nat×Nat))).run E.P w=.ok ((a.drop k).take l.length) w:=by
   intro l
   induction l with
   | nil=>intro k _;simp
   | cons f l U=>
     intro k m
     have o:=m 0 f rfl
     rw[G3m]at o
     have y:k<a.length:=by
      have:=(G1r.1 o).1
      omega
     obtain⟨V,fi,W,X⟩:=O k f a[k] o (G0f y)
     have A:=U (k+1) (λj g Y=>by
      have:=m (j+1) g (by simpa using Y)
      rw[show k+1+j=k+(j+1) from by omega]
      exact this)
     have C:(do pure (f.offset,<-sizeOf f.type):Sem (Nat×Nat)).run E.P w=.ok a[k] w:=by
      simp[Q1q W,V,X]
     simp only[bind]at A
     simp only[G7y,bind,G1n]at C |-
     rw[C]
     simp only[G1b,A]
     rw[G4p y,G0i,G3w]
     rfl
  have D:(fields.mapM (λf=>do pure (f.offset,<-sizeOf f.type):Field->Sem (Nat×Nat))).run E.P w=.ok a.toArray w:=by
   have:=T fields.toList 0 (λj f m=>by simpa using m)
   rw[G4q,G8f,this]
   simp[N]
  obtain⟨us,aa,ac,F⟩:=Z8m (γ:=γ) (H:=H) (Φ:=Φ) (w:=w) a (a.toArray[·]?) (λi p b=>by simpa using b) Q0l vparts.toList (z.map zAV) zv.cells cs (by simpa using I)
   (λj p q b hq=>J j p q b (by simpa using hq)) ⟨by simpa using Q,λk v c e n=>by
     rw[G1i]at n
     obtain⟨p,b,rfl⟩:=G0k.1 n
     have x:=S k v p e b
     exact⟨(x.2.1 Φ w).one x.1,J7g x⟩⟩ K
  refine⟨.agg us,?_,.agg us.toList cs ac (λv e=>?_) (λk v c e n=>(F k v c e n).2)⟩
  ·unfold Instr.build
   simp only[bind]at D
   simp only[bind,G1n]
   have ad:(zeroValue t).run E.P w=.ok zv w:=by simp[zeroValue,typeInfo,L,P]
   simp only[ad,G1b,G1c hd,G1n,D]
   rw[aa]
   rfl
  obtain⟨k,hk,ae⟩:=G3f e
  exact(F k v (cs[k]'(by omega)) (by rw[G0f hk,ae]) (G0f (by omega))).1
 cases h
theorem Z8q(n:OInv E γ H Φ w){o:TypeId}{len:Nat}{Q0l:List (Nat×AV)}{vparts:Array (Nat×Value)}(J:vparts.size=Q0l.length)
 (K:∀ (j:Nat) (p:Nat×AV) (q:Nat×Value),Q0l[j]?=some p->vparts[j]?=some q->q.1=p.1/\ARel γ H Φ w q.2 p.2) {r:AV} {H':List AObj} (h:Q9e E H o len Q0l=some (r,H')):
 ∃u w',(Instr.buildSlice o len vparts).run E.P w=.ok u w'/\Q8j E γ H Φ w r H' u w':=by
 unfold Q9e at h
 split at h
 ·rename_i e _ _ _ hT
  split at h
  ·rename_i a L
   split at h
   ·rename_i M
    obtain⟨ad,ae,N,af⟩:=M
    split at h
    ·rename_i xs O
     simp only[G0c,G1k]at h
     obtain⟨rfl,rfl⟩:=h
     obtain⟨d,hd,hk⟩:=(E.hT _ _ hT).und
     rw[Q4b hk]at hd
     obtain⟨i,d',t,x,_,ah,ak,P⟩:=(E.hT _ _ L).info
     obtain⟨z,Q⟩:=G6q.1 N
     obtain⟨zv,S,al,am,_⟩:=P z Q
     obtain⟨e1,y,T,U⟩:=Q9a n a.size Q0l vparts.toList 0 xs (by simpa using J) (λj p q V hq=>K j p q V (by simpa using hq)) O
     have A:vparts.toList.length=len:=by rw[G2h];omega
     generalize f:(Array.range (len * a.size)).map ((if len * a.size=0 then #[]else zv.cells)[· % (if len * a.size=0 then #[]else zv.cells).size]!)=base
     have g:base.size=len * a.size:=by rw[<-f];simp
     obtain⟨us,C,D,F⟩:=J8v a.size vparts.toList 0 base T (by rw[A,g];simp)
     have W:us.toList=vparts.toList.flatMap λp=>p.2.cells.toList:=by
      rw[G3h,A,Nat.zero_mul,G6k,G0t,G5y (by simp[D,g])]at F
      exact F
     have aq:=Q0s y
     have X:len<=maxLen:=by
      have:len<=len * a.size:=G5u _ (by omega)
      unfold maxLen
      omega
     have l:xs.length=len:=by omega
     have m:us.size=len * a.size:=by rw[D,g]
     have Y:(w.alloc (.cells us e)).ownsRow 0 e a.size (.slice (some ⟨w.heap.size,0,none⟩) len len) xs.length us.toList:=by
      refine⟨by rw[G2h,m,l],.inr ⟨w.heap.size,len,us,by rw[l],G1t _,G4r w _,by omega,X,m,?_⟩⟩
      rw[l]
      exact G5y (by rw[G2h,m];exact G0r _)
     refine⟨.slice (some ⟨w.heap.size,0,none⟩) len len,w.alloc (.cells us e),?_,Z3r (v:=.slice none 0 0) n Y ⟨rfl,rfl,rfl,by simp,.inl ⟨rfl,by simp,λb hb=>G7a w _ b hb⟩⟩ rfl ?_ y (by omega) false⟩
     ·have aa:¬ len * i.size>2 ^ 24:=by rw[x];omega
      unfold Instr.buildSlice
      simp only[bind,G1n,G1c hd,G1b,Q1q t,aa,G2v]
      rw[x]
      have ac:(zeroValue e).run E.P w=.ok zv w:=by simp[zeroValue,typeInfo,t,S]
      by_cases I:len * a.size=0
      ·rw[if_pos I]at f |-
       simp only[G1n,G5l,G1b]
       rw[f,C]
       simp only[G1n,Q9x,G1b,G5l]
      rw[if_neg I]at f |-
      simp only[G1n,G5l,G1b,ac]
      rw[f,C]
      simp only[G1n,Q9x,G1b,G5l]
     rw[W]
     exact U
    cases h
   cases h
  cases h
 cases h
theorem J5w(d:Bool):∀ (l:List AV) (vs:List Value) (a:AV) (v:Value) (r:AV),ARel γ H Φ w v a->vs.length=l.length->(∀ (i:Nat) u b,vs[i]?=some u->l[i]?=some b->ARel γ H Φ w u b)->mmL d a l=some r->
 ∃u,(vs.foldlM (if d then Builtin.max2 else Builtin.min2) v:Sem Value).run E.P w=.ok u w/\ARel γ H Φ w u r
 | [],vs,a,v,r,j,f,_,h=>by
   simp only[mmL,G0c]at h
   subst h
   have:vs=[]:=G0u f
   subst this
   exact⟨v,rfl,j⟩
 | b::l,[],a,v,r,j,f,_,h=>by simp at f
 | b::l,u::vs,a,v,r,j,f,m,h=>by
   simp only[mmL]at h
   split at h
   ·rename_i c g
    unfold mm2 at g
    split at g
    ·rename_i k x n y
     simp only[G0c]at g
     subst g
     have o:=Q2v (Q0p j)
     have p:=Q2v (Q0p (m 0 u _ rfl rfl))
     subst o p
     obtain⟨q,t,z⟩:=J5w d l vs _ (.int k (bif d then imax x y else imin x y)) r (.pv (.int _ _)) (by simpa using f) (λi u b A hb=>m (i+1) u b (by simpa using A) (by simpa using hb)) h
     refine⟨q,?_,z⟩
     rw[List.foldlM_cons]
     have e:((if d then Builtin.max2 else Builtin.min2) (.int k x) (.int n y):Sem Value).run E.P w=.ok (.int k (bif d then imax x y else imin x y)) w:=by
      cases d<;>rfl
     simp only[bind,G1n,e,G1b]
     exact t
    cases g
   cases h
theorem J5m(d:Bool){l:List AV}{vs:List Value}{r:AV}(e:vs.length=l.length)(f:∀ (i:Nat) u b,vs[i]?=some u->l[i]?=some b->ARel γ H Φ w u b)(h:qmm d l=some r)(g:Array TypeId)(t:TypeId):
 ∃u,((if d then Builtin.max_ g t ⟨vs⟩else Builtin.min_ g t ⟨vs⟩):Sem Value).run E.P w=.ok u w/\ARel γ H Φ w u r:=by
 unfold qmm at h
 split at h
 ·rename_i a b l
  match vs,e with
  | v::u::vs,e=>
    obtain⟨j,m,n⟩:=J5w d (b::l) (u::vs) a v r (f 0 v a rfl rfl) (by simpa using e) (λi u b o hb=>f (i+1) u b (by simpa using o) (by simpa using hb)) h
    refine⟨j,?_,n⟩
    cases d<;>exact m
 cases h
end
end Go.Abs
