import Derived.Test.YtljahlbklgnfhaaGreatDoorA13
set_option linter.unusedVariables false
set_option linter.unusedSimpArgs false
set_option linter.defProp false
namespace Go.Abs
open Go.RowKit
section
variable {E:Env}{γ γ':List Gh}{H H':List AObj}{Φ Φ':Nat->Nat->Prop}{w w':World}
theorem Ok.of(l:OInv E γ H Φ w)(S:Nat->Prop)(K:γ'.length=H'.length)(ad:γ.length<=γ'.length)(ae:∀i,γ.length<=i->S i)
 (same:∀i,¬ S i->γ'[i]?=γ[i]?/\H'[i]?=H[i]?)
 (T:Nat->Prop) (hT:∀b,T b↔∃ (i:Nat) (g:Gh),S i/\γ[i]?=some g/\b∈g.own)
 (y:∀b,b<w.heap.size->¬ T b->w'.heap[b]?=w.heap[b]?) (hs:w.heap.size<=w'.heap.size) (L:w'.os=w.os) (M:w'.tape=w.tape) (N:w'.output=w.output)
 (O:∀b k,Φ b k->Φ' b k) (I:∀b k,Φ' b k->b<w.heap.size->¬ T b->Φ b k) (P:∀b k,Φ' b k->b<w'.heap.size)
 (Q:∀b k,Φ b k->T b->w'.cell? ⟨b,k,none⟩=w.cell? ⟨b,k,none⟩)
 (z:∀ (i:Nat) g,S i->γ'[i]?=some g->∀b∈g.own,(T b\/w.heap.size<=b)/\b<w'.heap.size)
 (U:∀ (i j:Nat) gi d,S i->S j->γ'[i]?=some gi->γ'[j]?=some d->i≠j->∀b∈gi.own,b∉d.own)
 (V:∀ (i:Nat) v,S i->gv γ i=some v->gv γ' i=some v\/∃A n c,v=.slice A n c)
 (hrow:∀ (i:Nat) e sz n,S i->rowAt H i=some (e,sz,n)->∃C,rowAt H' i=some (e,sz,C)/\n<=C/\(n=C->gv γ' i=gv γ i))
 (W:Evo γ H Φ w γ' H' Φ' w'->∀ (i:Nat) o g,S i->H'[i]?=some o->γ'[i]?=some g->ObjRel E γ' H' Φ' w' o g):Ok E γ H Φ w γ' H' Φ' w':=by
 have out:∀ (i:Nat) g,¬ S i->γ[i]?=some g->∀b∈g.own,¬ T b:=by
  intro i g a f b hb p
  obtain⟨j,d,m,q,r⟩:=(hT b).1 p
  exact l.disj i j g d f q (λe=>a (by rw[e];exact m)) b hb r
 have old:∀b,T b->E.gN<=b/\b<w.heap.size:=by
  intro b p
  obtain⟨j,d,m,q,r⟩:=(hT b).1 p
  exact l.own j d q b r
 have D:Evo γ H Φ w γ' H' Φ' w':=by
  refine⟨O,λb k h=>?_,λi v h=>?_,λi e sz n h=>?_⟩
  ·by_cases hb:T b
   ·exact Q b k h hb
   exact cell_of_heap (y b (l.phi b k h) hb)
  ·by_cases a:S i
   ·exact V i v a h
   refine .inl ?_
   unfold gv at h |-
   rw[(same i a).1]
   exact h
  by_cases a:S i
  ·exact hrow i e sz n a h
  refine⟨n,?_,G0o _,λ_=>?_⟩
  ·unfold rowAt at h |-
   rw[(same i a).2]
   exact h
  unfold gv
  rw[(same i a).1]
 refine⟨⟨K,λi o g F f=>?_,λi j gi d a m J b hb t=>?_,λi g f b hb=>?_,P,E.hG w w' l.gi (λb hb=>y b (G1f hb l.gn) (λp=>by have:=(old b p).1;omega)),G3u l.gn hs⟩,D,
  ⟨L,M,N,hs,λb hb s=>y b hb (λp=>?_),λb k h hb s=>I b k h hb (λp=>?_),λi g f b hb=>?_⟩⟩
 ·by_cases a:S i
  ·exact W D i o g a F f
  obtain⟨X,Y⟩:=same i a
  rw[X]at f
  rw[Y]at F
  have s:=out i g a f
  exact(l.obj i o g F f).keep D (λb hb=>y b (l.own i g f b hb).2 (s b hb)) (λb hb k hk=>I b k hk (l.own i g f b hb).2 (s b hb))
 ·by_cases u:S i<;>by_cases x:S j
  ·exact U i j gi d u x a m J b hb t
  ·rw[(same j x).1]at m
   rcases(z i gi u a b hb).1 with h|h
   ·exact out j d x m b t h
   have:=(l.own j d m b t).2
   omega
  ·rw[(same i u).1]at a
   rcases(z j d x m b t).1 with h|h
   ·exact out i gi u a b hb h
   have:=(l.own i gi a b hb).2
   omega
  rw[(same i u).1]at a
  rw[(same j x).1]at m
  exact l.disj i j gi d a m J b hb t
 ·by_cases a:S i
  ·obtain⟨h1,h2⟩:=z i g a f b hb
   refine⟨?_,h2⟩
   rcases h1 with h|h
   ·exact(old b h).1
   exact G3u l.gn h
  rw[(same i a).1]at f
  exact⟨(l.own i g f b hb).1,G1f (l.own i g f b hb).2 hs⟩
 ·obtain⟨j,d,_,q,r⟩:=(hT b).1 p
  exact s j d q r
 ·obtain⟨j,d,_,q,r⟩:=(hT b).1 p
  exact s j d q r
 by_cases a:S i
 ·rcases(z i g a f b hb).1 with h|h
  ·obtain⟨j,d,_,q,r⟩:=(hT b).1 h
   exact .inr ⟨j,d,q,r⟩
  exact .inl h
 rw[(same i a).1]at f
 exact .inr ⟨i,g,f,hb⟩
theorem Z9x{t:TypeId}{i:TypeInfo}(f:E.P.info? t=some i)(b o:Nat)(T:TypeId)(a:Array Value)(hb:w.heap[b]?=some (.cells a T (0,0)))(v:Value)(d:v.cells.size=i.size)
 (g:∀u∈v.cells.toList,u.oneCell'=true) (j:o+v.cells.size<=a.size):
 (Instr.storeAt t (.pointer (some ⟨b,o,none⟩)) v).run E.P w=.ok () (w.setRow b (a.toList.take o++v.cells.toList++a.toList.drop (o+v.cells.size)).toArray):=by
 have e:=run_storeCells_at E.P b o T v.cells.toList 0 a w hb (by simpa using j) g
 simp only[G2j,G1j]at e
 unfold Instr.storeAt storeVar
 simp only[bind,Sem.run_bind',Instr.sureAddr,pure,Sem.run_pure',Result.andThen_ok,Q1f f,d,ne_eq,G3w,G2i]
 rw[e]
 rw[<-d]
theorem Q8c(b c:Nat)(cs:Array Value)(h:c≠b):(w.setRow b cs).heap[c]?=w.heap[c]?:=setRow_other w b c cs h
def Z4h(cells:List Value)(k:Nat)(vs:List Value):List Value:=cells.take k++vs++cells.drop (k+vs.length)
theorem Q5t{cells:List Value}{k:Nat}{vs:List Value}(h:k+vs.length<=cells.length):(Z4h cells k vs).length=cells.length:=by
 unfold Z4h
 simp only[G0i,G1h,G0p]
 omega
theorem Z1h{cells:List Value}{k:Nat}{vs:List Value}(h:k+vs.length<=cells.length)(i:Nat):(Z4h cells k vs)[i]?=if k<=i/\i<k+vs.length then vs[i-k]? else cells[i]?:=by
 unfold Z4h
 have a:(cells.take k).length=k:=by rw[G1h];omega
 by_cases b:i<k
 ·rw[if_neg (by omega),G0z,G0l (by omega),G1l,if_pos b]
 rw[G0z,G0m (by omega),a]
 by_cases d:i<k+vs.length
 ·rw[if_pos ⟨by omega,d⟩,G0l (by omega)]
 rw[if_neg (by omega),G0m (by omega),G1u]
 congr 1
 omega
theorem J1w{p e:TypeId}{i:TypeInfo}{sz n j o b cap:Nat}{gv v:Value}{cells:List Value}(A:E.P.info? p=some i)(q:w.ownsRow 0 e sz gv n cells)(r:gv=.slice (some ⟨b,0,none⟩) n cap)
 (C:j<n) (O:o+i.size<=sz) (f:v.cells.size=i.size) (d:∀u∈v.cells.toList,u.oneCell'=true):
 ∃cs:Array Value,(Instr.storeAt p (.pointer (some ⟨b,j * sz+o,none⟩)) v).run E.P w=.ok () (w.setRow b cs)/\(w.setRow b cs).ownsRow 0 e sz gv n (Z4h cells (j * sz+o) v.cells.toList)/\j * sz+o+v.cells.toList.length<=cells.length:=by
 have P:j * sz+sz<=n * sz:=by
  have:=G2f sz (show j+1<=n from C)
  rw[G3j]at this
  exact this
 have s:=q.1
 rcases q.2 with⟨Q,S⟩|⟨b',D,a,t,_,x,y,F,z,I⟩
 ·omega
 have J:b'=b:=by
  rw[t]at r
  injection r with d T U
  injection d with d
  injection d
 subst J
 have l:j * sz+o+v.cells.size<=a.size:=by
  rw[f,z]
  have:=G2f sz y
  omega
 have K:=Z9x (E:=E) (w:=w) A b' (j * sz+o) e a x v f d l
 have m:j * sz+o+v.cells.toList.length<=cells.length:=by
  rw[G1j,f,s]
  omega
 refine⟨_,K,?_,m⟩
 have L:(a.toList.take (j * sz+o)++v.cells.toList++a.toList.drop (j * sz+o+v.cells.size))=Z4h a.toList (j * sz+o) v.cells.toList:=by
  unfold Z4h
  rw[G1j (xs:=v.cells)]
 have M:(Z4h a.toList (j * sz+o) v.cells.toList).length=a.toList.length:=Q5t (by rw[G1j,G1j];exact l)
 rw[L]
 have N:=setRow_heap w b' a (Z4h a.toList (j * sz+o) v.cells.toList).toArray e (0,0) x
 refine⟨by rw[Q5t m,s],.inr ⟨b',D,_,t,G2l _,N,y,F,by rw[G4h,M,G1j,z],?_⟩⟩
 refine G3x λk=>?_
 rw[Z1h m k,G1l]
 show(if k<n * sz then(Z4h a.toList (j * sz+o) v.cells.toList)[k]? else none)=_
 rw[Z1h (by rw[G1j,G1j];exact l) k]
 by_cases hk:k<n * sz
 ·rw[if_pos hk]
  by_cases g:j * sz+o<=k/\k<j * sz+o+v.cells.toList.length
  ·rw[if_pos g,if_pos g]
  rw[if_neg g,if_neg g,<-I,G1l,if_pos hk]
 rw[if_neg hk,if_neg (by rw[G1j,f];omega),G1a (by omega)]
theorem J7i{sz:Nat}{xs:List PV}(f:∀x∈xs,x.cells.length=sz){j:Nat}{y b:PV}(p:xs[j]?=some y)(q:b.cells.length=sz)(l:0<sz)(k:Nat):
 (flat (xs.set j b))[k]?=if k / sz=j then b.cells[k % sz]? else(flat xs)[k]?:=by
 have r:j<xs.length:=(G0f.1 p).1
 have g:∀z∈xs.set j b,z.cells.length=sz:=λz a=>by
  rcases G2q a with a|rfl
  ·exact f z a
  exact q
 have i:k % sz<sz:=G6h _ l
 have m:k / sz * sz+k % sz=k:=by rw[G4c];exact G4p k sz
 by_cases hk:k<xs.length * sz
 ·have s:k / sz<xs.length:=G5l (by rw[G4c];exact hk)
  by_cases d:k / sz=j
  ·rw[if_pos d]
   have:=Q2j g j (k % sz) b (by rw[G1c r]) i
   rw[<-d,m]at this
   rw[d]at this
   exact this
  rw[if_neg d]
  have a:xs[k / sz]?=some xs[k / sz]:=G0c s
  have n:=Q2j g (k / sz) (k % sz) _ (by rw[G1e (λe=>d e.symm)];exact a) i
  have o:=Q2j f (k / sz) (k % sz) _ a i
  rw[m]at n o
  rw[n,o]
 have hq:¬ k / sz=j:=by
  intro e
  have u:j * sz<=k:=by rw[<-e];exact Nat.div_mul_le_self k sz
  have t:xs.length * sz<=k:=by omega
  have A:xs.length<=k / sz:=(Nat.le_div_iff_mul_le l).2 t
  omega
 rw[if_neg hq,G1a (by rw[Q0j g];simp;omega),G1a (by rw[Q0j f];omega)]
def Z5d(ti:TI)(H:List AObj)(l n i o:Nat)(e:TypeId)(sz off:Nat)(a:TypeId)(b m:Nat)(xs:List PV)(x:AV):Option (List AObj):=
 match x with
 | .vec d f=>match H[d]?,xs[i]? with
   | some (.row g j ys false),some (.agg cs)=>if l≠d/\n=xs.length/\i=m/\o=off/\ti.size=1/\f=ys.length/\g=a/\j=b then
      some ((H.set l (.tree e sz off a b (m+1) (xs.set i (.agg (cs.set off (.slice ys)))))).set d (.moved a b f))
     else none
   | _,_=>none
 | _=>none
theorem Q9j{j sz o:Nat}(h:o<sz):(j * sz+o) / sz=j/\(j * sz+o) % sz=o:=by
 have a:0<sz:=by omega
 constructor
 ·exact G6k (by omega) (by rw[G3j];omega)
 rw[G4c,Nat.mul_add_mod,G6w h]
theorem Z5c(D:OInv E γ H Φ w){ty:TypeId}{ti:TI}(hT:TOne E.P ty ti){a v:Value}{l n i o:Nat}{e:TypeId}{sz off:Nat}{e2:TypeId}{aC m:Nat}{xs:List PV}{x:AV}
 (Y:H[l]?=some (.tree e sz off e2 aC m xs)) (ha:ARel γ H Φ w a (.vptr l n i o)) (hx:ARel γ H Φ w v x) (h:Z5d ti H l n i o e sz off e2 aC m xs x=some H'):
 ∃w',(Instr.storeAt ty a v).run E.P w=.ok () w'/\∃γ' Φ',Ok E γ H Φ w γ' H' Φ' w':=by
 unfold Z5d at h
 split at h
 ·rename_i y n2
  split at h
  ·rename_i F I ys cs aa S
   split at h
   ·rename_i f
    obtain⟨ah,rfl,rfl,rfl,hs1,rfl,rfl,rfl⟩:=f
    simp only[G0b]at h
    subst h
    obtain⟨bE,d,hi,a0,_⟩:=hT.info
    obtain⟨g,J,hO⟩:=D.gh Y
    obtain⟨s,K,ac⟩:=D.gh aa
    rw[J9j]at ac
    obtain⟨cells,gs,a2,a3,T,h1,h0,ad,aE,aF,hm,U,ak,aG,aH⟩:=hO
    have al:i<xs.length:=(G0f.1 S).1
    have a4:cs.length=sz:=T _ (G0r S)
    have a5:∃b cap,a=.pointer (some ⟨b,i * sz+o,none⟩)/\g.v=.slice (some ⟨b,0,none⟩) xs.length cap:=by
     cases ha with
     | vptr b oa _ _ _ _ e0 a7 len0 hrow a8 am=>
       have hre:=Q9f Y
       rw[hrow]at hre
       injection hre with hre
       injection hre with _ hre
       injection hre with V M
       obtain⟨cap,W,a9⟩:=am M
       simp only[gv,J,G0w,G0b]at W
       exact⟨b,cap,by rw[a9,V],W⟩
    obtain⟨b,cap,rfl,ao⟩:=a5
    have ba:s.v=v/\v.cells=#[v]/\v.oneCell'=true:=by
     cases hx with
     | vec A _ _ bH e0 a7 len0 hrow a8 hA am=>
       have hre:=Q2h aa
       rw[hrow]at hre
       injection hre with hre
       injection hre with _ hre
       injection hre with _ M
       have W:=am M
       simp only[gv,K,G0w,G0b]at W
       exact⟨W,rfl,rfl⟩
    obtain⟨bb,aI,bc⟩:=ba
    have aJ:v.cells.toList=[v]:=by rw[aI]
    obtain⟨be,bf,aK,aq⟩:=J1w (E:=E) (j:=i) (o:=o) (v:=v) hi a2 ao al (by omega) (by rw[aI,a0,hs1];rfl) (λu t=>by rw[aJ]at t;simp at t;rw[t];exact bc)
    rw[aJ]at aK aq
    refine⟨_,bf,(γ.set l ⟨g.v,g.own++s.own⟩).set y ⟨s.v,[]⟩,Φ,?_⟩
    have bg:l<γ.length:=(G0f.1 J).1
    have bh:y<γ.length:=(G0f.1 K).1
    have bi:l<H.length:=(G0f.1 Y).1
    have bj:y<H.length:=(G0f.1 aa).1
    have hb:b∈g.own:=by rw[U,ao];simp[Value.ownBlock]
    have G1:((γ.set l ⟨g.v,g.own++s.own⟩).set y ⟨s.v,[]⟩)[l]?=some ⟨g.v,g.own++s.own⟩:=by
     rw[G1e (Ne.symm ah),G1c bg]
    have G2:((γ.set l ⟨g.v,g.own++s.own⟩).set y ⟨s.v,[]⟩)[y]?=some ⟨s.v,[]⟩:=by
     rw[G1c (by simpa using bh)]
    have O1:((H.set l (.tree e sz o F I (i+1) (xs.set i (.agg (cs.set o (.slice ys)))))).set y (.moved F I ys.length))[l]?=some (.tree e sz o F I (i+1) (xs.set i (.agg (cs.set o (.slice ys))))):=by
     rw[G1e (Ne.symm ah),G1c bi]
    have O2:((H.set l (.tree e sz o F I (i+1) (xs.set i (.agg (cs.set o (.slice ys)))))).set y (.moved F I ys.length))[y]?=some (.moved F I ys.length):=by
     rw[G1c (by simpa using bj)]
    have aL:∀c∈g.own,c∉s.own:=D.disj l y g s J K ah
    have bk:∀c∈s.own,∀k,¬ Φ c k:=by
     intro c f k hk
     obtain⟨_,_,_,_,_,_,X,_,N⟩:=ac
     rw[X]at f
     have:=(N c (by simpa using f) k).1 hk
     cases this.1
    have bl:∀c∈g.own,∀k,¬ Φ c k:=by
     intro c f k hk
     rw[U]at f
     rcases G2v.1 f with f|f
     ·exact aE c (by simpa using f) k hk
     obtain⟨gi,bm,aM⟩:=G4f.1 f
     obtain⟨q,hq,ar⟩:=G2e bm
     obtain⟨_,_,_,_,_,_,_,_,_,X,_,N⟩:=aH q gi (by rw[G0c hq,ar])
     rw[X]at aM
     have:=(N c (by simpa using aM) k).1 hk
     cases this.1
    refine Ok.of D (λq=>q=l\/q=y\/γ.length<=q) (by simp[D.len]) (by simp) (λq hq=>.inr (.inr hq)) (λq hq=>?_) (λc=>c∈g.own\/c∈s.own) (λc=>⟨λf=>?_,λf=>?_⟩)
     (λc _ f=>Q8c b c _ (λe=>f (.inl (by rw[e];exact hb)))) (by simp) rfl rfl rfl (λ_ _ h=>h) (λ_ _ h _ _=>h) (λc k h=>by simpa using D.phi c k h) (λc k aN f=>?_) (λq gq hq r c f=>?_) (λp q gp gq N hq P r bn c f=>?_) (λq u hq t=>?_) (λq e1 bL n1 hq C=>?_) (λhE q oq gq hq L r=>?_)
    ·simp only[not_or]at hq
     exact⟨by rw[G1e (Ne.symm hq.2.1),G1e (Ne.symm hq.1)],by rw[G1e (Ne.symm hq.2.1),G1e (Ne.symm hq.1)]⟩
    ·rcases f with f|f
     ·exact⟨l,g,.inl rfl,J,f⟩
     exact⟨y,s,.inr (.inl rfl),K,f⟩
    ·obtain⟨q,gq,hq,r,aO⟩:=f
     rcases hq with rfl|rfl|hq
     ·rw[J]at r;injection r with r;subst r;exact .inl aO
     ·rw[K]at r;injection r with r;subst r;exact .inr aO
     rw[G1a hq]at r;cases r
    ·rcases f with f|f
     ·exact absurd aN (bl c f k)
     exact absurd aN (bk c f k)
    ·rcases hq with rfl|rfl|hq
     ·rw[G1]at r
      injection r with r
      subst r
      rcases G2v.1 f with f|f
      ·exact⟨.inl (.inl f),by simpa using(D.own q g J c f).2⟩
      exact⟨.inl (.inr f),by simpa using(D.own y s K c f).2⟩
     ·rw[G2]at r
      injection r with r
      subst r
      cases f
     rw[G1a (by simpa using hq)]at r;cases r
    ·rcases N with rfl|rfl|N
     ·rcases hq with rfl|rfl|hq
      ·exact absurd rfl bn
      ·rw[G2]at r;injection r with r;subst r;exact λh=>by cases h
      rw[G1a (by simpa using hq)]at r;cases r
     ·rw[G2]at P;injection P with P;subst P;cases f
     rw[G1a (by simpa using N)]at P;cases P
    ·refine .inl ?_
     rcases hq with rfl|rfl|hq
     ·unfold gv at t |-;rw[G1];rw[J]at t;exact t
     ·unfold gv at t |-;rw[G2];rw[K]at t;exact t
     unfold gv at t;rw[G1a hq]at t;cases t
    ·rcases hq with rfl|rfl|hq
     ·have aw:=Q9f Y
      rw[aw]at C
      injection C with C
      injection C with ax C
      injection C with V M
      subst ax V M
      refine⟨xs.length,by rw[Q9f O1];simp,G0o _,λ_=>?_⟩
      unfold gv;rw[G1,J];rfl
     ·have aw:=Q2h aa
      rw[aw]at C
      injection C with C
      injection C with ax C
      injection C with V M
      subst ax V M
      refine⟨ys.length,by unfold rowAt;rw[O2];rfl,G0o _,λ_=>?_⟩
      unfold gv;rw[G2,K];rfl
     have:=Q7d C
     have:=D.len
     omega
    rcases hq with rfl|rfl|hq
    ·rw[O1]at L
     injection L with L
     subst L
     rw[G1]at r
     injection r with r
     subst r
     have aP:(PV.agg (cs.set o (.slice ys))).cells.length=sz:=by simp only[PV.cells];rw[G2s];exact a4
     have ae:=λk=>J7i T S aP h0 k
     have aQ:∀z∈xs.set i (.agg (cs.set o (.slice ys))),z.cells.length=sz:=λz hz=>by
      rcases G2q hz with hz|rfl
      ·exact T z hz
      exact aP
     have bO:i * sz+sz<=xs.length * sz:=by
      have:=G2f sz (show i+1<=xs.length from al)
      rw[G3j]at this
      exact this
     have bo:=Q0j T
     obtain⟨aR,aS⟩:=Q9j (j:=i) ad
     have az:=λk=>Z1h aq k
     have bp:=Q5t aq
     have hold:∀ (q:Nat) gi,gs[q]?=some gi->∃O,(flat xs)[q * sz+o]?=some (.slice O)/\cells[q * sz+o]?=some gi.v/\Q9y Φ w F I O false gi:=aH
     have bq:∀ (q:Nat) gi,gs[q]?=some gi->∀c∈gi.own,c∈g.own/\c≠b:=by
      intro q gi hq c f
      have aT:c∈gs.flatMap Gh.own:=G4f.2 ⟨gi,G0r hq,f⟩
      refine⟨by rw[U];exact G5c _ aT,λe=>?_⟩
      rw[U,ao]at ak
      have:=(G4i.1 (show(b::gs.flatMap Gh.own).Nodup from ak)).1
      exact this (by rw[<-e];exact aT)
     have br:∀c∈s.own,c≠b:=λc f e=>aL b hb (by rw[<-e];exact f)
     have aU:∀ {O:List PV} {gi:Gh},Q9y Φ w F I O false gi->(∀c∈gi.own,c≠b)->Q9y Φ (w.setRow b be) F I O false gi:=λhR f=>
      hR.keep (λ_ _ h=>h) hE.cell (λc bu=>Q8c b c _ (f c bu)) (λ_ _ _ h=>h)
     refine⟨Z4h cells (i * sz+o) [v],gs++[s],by rw[G2s];exact aK,?_,aQ,λc f=>?_,h0,ad,λc f k hk=>aE c f k hk,by simp[aF],by rw[G2s];exact al,?_,?_,λk u c t f hk=>?_,λq gi hq=>?_⟩
     ·rw[bp,a3,bo,Q0j aQ,G2s]
     ·obtain⟨k,hk,bv⟩:=G2e f
      have Q:(flat (xs.set i (.agg (cs.set o (.slice ys)))))[k]?=some c:=by rw[G0c hk,bv]
      rw[ae k]at Q
      split at Q
      ·have af:=G0r Q
       simp only[PV.cells]at af
       rcases G2q af with af|rfl
       ·exact h1 c (Q5x (G0r S) (by simpa only[PV.cells]using af))
       rfl
      exact h1 c (G0r Q)
     ·show g.own++s.own=_
      rw[U,List.flatMap_append]
      simp
     ·show(g.own++s.own).Nodup
      refine G5i.2 ⟨ak,?_,λc f c' Q e=>aL c f (by rw[e];exact Q)⟩
      obtain⟨_,_,_,_,_,_,X,_⟩:=ac
      rw[X]
      cases s.v.ownBlock<;>simp
     ·have bw:k≠i * sz+o:=by
       rintro rfl
       rcases hk with hk|hk
       ·exact hk aS
       rw[G3j]at hk
       omega
      rw[az k,if_neg (by simp;omega)]at t
      rw[ae k]at f
      split at f
      ·rename_i aV
       have aW:k % sz≠o:=by
        intro e
        apply bw
        have:=G4p k sz
        rw[aV,e,G4c]at this
        exact this.symm
       simp only[PV.cells]at f
       rw[G1e (Ne.symm aW)]at f
       have h3:=Q2j T i (k % sz) _ S (G6h _ h0)
       rw[show i * sz+k % sz=k by have:=G4p k sz;rw[aV,G4c]at this;exact this]at h3
       exact(aG k u c t (by rw[h3];exact f) (.inl aW)).mono (λ_ _ h=>h) hE.cell
      refine(aG k u c t f ?_).mono (λ_ _ h=>h) hE.cell
      rcases hk with hk|hk
      ·exact .inl hk
      exact .inr (by rw[G3j]at hk;omega)
     by_cases ar:q<gs.length
     ·rw[G0l ar]at hq
      obtain⟨O,h3,h4,h5⟩:=hold q gi hq
      have bQ:q * sz+o≠i * sz+o:=by
       intro e
       have h6:=(Q9j (j:=q) ad).1
       rw[e,aR]at h6
       omega
      refine⟨O,?_,?_,aU h5 λc f=>(bq q gi hq c f).2⟩
      ·rw[ae,if_neg (by rw[(Q9j (j:=q) ad).1];omega)]
       exact h3
      rw[az,if_neg (by simp;omega)]
      exact h4
     have bB:q=gs.length:=by
      have:=(G0f.1 hq).1
      simp at this
      omega
     subst bB
     rw[G0m (G0o _)]at hq
     simp only[G6z,G0n,G0b]at hq
     subst hq
     rw[aF]
     refine⟨ys,?_,?_,aU ac br⟩
     ·rw[ae,if_pos aR,aS]
      simp only[PV.cells]
      rw[G1c (by omega)]
     rw[az,if_pos ⟨G0o _,by simp⟩,bb]
     simp
    ·rw[O2]at L
     injection L with L
     subst L
     trivial
    rw[G1a (by simpa using hq)]at r;cases r
   cases h
  cases h
 cases h
def Z5f(ti:TI)(H:List AObj)(l n i o:Nat)(e:TypeId)(sz:Nat)(xs:List PV)(j off:Nat)(q:PV):Option (List AObj):=
 match xs[i]? with
 | some (.agg cs)=>if n=xs.length/\i=j/\o<=off/\off<o+ti.size/\q.cells.length=ti.size/\o+ti.size<=cs.length then some (H.set l (.row e sz (xs.set i (.agg (Q1g cs o q.cells))) false))else none
 | _=>none
theorem Z1s(cs:List PV):(PV.agg cs).cells=cs:=rfl
theorem J2l{cs ps:List PV}{o:Nat}(h:o+ps.length<=cs.length)(k:Nat):(Q1g cs o ps)[k]?=if o<=k/\k<o+ps.length then ps[k-o]? else cs[k]?:=by
 unfold Q1g
 have a:(cs.take o).length=o:=by rw[G1h];omega
 by_cases b:k<o
 ·rw[if_neg (by omega),G0z,G0l (by omega),G1l,if_pos b]
 rw[G0z,G0m (by omega),a]
 by_cases d:k<o+ps.length
 ·rw[if_pos ⟨by omega,d⟩,G0l (by omega)]
 rw[if_neg (by omega),G0m (by omega),G1u]
 congr 1
 omega
theorem Z5e(t:OInv E γ H Φ w){K:TypeId}{ti:TI}(hT:TOne E.P K ti){a v:Value}{l n i o:Nat}{e:TypeId}{sz:Nat}{xs:List PV}{j off l2 n2:Nat}{q:PV}
 (y:H[l]?=some (.hrow e sz xs j off l2 n2)) (ha:ARel γ H Φ w a (.vptr l n i o)) (hx:Rep Φ w v q) (h:Z5f ti H l n i o e sz xs j off q=some H'):
 ∃w',(Instr.storeAt K a v).run E.P w=.ok () w'/\∃γ' Φ',Ok E γ H Φ w γ' H' Φ' w':=by
 unfold Z5f at h
 split at h
 ·rename_i cs x
  split at h
  ·rename_i f
   obtain⟨rfl,rfl,aQ,aR,am,aS⟩:=f
   simp only[G0b]at h
   subst h
   obtain⟨ao,d,hi,L,_⟩:=hT.info
   obtain⟨g,A,hO⟩:=t.gh y
   obtain⟨cells,au,av,r,M,N,C,aw,ax,O,P,aT⟩:=hO
   have aU:cs.length=sz:=r _ (G0r x)
   have ay:∃b cap,a=.pointer (some ⟨b,i * sz+o,none⟩)/\g.v=.slice (some ⟨b,0,none⟩) xs.length cap:=by
    cases ha with
    | vptr b oa _ _ _ _ e0 aX len0 hrow aY az=>
      have hre:=Z8c y
      rw[hrow]at hre
      injection hre with hre
      injection hre with _ hre
      injection hre with aA aB
      obtain⟨cap,Q,aC⟩:=az aB
      simp only[gv,A,G0w,G0b]at Q
      exact⟨b,cap,by rw[aC,aA],Q⟩
   obtain⟨b,cap,rfl,D⟩:=ay
   obtain⟨S,T,U⟩:=Q4x hx
   have V:v.cells.size=ao.size:=by rw[L,<-am,<-S];simp
   have aD:v.cells.toList.length=ti.size:=by rw[G1j,V,L]
   obtain⟨aZ,aE,aF,W⟩:=J1w (E:=E) (j:=i) (o:=o) (v:=v) hi au D ax (by omega) V (λu m=>by
    obtain⟨k,hk,F⟩:=G2e m
    have aG:k<q.cells.length:=by rw[<-S];exact hk
    exact(U k u q.cells[k] (by rw[G0c hk,F]) (G0c aG)).one (T _ (G2u _)))
   have hb:∀c,c∈g.own↔c=b:=λc=>by rw[N,D];simp[Value.ownBlock]
   have aH:∀k,¬ Φ b k:=O b (by rw[D];rfl)
   have X:(PV.agg (Q1g cs o q.cells)).cells.length=sz:=by
    rw[Z1s]
    simp only[Q1g,G0i,G1h,G0p]
    omega
   have Y:=λk=>J7i r x X C k
   have aa:∀z∈xs.set i (.agg (Q1g cs o q.cells)),z.cells.length=sz:=λz I=>by
    rcases G2q I with I|rfl
    ·exact r z I
    exact X
   have aI:=Q0j r
   have aJ:=λk=>Z1h W k
   have aK:=Q5t W
   have ac:=λk=>J2l (cs:=cs) (ps:=q.cells) (o:=o) (by omega) k
   refine⟨_,aE,γ.set l g,Φ,t.setObj (o':=.row e sz (xs.set i (.agg (Q1g cs o q.cells))) false) (g':=g) y A (λc _ aL=>Q8c b c _ (λe=>aL ((hb c).2 e))) (by simp) rfl rfl rfl (λ_ _ h=>h) (λ_ _ h _ _=>h) (λc k h=>by simpa using t.phi c k h)
    (λc k aM f=>absurd aM (by rw[(hb c).1 f];exact aH k)) (λc f=>⟨.inl f,by simpa using(t.own l g A c f).2⟩) (.inl rfl)
    (λe1 a3 n1 hr=>by
      simp only[Q1o,G0b,G1d]at hr
      obtain⟨rfl,rfl,rfl⟩:=hr
      exact⟨_,rfl,by simp,λ_=>rfl⟩) (λJ=>?_)⟩
   refine⟨Z4h cells (i * sz+o) v.cells.toList,by rw[G2s];exact aF,?_,λk u c m f=>?_,aa,λc f=>?_,N,C,λc f k=>⟨λhk=>?_,λhf=>by cases hf⟩⟩
   ·rw[aK,av,aI,Q0j aa,G2s]
   ·rw[aJ k,aD]at m
    rw[Y k]at f
    have ae:k / sz * sz+k % sz=k:=by rw[G4c];exact G4p k sz
    have aO:k % sz<sz:=G6h _ C
    by_cases s:k / sz=i
    ·rw[s]at ae
     rw[if_pos s]at f
     rw[Z1s]at f
     rw[ac]at f
     by_cases af:o<=k % sz/\k % sz<o+q.cells.length
     ·rw[if_pos af]at f
      rw[if_pos (by omega)]at m
      refine(U (k % sz-o) u c ?_ f).mono (λ_ _ h=>h) J.cell
      rw[show k % sz-o=k-(i * sz+o)by omega]
      exact m
     rw[if_neg af]at f
     rw[if_neg (by omega)]at m
     have h3:=Q2j r i (k % sz) _ x aO
     rw[ae]at h3
     exact(P k u c m (by rw[h3];exact f) (by omega)).mono (λ_ _ h=>h) J.cell
    rw[if_neg s]at f
    have aP:¬ (i * sz+o<=k/\k<i * sz+o+ti.size):=by
     intro⟨a1,a2⟩
     exact s (G6k (by omega) (by rw[G3j];omega))
    rw[if_neg aP]at m
    exact(P k u c m f (λe=>s (by rw[e];exact(Q9j aw).1))).mono (λ_ _ h=>h) J.cell
   ·obtain⟨k,hk,F⟩:=G2e f
    have p:(flat (xs.set i (.agg (Q1g cs o q.cells))))[k]?=some c:=by rw[G0c hk,F]
    rw[Y k]at p
    split at p
    ·rw[Z1s]at p
     rw[ac]at p
     split at p
     ·exact T c (G0r p)
     exact M c (Q5x (G0r x) (by rw[Z1s];exact G0r p))
    exact M c (G0r p)
   exact absurd hk (O c f k)
  cases h
 cases h
end
end Go.Abs
