import Derived.Test.YtljahlbklgnfhaaGreatDoorA6
import Derived.Laws.StructEq
import Derived.Laws.IdiomStrings
set_option linter.unusedVariables false
set_option linter.unusedSimpArgs false
set_option linter.defProp false
namespace Go.Abs
open Go.RowKit
section
variable {E:Env}{γ:List Gh}{H:List AObj}{Φ:Nat->Nat->Prop}{w:World}
def Q1f(Φ:Nat->Nat->Prop)(w:World)(vs:List Value)(cs:List PV):Prop:=
 vs.length=cs.length/\(∀c∈cs,c.one=true)/\∀ (k:Nat) v c,vs[k]?=some v->cs[k]?=some c->Rep Φ w v c
theorem Q7d{v:Value}{p:PV}(h:Rep Φ w v p):Q1f Φ w v.cells.toList p.cells:=by
 cases h with
 | agg vs cs f g i=>exact⟨f,g,i⟩
 | bool b=>exact⟨rfl,by simp[PV.cells,PV.one],λk v c a d=>by cases k<;>simp[Value.cells,PV.cells]at a d;subst a d;exact .bool b⟩
 | int l n=>exact⟨rfl,by simp[PV.cells,PV.one],λk v c a d=>by cases k<;>simp[Value.cells,PV.cells]at a d;subst a d;exact .int l n⟩
 | str s=>exact⟨rfl,by simp[PV.cells,PV.one],λk v c a d=>by cases k<;>simp[Value.cells,PV.cells]at a d;subst a d;exact .str s⟩
 | nil=>exact⟨rfl,by simp[PV.cells,PV.one],λk v c a d=>by cases k<;>simp[Value.cells,PV.cells]at a d;subst a d;exact .nil⟩
 | ifc m v'=>exact⟨rfl,by simp[PV.cells,PV.one],λk v c a d=>by cases k<;>simp[Value.cells,PV.cells]at a d;subst a d;exact .ifc m v'⟩
 | nilp=>exact⟨rfl,by simp[PV.cells,PV.one],λk v c a d=>by cases k<;>simp[Value.cells,PV.cells]at a d;subst a d;exact .nilp⟩
 | sliceNil=>exact⟨rfl,by simp[PV.cells,PV.one],λk v c a d=>by cases k<;>simp[Value.cells,PV.cells]at a d;subst a d;exact .sliceNil⟩
 | sliceAny A cap j=>exact⟨rfl,by simp[PV.cells,PV.one],λk v c a e=>by
    cases k<;>simp[Value.cells,PV.cells]at a e;subst a e;exact .sliceAny A cap j⟩
 | slice b o len cap sz xs vs f d j q g r i=>exact⟨rfl,by simp[PV.cells,PV.one],λk v c a e=>by
    cases k<;>simp[Value.cells,PV.cells]at a e;subst a e;exact .slice b o len cap sz xs vs f d j q g r i⟩
theorem Z6y(off:Nat):∀ (ps:List Value) (j:Nat) (cs:Array Value),off+j+ps.length<=cs.size->
 ((ps.zipIdx j).foldl (λcs (c,j)=>cs.setIfInBounds (off+j) c) cs).size=cs.size/\
 ∀k:Nat,((ps.zipIdx j).foldl (λcs (c,j)=>cs.setIfInBounds (off+j) c) cs)[k]?=if off+j<=k/\k<off+j+ps.length then ps[k-(off+j)]? else cs[k]?
 | [],j,cs,_=>⟨rfl,λk=>by
    rw[if_neg (by simp)]
    rfl⟩
 | p::ps,j,cs,h=>by
   simp only[G0i]at h
   obtain⟨b,d⟩:=Z6y off ps (j+1) (cs.setIfInBounds (off+j) p) (by simp;omega)
   rw[List.zipIdx_cons,List.foldl_cons]
   refine⟨by rw[b];simp,λk=>?_⟩
   rw[d k]
   by_cases hk:k=off+j
   ·subst hk
    rw[if_neg (by omega),if_pos ⟨by omega,by simp⟩,G4y,if_pos rfl,if_pos (by omega)]
    simp
   by_cases a:off+(j+1)<=k/\k<off+(j+1)+ps.length
   ·rw[if_pos a,if_pos ⟨by omega,by simp only[G0i];omega⟩]
    rw[show k-(off+j)=k-(off+(j+1))+1 from by omega,G1f]
   rw[if_neg a,if_neg (by simp only[G0i];omega),G4y,if_neg (by omega)]
theorem X1h(cs ps:List PV)(off k:Nat)(h:off+ps.length<=cs.length):(Q3c cs off ps)[k]?=if off<=k/\k<off+ps.length then ps[k-off]? else cs[k]?:=by
 unfold Q3c
 have a:(cs.take off).length=off:=by rw[G1v];omega
 by_cases b:k<off
 ·rw[if_neg (by omega),G0e,G0q (by omega),G2a,if_pos b]
 rw[G0e,G0w (by omega),a]
 by_cases d:k<off+ps.length
 ·rw[if_pos ⟨by omega,d⟩,G0q (by omega)]
 rw[if_neg (by omega),G0w (by omega),G2e]
 congr 1
 omega
theorem X7s(cs ps:List PV)(off:Nat)(h:off+ps.length<=cs.length):(Q3c cs off ps).length=cs.length:=by
 unfold Q3c
 simp only[G0g,G1v,G1w]
 omega
theorem J1l(u:OInv E γ H Φ w)(m:List (Nat×Nat))(e:Nat->Option (Nat×Nat))(y:∀ (i:Nat) p,m[i]?=some p->e i=some p):
 ∀ (Q0l:List (Nat×AV)) (vparts:List (Nat×Value)) (cs:List PV) (vs:Array Value) (r:List PV),vparts.length=Q0l.length->
  (∀ (j:Nat) (p:Nat×AV) (q:Nat×Value),Q0l[j]?=some p->vparts[j]?=some q->q.1=p.1/\ARel γ H Φ w q.2 p.2)->Q1f Φ w vs.toList cs->
  J0a H m cs Q0l=some r->∃us,Instr.fill e vs vparts=some us/\Q1f Φ w us.toList r
 | [],vparts,cs,vs,r,f,_,n,h=>by
   simp only[J0a,G0c]at h
   subst h
   cases vparts with
   | nil=>exact⟨vs,rfl,n⟩
   | cons a b=>simp at f
 | (i,v)::Q0l,[],cs,vs,r,f,_,_,_=>by simp at f
 | (i,v)::Q0l,(z,v')::vparts,cs,vs,r,f,A,n,h=>by
   simp only[J0a]at h
   split at h
   ·rename_i off sz p I J
    split at h
    ·rename_i o
     obtain⟨o,ac⟩:=o
     obtain⟨C,K⟩:=A 0 (i,v) (z,v') rfl rfl
     simp only at C
     subst C
     have L:=Q2b u K J
     obtain⟨D,M,N⟩:=Q7d L
     have O:v'.cells.size=sz:=by rw[<-o,<-D];simp
     obtain⟨P,Q,S⟩:=n
     have T:vs.size=cs.length:=by rw[<-P];simp
     obtain⟨U,V⟩:=Z6y off v'.cells.toList 0 vs (by simp;omega)
     have W:v'.cells.zipIdx.foldl (λcs (c,j)=>cs.setIfInBounds (off+j) c) vs=(v'.cells.toList.zipIdx 0).foldl (λcs (c,j)=>cs.setIfInBounds (off+j) c) vs:=by
      rw[<-G7v,G7m]
     have X:Instr.fill e vs ((z,v')::vparts)=Instr.fill e ((v'.cells.toList.zipIdx 0).foldl (λcs (c,j)=>cs.setIfInBounds (off+j) c) vs) vparts:=by
      rw[<-W]
      simp only[Instr.fill,y _ _ I]
      rw[if_neg]
      simp only[O,ne_eq,G5a,G7d,G2k,G0l]
      omega
     rw[X]
     have t:off+p.cells.length<=cs.length:=by omega
     refine J1l u m e y Q0l vparts _ _ r (by simpa using f) (λj a b Y hb=>A (j+1) a b (by simpa using Y) (by simpa using hb)) ⟨?_,λc d=>?_,λk x c g d=>?_⟩ h
     ·rw[G2h,U,X7s _ _ _ t,T]
     ·obtain⟨k,hk,aa⟩:=G3f d
      have l:(Q3c cs off p.cells)[k]?=some c:=by rw[G0f hk,aa]
      rw[X1h _ _ _ _ t]at l
      split at l
      ·exact M c (G1o l)
      exact Q c (G1o l)
     rw[G2j,V k]at g
     rw[X1h _ _ _ _ t]at d
     have ad:v'.cells.toList.length=p.cells.length:=D
     by_cases F:off<=k/\k<off+p.cells.length
     ·rw[if_pos ⟨by omega,by omega⟩]at g
      rw[if_pos F]at d
      exact N _ x c g d
     rw[if_neg (by omega)]at g
     rw[if_neg F]at d
     exact S k x c (by rw[G2j];exact g) d
    cases h
   cases h
theorem J5r(F:OInv E γ H Φ w){t:TypeId}{Q0l:List (Nat×AV)}{vparts:Array (Nat×Value)}(I:vparts.size=Q0l.length)
 (J:∀ (j:Nat) (p:Nat×AV) (q:Nat×Value),Q0l[j]?=some p->vparts[j]?=some q->q.1=p.1/\ARel γ H Φ w q.2 p.2) {r:AV} (h:Z7t E.T H t Q0l=some r):
 ∃u,(Instr.build t vparts).run E.P w=.ok u w/\ARel γ H Φ w u r:=by
 unfold Z7t at h
 split at h
 ·rename_i a _ _ z hT
  obtain⟨cs,K,rfl⟩:=G0k.1 h
  obtain⟨i,d,L,hs,_,hd,hk,M⟩:=(E.hT _ _ hT).info
  obtain⟨fields,rfl,N,O⟩:=Q9w hk
  obtain⟨zv,P,Q,_,x,_⟩:=M z rfl
  have S:∀ (l:List Field) (k:Nat),(∀ (j:Nat) f,l[j]?=some f->fields[k+j]?=some f)->
   (l.mapM (λf=>do pure (f.offset,<-sizeOf f.type):Field->Sem (Nat×Nat))).run E.P w=.ok ((a.drop k).take l.length) w:=by
   intro l
   induction l with
   | nil=>intro k _;simp
   | cons f l T=>
     intro k b
     have e:=b 0 f rfl
     rw[G3m]at e
     have y:k<a.length:=by
      have:=(G1r.1 e).1
      omega
     obtain⟨U,fi,V,W⟩:=O k f a[k] e (G0f y)
     have A:=T (k+1) (λj g X=>by
      have:=b (j+1) g (by simpa using X)
      rw[show k+1+j=k+(j+1) from by omega]
      exact this)
     have C:(do pure (f.offset,<-sizeOf f.type):Sem (Nat×Nat)).run E.P w=.ok a[k] w:=by
      simp[Q1q V,U,W]
     simp only[bind]at A
     simp only[G7y,bind,G1n]at C |-
     rw[C]
     simp only[G1b,A]
     rw[G4p y,G0i,G3w]
     rfl
  have D:(fields.mapM (λf=>do pure (f.offset,<-sizeOf f.type):Field->Sem (Nat×Nat))).run E.P w=.ok a.toArray w:=by
   have:=S fields.toList 0 (λj f b=>by simpa using b)
   rw[G4q,G8f,this]
   simp[N]
  have Y:∀c∈z,c.one=true:=λc m=>by
   obtain⟨k,aa,ac⟩:=G3f m
   have ad:k<zv.cells.toList.length:=by omega
   exact(x k zv.cells.toList[k] c (G0f ad) (by rw[G0f aa,ac])).1
  obtain⟨us,ae,n⟩:=J1l F a (a.toArray[·]?) (λi p o=>by simpa using o) Q0l vparts.toList z zv.cells cs (by simpa using I)
   (λj p q o hq=>J j p q o (by simpa using hq)) ⟨Q,Y,λk v c hv m=>(x k v c hv m).2.1 Φ w⟩ K
  refine⟨.agg us,?_,.pv (.agg us.toList cs n.1 n.2.1 n.2.2)⟩
  unfold Instr.build
  simp only[bind]at D
  simp only[bind,G1n]
  have ag:(zeroValue t).run E.P w=.ok zv w:=by simp[zeroValue,typeInfo,L,P]
  simp only[ag,G1b,G1c hd,G1n,D]
  rw[ae]
  rfl
 cases h
end
section
variable {E:Env}{γ:List Gh}{H:List AObj}{Φ:Nat->Nat->Prop}{w:World}
theorem X3o{t:TypeId}{ti:TI}(hT:TOne E.P t ti){z:PV}(h:X0k ti=some z):∃v,(zeroValue t).run E.P w=.ok v w/\∀ (Φ:Nat->Nat->Prop) (w:World),Rep Φ w v z:=by
 obtain⟨i,d,n,hs,_,hd,hk,o⟩:=hT.info
 unfold X0k at h
 split at h
 ·rename_i g a q j
  simp only[G0c]at h
  subst h
  obtain⟨zv,l,p,_,f,m,_⟩:=o a j
  obtain⟨cs,rfl⟩:=m g q
  refine⟨_,by simp[zeroValue,typeInfo,n,l],λΦ w=>.agg cs.toList a p (λc b=>?_) (λk v c r b=>(f k v c r b).2.1 Φ w)⟩
  obtain⟨k,u,x⟩:=G3f b
  have y:k<(Value.agg cs).cells.toList.length:=by omega
  exact(f k _ c (G0f y) (by rw[G0f u,x])).1
 ·cases h
 ·rename_i a j k1 k2
  simp only[G0c]at h
  subst h
  obtain⟨zv,l,p,_,f,_,m⟩:=o [a] j
  refine⟨zv,by simp[zeroValue,typeInfo,n,l],λΦ w=>?_⟩
  have b:=m (λg e=>k1 g e)
  exact(f 0 zv a (by rw[b];rfl) rfl).2.1 Φ w
 cases h
end
section
variable {E:Env}{γ:List Gh}{H:List AObj}{Φ:Nat->Nat->Prop}{w:World}
theorem X4l(p:OInv E γ H Φ w){f t:TypeId}{v:Value}{x r:AV}(g:ARel γ H Φ w v x)(h:qlen E.T H f x=some r):
 ∃u,(Builtin.len_ #[f] t #[v]).run E.P w=.ok u w/\ARel γ H Φ w u r:=by
 unfold qlen at h
 split at h
 ·rename_i hT
  obtain⟨d,hd,hk⟩:=(E.hT _ _ hT).und
  have i:=Z5b hk
  rw[i]at hd
  split at h
  ·simp only[G0c]at h
   subst h
   have:=Q1z (Q0p g)
   subst this
   exact⟨_,by simp[Builtin.len_,G1c hd,goInt];rfl,.pv (.int _ _)⟩
  cases h
 ·rename_i hT
  obtain⟨d,hd,hk⟩:=(E.hT _ _ hT).und
  have i:=Q4b hk
  rw[i]at hd
  have a:∀A n c,(Builtin.len_ #[f] t #[.slice A n c]).run E.P w=.ok (.int .i64 n) w:=λA n c=>by
   simp[Builtin.len_,G1c hd,goInt]
  split at h
  ·simp only[G0c]at h
   subst h
   cases Q0p g with
   | sliceNil=>exact⟨_,a _ _ _,.pv (.int _ _)⟩
   | sliceAny A cap j=>exact⟨_,a _ _ _,.pv (.int _ _)⟩
   | slice b o len cap sz xs vs m q j y z C D=>exact⟨_,a _ _ _,by rw[m];exact .pv (.int _ _)⟩
  ·simp only[G0c]at h
   subst h
   cases g with
   | vec A l n cap e sz len F I J K=>exact⟨_,a _ _ _,.pv (.int _ _)⟩
  cases h
 cases h
theorem J7x{f dst:TypeId}{v:Value}{x r:AV}(g:ARel γ H Φ w v x)(h:K3k E.T f dst x=some r):
 ∃u,(convert f dst v).run E.P w=.ok u w/\ARel γ H Φ w u r:=by
 unfold K3k at h
 split at h
 ·rename_i hs hd
  obtain⟨i,a,d⟩:=(E.hT _ _ hs).und
  obtain⟨j,b,e⟩:=(E.hT _ _ hd).und
  rw[X0n d]at a
  rw[X0n e]at b
  simp only[G0c]at h
  subst h
  have:=Q2v (Q0p g)
  subst this
  exact⟨_,by simp[convert,G1c a,G1c b,Conv.intToInt],.pv (.int _ _)⟩
 ·rename_i hs hd
  obtain⟨i,a,d⟩:=(E.hT _ _ hs).und
  obtain⟨j,b,e⟩:=(E.hT _ _ hd).und
  rw[Z5b d]at a
  rw[Z5b e]at b
  simp only[G0c]at h
  subst h
  have:=Q1z (Q0p g)
  subst this
  exact⟨_,by simp[convert,G1c a,G1c b],.pv (.str _)⟩
 cases h
theorem Q9f:∀ {xs:List PV} {s:List UInt8},Q9g xs=some s->s.length=xs.length/\∀ (k:Nat) c,s[k]?=some c->xs[k]?=some (.int .u8 (c.toNat:Int))
 | [],s,h=>by
   simp only[Q9g,G0c]at h
   subst h
   exact⟨rfl,λk c a=>by simp at a⟩
 | x::xs,s,h=>by
   unfold Q9g at h
   split at h
   ·rename_i e
    cases e
   ·rename_i n r e
    injection e with b d
    subst b d
    split at h
    ·rename_i f
     obtain⟨l,g,rfl⟩:=G0k.1 h
     obtain⟨i,j⟩:=Q9f g
     refine⟨by simp[i],λk c a=>?_⟩
     cases k with
     | zero=>
       simp only[G0s,G0c]at a |-
       subst a
       have:(UInt8.ofNat n.toNat).toNat=n.toNat % 256:=rfl
       rw[this,Nat.mod_eq_of_lt (by omega),G5e f.1]
     | succ k=>
       rw[G1f]at a |-
       exact j k c a
    cases h
   cases h
theorem J5q(L:OInv E γ H Φ w){a dst:TypeId}{v:Value}{l n:Nat}{r:AV}(M:ARel γ H Φ w v (.vec l n))(h:X1g E.T H a dst l n=some r):
 ∃u,(convert a dst v).run E.P w=.ok u w/\ARel γ H Φ w u r:=by
 unfold X1g at h
 split at h
 ·rename_i e _ _ _ _ _ _ e' xs fz hs hd t
  split at h
  ·rename_i f
   obtain⟨i,N⟩:=f
   obtain⟨s,hb,rfl⟩:=G0k.1 h
   obtain⟨O,P⟩:=Q9f hb
   obtain⟨d1,m,Q⟩:=(E.hT _ _ hs).und
   obtain⟨d2,o,S⟩:=(E.hT _ _ hd).und
   rw[Q4b Q]at m
   rw[Z5b S]at o
   have x:E.P.underlying e=some (.int .u8):=by
    unfold isU8 at i
    split at i
    ·rename_i T
     obtain⟨d3,y,U⟩:=(E.hT _ _ T).und
     rw[X0n U]at y
     exact y
    cases i
   obtain⟨g,V,W⟩:=L.gh t
   obtain⟨cells,z,am,X,C,h1,_,_,_⟩:=W
   have aq:=Q0s C
   cases M with
   | vec A _ _ cap e0 au len0 Y av hA aa=>
     have hre:=Q3l t
     rw[Y]at hre
     injection hre with hre
     injection hre with _ hre
     injection hre with _ ay
     have d:=aa (by omega)
     simp only[gv,V,G1s,G0c]at d
     rcases z.2 with⟨D,hz⟩|⟨b,aA,aB,F,_⟩
     ·have ac:s=[]:=G0u (by omega)
      rw[d]at D
      injection D with p I q
      subst p I q
      refine⟨.string ⟨#[]⟩,?_,by rw[ac];exact .pv (.str [])⟩
      rw[run_convert_bytes_string w a dst e none 0 0 m x o]
      simp[Conv.bytesToString]
      rfl
     rw[d]at F
     injection F with p I q
     subst p q
     refine⟨.string ⟨s.toArray⟩,?_,.pv (.str s)⟩
     rw[<-N,<-O]
     refine run_convert_bytes_back w a dst e ⟨b,0,none⟩ cap s m x o λj hj=>?_
     have J:j<cells.length:=by omega
     have f:=z.cells (g:=b) (by rw[d];rfl) j cells[j] (G0f J)
     rw[f]
     have ae:=P j s[j] (G0f hj)
     have K:=Q5v C j 0 _ ae (by omega)
     rw[G7n,G3m]at K
     have hr:=X j cells[j] (.int .u8 (s[j].toNat:Int)) (G0f J) (by rw[K];rfl)
     rw[Q2v hr]
  cases h
 cases h
theorem Z8v:∀ {xs:List PV} {s:List UInt8},Q9g xs=some s->∀x∈xs,x.cells.length=1
 | [],s,h,x,a=>by simp at a
 | y::xs,s,h,x,a=>by
   unfold Q9g at h
   split at h
   ·rename_i e
    cases e
   ·rename_i n r e
    injection e with b d
    subst b d
    split at h
    ·obtain⟨g,f,rfl⟩:=G0k.1 h
     rcases G1j.1 a with rfl|a
     ·rfl
     exact Z8v f x a
    cases h
   cases h
theorem J2y{a dst:TypeId}{v:Value}{xs:List PV}{r:AV}(C:ARel γ H Φ w v (.full xs))(h:J7z E.T a dst xs=some r):
 ∃u,(convert a dst v).run E.P w=.ok u w/\ARel γ H Φ w u r:=by
 unfold J7z at h
 split at h
 ·rename_i e _ _ _ _ _ _ hs hd
  split at h
  ·rename_i g
   obtain⟨s,hb,rfl⟩:=G0k.1 h
   obtain⟨t,D⟩:=Q9f hb
   obtain⟨Q,d,F⟩:=(E.hT _ _ hs).und
   obtain⟨S,f,I⟩:=(E.hT _ _ hd).und
   rw[Q4b F]at d
   rw[Z5b I]at f
   have i:E.P.underlying e=some (.int .u8):=by
    unfold isU8 at g
    split at g
    ·rename_i J
     obtain⟨T,x,K⟩:=(E.hT _ _ J).und
     rw[X0n K]at x
     exact x
    cases g
   have y:=Z8v hb
   have U:=Q0s y
   cases C with
   | full A n _ l=>
     cases l with
     | sliceNil=>
       have m:s=[]:=G0u t
       refine⟨.string ⟨#[]⟩,?_,by rw[m];exact .pv (.str [])⟩
       rw[run_convert_bytes_string w a dst e none 0 0 d i f]
       simp[Conv.bytesToString]
       rfl
     | sliceAny A L=>
       have m:s=[]:=G0u t
       subst m
       exact⟨.string ⟨([]:List UInt8).toArray⟩,run_convert_bytes_back w a dst e A 0 [] d i f (λj p=>by simp at p),.pv (.str [])⟩
     | slice b o len cap sz _ vs V q L W X M l=>
       refine⟨.string ⟨s.toArray⟩,?_,.pv (.str s)⟩
       have N:n=s.length:=by omega
       subst N
       refine run_convert_bytes_back w a dst e ⟨b,o,none⟩ _ s d i f λj p=>?_
       have O:=D j s[j] (G0f p)
       have z:=Q5v y j 0 _ O (by omega)
       rw[G7n,G3m]at z
       have P:=l j (.int .u8 (s[j].toNat:Int)) (by rw[z];rfl)
       have q:=(M j (by omega)).2
       rw[Q2v P]at q
       rw[G5j];exact q
  cases h
 cases h
theorem J5p(d:OInv E γ H Φ w){b dst:TypeId}{v:Value}{x r:AV}(a:ARel γ H Φ w v x)(h:J1a E.T H b dst x=some r):
 ∃u,(convert b dst v).run E.P w=.ok u w/\ARel γ H Φ w u r:=by
 cases x with
 | vec l n=>exact J5q d a h
 | full xs=>exact J2y a h
 | _=>exact J7x a h
theorem Q0w{s:Sem Value}{u:Value}{w':World}(h:s.run E.P w=.ok u w'):(do pure (Next.value (<- s)):Sem Next).run E.P w=.ok (.value u) w':=by
 simp only[bind,G1n,h,G1b]
 rfl
theorem K9y(F:OInv E γ H Φ w){a:Act}{t:Nat->AV}(hs:Slots γ H Φ w a t){o:Oper}{r:AV}(h:qval E.T t H o.op=some r):
 ∃u,(execOp a.eval o).run E.P w=.ok (.value u) w/\ARel γ H Φ w u r:=by
 unfold qval at h
 unfold execOp
 split at h
 ·rename_i x d
  simp only[G0c]at h
  subst h
  exact⟨a.eval x,by simp only[d];rfl,Q0u hs x⟩
 ·rename_i x d
  simp only[G0c]at h
  subst h
  exact⟨a.eval x,by simp only[d];rfl,Q0u hs x⟩
 ·rename_i c x y d
  split at h
  ·rename_i b T
   simp only[G0c]at h
   subst h
   have M:=Q0u hs c
   rw[T]at M
   have U:=Z0a (Q0p M)
   refine⟨if b then a.eval x else a.eval y,by simp only[d,U];rfl,?_⟩
   cases b
   ·exact Q0u hs y
   exact Q0u hs x
  cases h
 ·rename_i op n x y yt d
  obtain⟨u,e,g⟩:=X4n op n x y (Q0u hs x) (Q0u hs y) h
  exact⟨u,by simp only[d];exact Q0w e,g⟩
 ·rename_i op n x d
  obtain⟨u,e,g⟩:=X7k (E:=E) op (Q0u hs x) h
  exact⟨u,by simp only[d];exact Q0w e,g⟩
 ·rename_i n x d
  obtain⟨u,e,g⟩:=J1e F (Q0u hs x) h
  exact⟨u,by simp only[d];exact Q0w e,g⟩
 ·rename_i n x f d
  obtain⟨u,e,g⟩:=Z6c (Q0u hs x) h
  exact⟨u,by simp only[d];exact Q0w e,g⟩
 ·rename_i n x i d
  obtain⟨u,e,g⟩:=Z6b (X7z (Q0u hs x)) (Q0u hs i) h
  exact⟨u,by simp only[d];exact Q0w e,g⟩
 ·rename_i n x i d
  obtain⟨u,e,g⟩:=J5n (Q0u hs x) (Q0u hs i) h
  exact⟨u,by simp only[d];exact Q0w e,g⟩
 ·rename_i n x J D d
  have N:∀ (o:Option Operand) (b:AV) (c:Value),o.map (ev t)=some b->o.map a.eval=some c->ARel γ H Φ w c b:=by
   intro o b c K O
   cases o with
   | none=>cases K
   | some z=>
     simp only[G1s,G0c]at K O
     rw[<-K,<-O]
     exact Q0u hs z
  obtain⟨u,e,g⟩:=J5h F (vlo:=J.map a.eval) (vhi:=D.map a.eval) (Q0u hs x) (N J) (by cases J<;>simp) (N D) (by cases D<;>simp) h
  exact⟨u,by simp only[d];exact Q0w e,g⟩
 ·rename_i x i d
  have m:=Q0u hs x
  unfold Z6n at h
  split at h
  ·rename_i vs A
   rw[A]at m
   generalize V:a.eval x=y at m
   cases m with
   | tup ws vs hl W=>
     have D:i<ws.length:=by
      have:=(G0j.1 h).1
      omega
     refine⟨ws[i],?_,W i ws[i] r (G0f D) h⟩
     simp only[d,V]
     refine Q0w ?_
     simp[Instr.extract,D]
  cases h
 ·rename_i n Q0l d
  obtain⟨u,e,g⟩:=J5r F (vparts:=Q0l.map λ(p:Nat×Operand)=>(p.1,a.eval p.2)) (by simp) (λj p q P hq=>by
   rw[G1i]at P
   rw[Array.getElem?_map]at hq
   obtain⟨z,Q,rfl⟩:=G0k.1 P
   rw[G2j]at Q
   rw[Q]at hq
   simp only[G1s,G0c]at hq
   subst hq
   exact⟨rfl,Q0u hs z.2⟩) h
  exact⟨u,by simp only[d];exact Q0w e,g⟩
 ·rename_i x d
  have m:=Q0u hs x
  refine⟨a.eval x,?_,?_⟩
  ·simp only[d]
   generalize a.eval x=y at m |-
   generalize ev t x=z at m h
   unfold qnil at h
   cases m<;>first|rfl|simp at h
  generalize ev t x=z at m h
  unfold qnil at h
  split at h<;>first|(simp only[G0c]at h;subst h;exact m)|cases h
 ·rename_i av dst x d
  obtain⟨u,e,g⟩:=J5p F (Q0u hs x) h
  exact⟨u,by simp only[d];exact Q0w e,g⟩
 ·rename_i args S d
  split at h
  ·rename_i x n m X
   have Y:args=#[x]:=by rw[<-G3t (xs:=args),m]
   have hat:S=#[n]:=by rw[<-G3t (xs:=S),X]
   subst Y;subst hat
   obtain⟨u,e,g⟩:=X4l F (t:=o.type) (X7z (Q0u hs x)) h
   refine⟨u,?_,g⟩
   simp only[d,resolve,bind,G1n]
   simp only[pure,G5t,G1b,invoke,builtin]
   exact Q0w (by simpa using e)
  cases h
 ·rename_i f first caps d
  split at h
  ·rename_i h0
   obtain⟨C,ac,rfl⟩:=G0k.1 h
   have hf:first=#[]:=Array.eq_empty_of_size_eq_zero h0
   subst hf
   have ae:∀ (xs:List Operand) (C:List Nat),Z2i (xs.map (ev t))=some C->(xs.map a.eval).length=C.length/\∀ (k:Nat) v l,(xs.map a.eval)[k]?=some v->C[k]?=some l->∃b,v=.pointer (some ⟨b,0,none⟩)/\gv γ l=some v:=by
    intro xs
    induction xs with
    | nil=>
      intro C h
      simp only[G3q,Z2i,G0c]at h
      subst h
      exact⟨rfl,λk v l A=>by simp at A⟩
    | cons x xs ih=>
      intro C h
      have m:=Q0u hs x
      rw[G2i]at h
      generalize ev t x=y at m h
      unfold Z2i at h
      split at h
      ·rename_i L
       cases L
      ·rename_i l r L
       injection L with e1 e2
       subst e1 e2
       obtain⟨ak,al,rfl⟩:=G0k.1 h
       obtain⟨i1,i2⟩:=ih ak al
       refine⟨by simp[i1],λk v l' A I=>?_⟩
       cases k with
       | zero=>
         simp only[G2i,G0s,G0c]at A I
         subst A I
         generalize a.eval x=u at m
         cases m with
         | ref b l off hg=>exact⟨b,rfl,hg⟩
       | succ k=>
         rw[G2i,G1f]at A
         rw[G1f]at I
         exact i2 k v l' A I
      cases h
   obtain⟨k1,k2⟩:=ae caps.toList C ac
   refine⟨.func (.func f) #[] (caps.map a.eval),by simp only[d];exact Q0w (by simp[Instr.makeFunc]),?_⟩
   have:caps.map a.eval=⟨caps.toList.map a.eval⟩:=by rw[<-Array.toList_map]
   rw[this]
   exact .fn f _ C k1 k2
  cases h
 cases h
end
structure Since(γ₀:List Gh)(Φ₀:Nat->Nat->Prop)(w₀:World)(γ:List Gh)(Φ:Nat->Nat->Prop)(w:World):Prop where
 os:w.os=w₀.os
 tape:w.tape=w₀.tape
 output:w.output=w₀.output
 size:w₀.heap.size<=w.heap.size
 foreign:∀b,b<w₀.heap.size->(∀ (i:Nat) g,γ₀[i]?=some g->b∉g.own)->w.heap[b]?=w₀.heap[b]?
 phi:∀b k,Φ b k->b<w₀.heap.size->(∀ (i:Nat) g,γ₀[i]?=some g->b∉g.own)->Φ₀ b k
 own:∀ (i:Nat) g,γ[i]?=some g->∀b∈g.own,w₀.heap.size<=b\/∃ (j:Nat) (g₀:Gh),γ₀[j]?=some g₀/\b∈g₀.own
theorem Since.refl(γ:List Gh)(Φ:Nat->Nat->Prop)(w:World):Since γ Φ w γ Φ w:=
 ⟨rfl,rfl,rfl,G0r _,λ_ _ _=>rfl,λ_ _ h _ _=>h,λi g a _ hb=>.inr ⟨i,g,a,hb⟩⟩
theorem Since.trans{γ₀ d m:List Gh}{Φ₀ n o:Nat->Nat->Prop}{w₀ p w₂:World}(h:Since γ₀ Φ₀ w₀ d n p)(k:Since d n p m o w₂):Since γ₀ Φ₀ w₀ m o w₂:=by
 have q:∀b,b<w₀.heap.size->(∀ (i:Nat) g,γ₀[i]?=some g->b∉g.own)->∀ (i:Nat) g,d[i]?=some g->b∉g.own:=by
  intro b hb a i g e f
  rcases h.own i g e b f with r|⟨j,t,l,u⟩
  ·omega
  exact a j t l u
 refine⟨k.os.trans h.os,k.tape.trans h.tape,k.output.trans h.output,G3c h.size k.size,λb hb a=>?_,λb i x hb a=>?_,λi g e b hb=>?_⟩
 ·exact(k.foreign b (G1m hb h.size) (q b hb a)).trans (h.foreign b hb a)
 ·exact h.phi b i (k.phi b i x (G1m hb h.size) (q b hb a)) hb a
 rcases k.own i g e b hb with r|⟨j,y,l,f⟩
 ·exact .inl (G3c h.size r)
 exact h.own j y l b f
structure Ok(E:Env)(γ₀:List Gh)(H₀:List AObj)(Φ₀:Nat->Nat->Prop)(w₀:World)(γ:List Gh)(H:List AObj)(Φ:Nat->Nat->Prop)(w:World):Prop where
 inv:OInv E γ H Φ w
 evo:Evo γ₀ H₀ Φ₀ w₀ γ H Φ w
 since:Since γ₀ Φ₀ w₀ γ Φ w
theorem Ok.refl{E:Env}{γ:List Gh}{H:List AObj}{Φ:Nat->Nat->Prop}{w:World}(h:OInv E γ H Φ w):Ok E γ H Φ w γ H Φ w:=⟨h,.refl _ _ _ _,.refl _ _ _⟩
theorem Ok.trans{E:Env}{γ₀ a b:List Gh}{H₀ H₁ H₂:List AObj}{Φ₀ d e:Nat->Nat->Prop}{w₀ f w₂:World}(h:Ok E γ₀ H₀ Φ₀ w₀ a H₁ d f)(k:Ok E a H₁ d f b H₂ e w₂):
 Ok E γ₀ H₀ Φ₀ w₀ b H₂ e w₂:=⟨k.inv,h.evo.trans k.evo,h.since.trans k.since⟩
section
variable {E:Env}{γ γ':List Gh}{H H':List AObj}{Φ Φ':Nat->Nat->Prop}{w w':World}
theorem cell_of_heap{b k:Nat}(h:w'.heap[b]?=w.heap[b]?):w'.cell? ⟨b,k,none⟩=w.cell? ⟨b,k,none⟩:=World.cell?_of_block (a:=⟨b,k,none⟩) h
theorem Q1s{e:TypeId}{sz n:Nat}{v:Value}{cells:List Value}(h:w.ownsRow 0 e sz v n cells)(hb:∀b,v.ownBlock=some b->w'.heap[b]?=w.heap[b]?):w'.ownsRow 0 e sz v n cells:=by
 refine⟨h.1,?_⟩
 rcases h.2 with a|⟨g,cap,d,rfl,f,i,rest⟩
 ·exact .inl a
 exact .inr ⟨g,cap,d,rfl,f,(hb g rfl).trans i,rest⟩
theorem J6y.keep{e:TypeId}{sz:Nat}{xs:List PV}{fz:Bool}{g:Gh}(a:∀b k,Φ b k->Φ' b k)(j:∀b k,Φ b k->w'.cell? ⟨b,k,none⟩=w.cell? ⟨b,k,none⟩)(l:J6y Φ w e sz xs fz g)(m:∀b∈g.own,w'.heap[b]?=w.heap[b]?)(n:∀b∈g.own,∀k,Φ' b k->Φ b k):
 J6y Φ' w' e sz xs fz g:=by
 obtain⟨cells,o,p,q,r,t,d,u,f⟩:=l
 have i:∀b,g.v.ownBlock=some b->b∈g.own:=λb hb=>by rw[d,hb];simp
 exact⟨cells,Q1s o (λb hb=>m b (i b hb)),p,λk v c x y=>(q k v c x y).mono a j,r,t,d,u,λb hb k=>
  ⟨λhk=>(f b hb k).1 (n b (i b hb) k hk),λz hk=>a _ _ ((f b hb k).2 z hk)⟩⟩
theorem ObjRel.keep(u:Evo γ H Φ w γ' H' Φ' w'){o:AObj}{g:Gh}(x:ObjRel E γ H Φ w o g)(l:∀b∈g.own,w'.heap[b]?=w.heap[b]?)(m:∀b∈g.own,∀k,Φ' b k->Φ b k):
 ObjRel E γ' H' Φ' w' o g:=by
 cases o with
 | var cs=>
   obtain⟨b,T,vs,i,f,hb,N,F,q⟩:=x
   exact⟨b,T,vs,i,f,(l b (by simp[f])).trans hb,N,λk v c y I=>⟨(F k v c y I).1,(F k v c y I).2.mono u⟩,λk hk=>q.1 k (m b (by simp[f]) k hk),q.2⟩
 | row e sz xs fz=>
   obtain⟨cells,j,O,P,Q,y,f,A,z⟩:=x
   have t:∀b,g.v.ownBlock=some b->b∈g.own:=λb hb=>by rw[f,hb];simp
   exact⟨cells,Q1s j (λb hb=>l b (t b hb)),O,λk v c i a=>(P k v c i a).mono u.phi u.cell,Q,y,f,A,λb hb k=>
    ⟨λhk=>(z b hb k).1 (m b (t b hb) k hk),λS hk=>u.phi _ _ ((z b hb k).2 S hk)⟩⟩
 | bld s=>
   obtain⟨b,p,v,i,f,z,hb,j,U,q,V⟩:=x
   have t:∀c,v.ownBlock=some c->c∈g.own:=λc a=>by rw[f,a];simp
   exact⟨b,p,v,i,f,z,(l b (by simp[f])).trans hb,Q1s j (λc a=>l c (t c a)),U,λk hk=>q k (m b (by simp[f]) k hk),λc a k hk=>V c a k (m c (t c a) k hk)⟩
 | brow e s=>
   obtain⟨j,f,q⟩:=x
   have t:∀c,g.v.ownBlock=some c->c∈g.own:=λc a=>by rw[f,a];simp
   refine⟨⟨j.1,j.2.imp id λ⟨b,cap,C,fz,i,D,hb,r⟩=>⟨b,cap,C,fz,i,D,(l b (t b (by rw[i];rfl))).trans hb,r⟩⟩,f,λc a k hk=>q c a k (m c (t c a) k hk)⟩
 | prn e1 s e2 sz xs=>
   obtain⟨b,W,v1,J,i,f,X,hb,A,q,j,Y,hR⟩:=x
   have K:b∈g.own:=by rw[f];simp
   have L:∀c,v1.ownBlock=some c->c∈g.own:=λc a=>by rw[f,a];simp
   have M:∀c,J.ownBlock=some c->c∈g.own:=λc a=>by rw[f,a];simp
   refine⟨b,W,v1,J,i,f,X,(l b K).trans hb,A,λk hk=>q k (m b K k hk),⟨j.1,j.2.imp id λ⟨b,cap,C,fz,i,D,hb,r⟩=>⟨b,cap,C,fz,i,D,(l b (L b (by rw[i];rfl))).trans hb,r⟩⟩,λc a k hk=>Y c a k (m c (L c a) k hk),?_⟩
   exact hR.keep u.phi u.cell (λc a=>l c (M c (by simpa using a))) (λc a=>m c (M c (by simpa using a)))
 | moved e sz n=>trivial
 | hold d=>exact x
 | gone=>trivial
theorem Z0t{g:Gh}{l:Nat}(h:l<γ.length):gv (γ++[g]) l=gv γ l:=by
 unfold gv
 rw[G0q h]
theorem Z3x{l:Nat}{v:Value}(h:gv γ l=some v):∃g,γ[l]?=some g/\g.v=v:=by
 unfold gv at h
 obtain⟨g,a,b⟩:=G0k.1 h
 exact⟨g,a,b⟩
theorem OInv.grow(a:OInv E γ H Φ w)(f:∀b,b<w.heap.size->w'.heap[b]?=w.heap[b]?)(hs:w.heap.size<=w'.heap.size)(p:w'.os=w.os)(q:w'.tape=w.tape)(r:w'.output=w.output)
 (t:∀b k,Φ b k->Φ' b k) (j:∀b k,Φ' b k->b<w.heap.size->Φ b k) (u:∀b k,Φ' b k->b<w'.heap.size):Ok E γ H Φ w γ H Φ' w':=by
 have m:Evo γ H Φ w γ H Φ' w':=⟨t,λb k h=>cell_of_heap (f b (a.phi b k h)),λ_ _ h=>.inl h,λl e sz n h=>⟨n,h,G0r _,λ_=>rfl⟩⟩
 refine⟨⟨a.len,λl o g x d=>?_,a.disj,λi g d b hb=>⟨(a.own i g d b hb).1,G1m (a.own i g d b hb).2 hs⟩,u,E.hG w w' a.gi (λb hb=>f b (G1m hb a.gn)),G3c a.gn hs⟩,m,
  ⟨p,q,r,hs,λb hb _=>f b hb,λb k h hb _=>j b k h hb,λi g d b hb=>.inr ⟨i,g,d,hb⟩⟩⟩
 exact(a.obj l o g x d).keep m (λb hb=>f b (a.own l g d b hb).2) (λb hb k hk=>j b k hk (a.own l g d b hb).2)
theorem OInv.pushObj(a:OInv E γ H Φ w)(q:∀b,b<w.heap.size->w'.heap[b]?=w.heap[b]?)(hs:w.heap.size<=w'.heap.size)(J:w'.os=w.os)(K:w'.tape=w.tape)(L:w'.output=w.output)
 (M:∀b k,Φ b k->Φ' b k) (D:∀b k,Φ' b k->b<w.heap.size->Φ b k) (N:∀b k,Φ' b k->b<w'.heap.size) (g:Gh) (o:AObj)
 (f:∀b∈g.own,w.heap.size<=b/\b<w'.heap.size) (O:Evo γ H Φ w (γ++[g]) (H++[o]) Φ' w'->ObjRel E (γ++[g]) (H++[o]) Φ' w' o g):Ok E γ H Φ w (γ++[g]) (H++[o]) Φ' w':=by
 have u:Evo γ H Φ w (γ++[g]) (H++[o]) Φ' w':=by
  refine⟨M,λb k h=>cell_of_heap (q b (a.phi b k h)),λl v h=>.inl ?_,λl e sz n h=>⟨n,?_,G0r _,λ_=>?_⟩⟩
  ·obtain⟨g',m,_⟩:=Z3x h
   rw[Z0t (G0j.1 m).1]
   exact h
  ·unfold rowAt
   rw[G0q (Q9z h)]
   exact h
  rw[Z0t (by rw[a.len];exact Q9z h)]
 have old:∀ (i:Nat) x,(γ++[g])[i]?=some x->(i<γ.length/\γ[i]?=some x)\/(i=γ.length/\x=g):=by
  intro i x d
  by_cases r:i<γ.length
  ·rw[G0q r]at d
   exact .inl ⟨r,d⟩
  rw[G0w (by omega)]at d
  have P:i-γ.length=0:=by
   have:=(G0j.1 d).1
   simp at this
   omega
  rw[P]at d
  simp only[G0s,G0c]at d
  exact .inr ⟨by omega,d.symm⟩
 refine⟨⟨by simp[a.len],λl o' g' p Q=>?_,λi j y z r S T b hb=>?_,λi x d b hb=>?_,N,E.hG w w' a.gi (λb hb=>q b (G1m hb a.gn)),G3c a.gn hs⟩,u,
  ⟨J,K,L,hs,λb hb _=>q b hb,λb k h hb _=>D b k h hb,λi x d b hb=>?_⟩⟩
 ·rcases old l g' Q with⟨A,m⟩|⟨A,rfl⟩
  ·rw[G0q (by rw[<-a.len];exact A)]at p
   exact(a.obj l o' g' p m).keep u (λb hb=>q b (a.own l g' m b hb).2) (λb hb k hk=>D b k hk (a.own l g' m b hb).2)
  rw[A,a.len,G0w (G0r _)]at p
  simp only[G8l,G0s,G0c]at p
  rw[<-p]
  exact O u
 ·rcases old i y r with⟨U,F⟩|⟨U,rfl⟩<;>rcases old j z S with⟨V,I⟩|⟨V,rfl⟩
  ·exact a.disj i j y z F I T b hb
  ·intro C
   have W:=(a.own i y F b hb).2
   have X:=(f b C).1
   omega
  ·intro C
   have W:=(a.own j z I b C).2
   have X:=(f b hb).1
   omega
  omega
 ·rcases old i x d with⟨_,t⟩|⟨_,rfl⟩
  ·exact⟨(a.own i x t b hb).1,G1m (a.own i x t b hb).2 hs⟩
  exact⟨G3c a.gn (f b hb).1,(f b hb).2⟩
 rcases old i x d with⟨_,t⟩|⟨_,rfl⟩
 ·exact .inr ⟨i,x,t,hb⟩
 exact .inl (f b hb).1
theorem Z3m{α:Type}{xs:List α}{l i:Nat}{x y:α}(h:(xs.set l x)[i]?=some y):(i=l/\y=x/\l<xs.length)\/(i≠l/\xs[i]?=some y):=by
 by_cases a:i=l
 ·subst a
  have b:i<xs.length:=by
   have:=(G0j.1 h).1
   simpa using this
  rw[G1u b]at h
  simp only[G0c]at h
  exact .inl ⟨rfl,h.symm,b⟩
 rw[G2b (Ne.symm a)]at h
 exact .inr ⟨a,h⟩
theorem Q8p{e:TypeId}{sz:Nat}{xs b:List PV}{fz i:Bool}{v v':Value}(j:xs.length<=b.length)(l:xs.length=b.length->v'=v):
 ∀d f a,Q1y (.row e sz xs fz)=some (d,f,a)->∃g,Q1y (.row e sz b i)=some (d,f,g)/\a<=g/\(a=g->v'=v):=by
 intro d f a h
 simp only[Q1y,G0c,G1k]at h
 obtain⟨rfl,rfl,rfl⟩:=h
 exact⟨_,rfl,j,l⟩
theorem OInv.setObj(a:OInv E γ H Φ w){l:Nat}{o o':AObj}{g g':Gh}(O:H[l]?=some o)(p:γ[l]?=some g)
 (u:∀b,b<w.heap.size->b∉g.own->w'.heap[b]?=w.heap[b]?) (hs:w.heap.size<=w'.heap.size) (T:w'.os=w.os) (U:w'.tape=w.tape) (V:w'.output=w.output)
 (W:∀b k,Φ b k->Φ' b k) (P:∀b k,Φ' b k->b<w.heap.size->b∉g.own->Φ b k) (X:∀b k,Φ' b k->b<w'.heap.size)
 (Y:∀b k,Φ b k->b∈g.own->w'.cell? ⟨b,k,none⟩=w.cell? ⟨b,k,none⟩)
 (r:∀b∈g'.own,(b∈g.own\/w.heap.size<=b)/\b<w'.heap.size) (hv:g'.v=g.v\/∃A n c,g.v=.slice A n c)
 (ac:∀e sz n,Q1y o=some (e,sz,n)->∃t,Q1y o'=some (e,sz,t)/\n<=t/\(n=t->g'.v=g.v))
 (hO:Evo γ H Φ w (γ.set l g') (H.set l o') Φ' w'->ObjRel E (γ.set l g') (H.set l o') Φ' w' o' g'):Ok E γ H Φ w (γ.set l g') (H.set l o') Φ' w':=by
 have ae:l<γ.length:=(G0j.1 p).1
 have Q:l<H.length:=(G0j.1 O).1
 have F:∀i,gv (γ.set l g') i=if i=l then some g'.v else gv γ i:=by
  intro i
  unfold gv
  by_cases f:i=l
  ·subst f
   rw[if_pos rfl,G1u ae]
   rfl
  rw[if_neg f,G2b (Ne.symm f)]
 have S:gv γ l=some g.v:=by
  unfold gv
  rw[p]
  rfl
 have I:Evo γ H Φ w (γ.set l g') (H.set l o') Φ' w':=by
  refine⟨W,λb k h=>?_,λi v h=>?_,λi e sz n h=>?_⟩
  ·by_cases hb:b∈g.own
   ·exact Y b k h hb
   exact cell_of_heap (u b (a.phi b k h) hb)
  ·rw[F i]
   by_cases f:i=l
   ·subst f
    rw[S]at h
    simp only[G0c]at h
    subst h
    rw[if_pos rfl]
    rcases hv with d|d
    ·exact .inl (by rw[d])
    exact .inr d
   rw[if_neg f]
   exact .inl h
  by_cases f:i=l
  ·subst f
   unfold rowAt at h
   rw[O,G0a]at h
   obtain⟨t,d,h2,h3⟩:=ac e sz n h
   refine⟨t,?_,h2,λm=>?_⟩
   ·unfold rowAt
    rw[G1u Q,G0a,d]
   rw[F i,if_pos rfl,S,h3 m]
  refine⟨n,?_,G0r _,λ_=>?_⟩
  ·unfold rowAt
   rw[G2b (Ne.symm f)]
   exact h
  rw[F i,if_neg f]
 refine⟨⟨by simp[a.len],λi x y m hy=>?_,λi j J K f hj z b hb=>?_,λi x m b hb=>?_,X,
  E.hG w w' a.gi (λb hb=>u b (G1m hb a.gn) (λq=>by have:=(a.own l g p b q).1;omega)),G3c a.gn hs⟩,I,
  ⟨T,U,V,hs,λb hb L=>u b hb (L l g p),λb k h hb L=>P b k h hb (L l g p),λi x m b hb=>?_⟩⟩
 ·rcases Z3m hy with⟨rfl,rfl,_⟩|⟨f,C⟩
  ·rw[G1u Q]at m
   simp only[G0c]at m
   subst m
   exact hO I
  rw[G2b (Ne.symm f)]at m
  have hd:∀b∈y.own,b∉g.own:=a.disj i l y g C p f
  exact(a.obj i x y m C).keep I (λb hb=>u b (a.own i y C b hb).2 (hd b hb)) (λb hb k hk=>P b k hk (a.own i y C b hb).2 (hd b hb))
 ·rcases Z3m f with⟨rfl,rfl,_⟩|⟨al,M⟩<;>rcases Z3m hj with⟨rfl,rfl,_⟩|⟨am,N⟩
  ·exact absurd rfl z
  ·intro q
   rcases(r b hb).1 with d|d
   ·exact a.disj i j g K p N z b d q
   have:=(a.own j K N b q).2
   omega
  ·intro q
   rcases(r b q).1 with d|d
   ·exact a.disj i j J g M p z b hb d
   have:=(a.own i J M b hb).2
   omega
  exact a.disj i j J K M N z b hb
 ·rcases Z3m m with⟨rfl,rfl,_⟩|⟨f,D⟩
  ·refine⟨?_,(r b hb).2⟩
   rcases(r b hb).1 with d|d
   ·exact(a.own i g p b d).1
   exact G3c a.gn d
  exact⟨(a.own i x D b hb).1,G1m (a.own i x D b hb).2 hs⟩
 rcases Z3m m with⟨rfl,rfl,_⟩|⟨f,D⟩
 ·rcases(r b hb).1 with d|d
  ·exact .inr ⟨i,g,p,d⟩
  exact .inl d
 exact .inr ⟨i,x,D,hb⟩
end
end Go.Abs
