import Derived.Test.YtljahlbklgnfhaaGreatDoorA3
set_option linter.unusedVariables false
set_option linter.unusedSimpArgs false
set_option linter.defProp false
namespace Go.Abs
open Go.RowKit
section
variable {E:Env}{γ:List Gh}{H:List AObj}{Φ:Nat->Nat->Prop}{w:World}
theorem Q0o{v:Value}{p:PV}(h:ARel γ H Φ w v (.pv p)):Rep Φ w v p:=by
 cases h with
 | pv h=>exact h
theorem Rep.oneOf{v:Value}{p:PV}(h:Rep Φ w v p)(a:v.oneCell'=true):p.one=true:=by
 cases h<;>first|rfl|(simp[Value.oneCell']at a)
theorem TOne.und{P:Program}{t:TypeId}{ti:TI}(h:TOne P t ti):∃d,P.underlying t=some d/\TKok P d ti.k:=by
 obtain⟨i,d,_,_,_,hd,hk,_⟩:=h.info
 exact⟨d,hd,hk⟩
theorem TOne.size{P:Program}{t:TypeId}{ti:TI}(h:TOne P t ti):∃i,P.info? t=some i/\i.size=ti.size:=by
 obtain⟨i,d,a,hs,_⟩:=h.info
 exact⟨i,a,hs⟩
theorem Z3g{P:Program}{d:TypeDesc}(h:TKok P d .str):d=.string:=by cases d<;>simp_all [TKok]
theorem K1l{P:Program}{d:TypeDesc}(h:TKok P d .bool):d=.bool:=by cases d<;>simp_all [TKok]
theorem J6h{P:Program}{d:TypeDesc}{k:IntKind}(h:TKok P d (.int k)):d=.int k:=by cases d<;>simp_all [TKok]
theorem Q3u{P:Program}{d:TypeDesc}{e:TypeId}(h:TKok P d (.slice e)):d=.slice e:=by cases d<;>simp_all [TKok]
theorem K5r{P:Program}{d:TypeDesc}{k e:TypeId}(h:TKok P d (.map k e)):d=.map k e:=by cases d<;>simp_all [TKok]
theorem Z4m{P:Program}{d:TypeDesc}(h:TKok P d .iface):∃ms,d=.interface ms:=by cases d<;>simp_all [TKok]
theorem K5q{P:Program}{d:TypeDesc}{e:TypeId}(h:TKok P d (.ptr e)):d=.pointer e:=by cases d<;>simp_all [TKok]
theorem Q6z{P:Program}{d:TypeDesc}{a:List (Nat×Nat)}(h:TKok P d (.strct a)):∃fields,d=.struct fields/\fields.size=a.length/\
 ∀ (j:Nat) (f:Field) (p:Nat×Nat),fields[j]?=some f->a[j]?=some p->f.offset=p.1/\∃b,P.info? f.type=some b/\b.size=p.2:=by
 cases d with
 | struct fields=>exact⟨fields,rfl,h⟩
 | _=>exact h.elim
theorem Q1f{P:Program}{t:TypeId}{i:TypeInfo}(h:P.info? t=some i)(w:World):(sizeOf t).run P w=.ok i.size w:=by simp[sizeOf,typeInfo,h]
def Q8m:TypeDesc->Bool
 | .struct _|.array _ _=>true
 | _=>false
theorem Q4b{P:Program}{t:TypeId}{d:TypeDesc}(h:P.underlying t=some d)(w:World):(isAgg t).run P w=.ok (Q8m d) w:=by
 unfold isAgg
 simp only[bind,Sem.run_bind',run_underlying h,Result.andThen_ok]
 cases d<;>rfl
theorem Q3d{P:Program}{t:TypeId}{d:TypeDesc}{i:TypeInfo}(hd:P.underlying t=some d)(a:Q8m d=true)(e:P.info? t=some i)(b o:Nat)(vs:List Value)
 (hs:i.size=vs.length) (f:∀ (k:Nat) v,vs[k]?=some v->w.cell? ⟨b,o+k,none⟩=some v):
 (loadVar t ⟨b,o,none⟩).run P w=.ok (.agg ⟨vs⟩) w:=by
 have g:=run_loadCells_list (P:=P) (w:=w) ⟨b,o,none⟩ vs (λj v l=>by rw[Addr.add_lit];exact f j v l)
 unfold loadVar
 simp only[bind,Sem.run_bind',Q4b hd,a,Result.andThen_ok,if_true,Q1f e,hs,g]
 rfl
theorem Q3c{P:Program}{t:TypeId}{d:TypeDesc}(hd:P.underlying t=some d)(b:Q8m d=false)(a:Addr)(v:Value)
 (e:w.cell? a=some v):(loadVar t a).run P w=.ok v w:=by
 unfold loadVar
 simp only[bind,Sem.run_bind',Q4b hd,b,Result.andThen_ok,G2z,G2i,run_load,e]
theorem Q6o{P:Program}{d:TypeDesc}{k:TK}(h:TKok P d k)(b:∀a,k≠.strct a)(e:k≠.other):Q8m d=false:=by
 cases d<;>cases k<;>simp_all [TKok,Q8m]
theorem Z1g{t:TypeId}{ti:TI}(hT:TOne E.P t ti)(b o:Nat)(cs:List PV)(vs:Nat->Value)(q:∀c∈cs,c.one=true)
 (l:∀k,k<cs.length->w.cell? ⟨b,o+k,none⟩=some (vs k)) (m:∀ (k:Nat) c,cs[k]?=some c->Rep Φ w (vs k) c) {p:PV} (h:Q3e ti cs=some p):
 ∃v,(loadVar t ⟨b,o,none⟩).run E.P w=.ok v w/\Rep Φ w v p:=by
 obtain⟨i,d,r,hs,_,hd,hk,_⟩:=hT.info
 have one:(∀f,ti.k≠.strct f)->ti.k≠.other->cs[0]?=some p->∃v,(loadVar t ⟨b,o,none⟩).run E.P w=.ok v w/\Rep Φ w v p:=by
  intro k1 k2 n
  have j:0<cs.length:=(G0f.1 n).1
  exact⟨vs 0,Q3c hd (Q6o hk k1 k2) _ _ (l 0 j),m 0 p n⟩
 unfold Q3e at h
 split at h
 ·rename_i f s
  split at h
  ·rename_i u
   simp only[G0b]at h
   subst h
   rw[s]at hk
   obtain⟨fields,x,_⟩:=Q6z hk
   have j:((List.range ti.size).map vs).length=ti.size:=by simp
   refine⟨.agg ⟨(List.range ti.size).map vs⟩,Q3d hd (by rw[x];rfl) r b o _ (by rw[j,hs]) (λk v a=>?_),.agg _ _ (by simp[G5u u]) (λc g=>q c (G3p g)) (λk v c a g=>?_)⟩
   ·have hk:k<ti.size:=by
     have:=(G0f.1 a).1
     omega
    rw[G0x,G3f hk]at a
    simp only[G0w,G0b]at a
    rw[<-a]
    exact l k (by omega)
   have hk:k<ti.size:=by
    have:=(G0f.1 a).1
    omega
   rw[G0x,G3f hk]at a
   simp only[G0w,G0b]at a
   rw[G1l,if_pos hk]at g
   rw[<-a]
   exact m k c g
  cases h
 ·cases h
 rename_i k1 k2
 exact one (λf e=>k1 f e) (λe=>k2 e) h
theorem Z2s:∀ {l:List AV} {ps:List PV},Z6p l=some ps->l=ps.map AV.pv
 | [],ps,h=>by
   simp only[Z6p,G0b]at h
   subst h
   rfl
 | a::l,ps,h=>by
   cases a<;>simp only[Z6p]at h<;>try cases h
   rename_i p
   obtain⟨d,hq,b⟩:=G0g.1 h
   rw[<-b,G2g,<-Z2s hq]
theorem J6r{t:TypeId}{ti:TI}(hT:TOne E.P t ti){e:TypeId}{sz:Nat}{xs:List PV}{cells:List Value}{v:Value}{b n cap:Nat}(l:w.ownsRow 0 e sz v xs.length cells)(m:v=.slice (some ⟨b,0,none⟩) n cap)
 (A:cells.length=(flat xs).length) (j:∀x∈xs,x.cells.length=sz) (o:∀c∈flat xs,c.one=true) {i off:Nat} {y:PV} (f:xs[i]?=some y)
 (q:∀ (k:Nat) v c,cells[k]?=some v->(flat xs)[k]?=some c->i * sz<=k->Rep Φ w v c) {p:PV} (r:Q3e ti (y.cells.drop off)=some p):
 ∃u,(loadVar t ⟨b,i * sz+off,none⟩).run E.P w=.ok u w/\Rep Φ w u p:=by
 have C:=Q0j j
 have D:=j y (G0r f)
 have s:=Q2j j i
 have z:i<xs.length:=(G0f.1 f).1
 have F:i * sz+sz<=xs.length * sz:=by
  have:=G2f sz (show i+1<=xs.length from z)
  rw[G3j]at this
  exact this
 exact Z1g (E:=E) (Φ:=Φ) hT b (i * sz+off) (y.cells.drop off) (λk=>cells.getD (i * sz+off+k) undef)
  (λc a=>o c (Q5x (G0r f) (G3k a)))
  (λk hk=>by
    rw[G0p]at hk
    have d:i * sz+off+k<cells.length:=by omega
    have a:=l.cells (g:=b) (by rw[m];rfl) (i * sz+off+k) cells[i * sz+off+k] (G0c d)
    rw[Addr.add_lit,G2y]at a
    rw[a,G0v,G0c d]
    rfl)
  (λk c a=>by
    rw[G1u]at a
    have hk:off+k<y.cells.length:=(G0f.1 a).1
    have d:i * sz+off+k<cells.length:=by omega
    rw[G0v,G0c d]
    refine q _ _ _ (G0c d) ?_ (by omega)
    rw[show i * sz+off+k=i * sz+(off+k) from by omega,s (off+k) y f (by omega)]
    exact a)
  r
theorem Z8i(hI:OInv E γ H Φ w){t:TypeId}{v:Value}{x:AV}(D:ARel γ H Φ w v x){r:AV}(h:Z5j E.T H t x=some r):
 ∃u,(Instr.loadAt t v).run E.P w=.ok u w/\ARel γ H Φ w u r:=by
 unfold Z5j at h
 split at h
 ·cases h
 rename_i ti aE
 have hT:=E.hT t ti aE
 have I:∀a:Addr,(Instr.loadAt t (.pointer (some a))).run E.P w=(loadVar t a).run E.P w:=λa=>by
  simp[Instr.loadAt,Instr.sureAddr]
 cases D with
 | pptr b o cs vs K J L=>
   simp only at h
   obtain⟨p,Y,rfl⟩:=G0g.1 h
   obtain⟨u,s,M⟩:=Z1g (E:=E) hT b o cs vs K (λk hk=>(J k hk).2) L Y
   exact⟨u,by rw[I,s],.pv M⟩
 | ref b l off A=>
   simp only at h
   split at h
   ·rename_i cs F
    obtain⟨g,N,O⟩:=hI.gh F
    obtain⟨b',T,vs,C,_,hb,V,P,_⟩:=O
    have aF:b=b':=by
     simp only[gv,N,G0w,G0b]at A
     rw[C]at A
     injection A with A
     injection A with A
     injection A with A
     exact A.symm
    subst aF
    have J:∀ (k:Nat) u,vs[k]?=some u->w.cell? ⟨b,k,none⟩=some u:=λk u s=>by
     rw[cell_of_row w b k _ _ _ hb]
     simpa using s
    obtain⟨i,d,hi,hs,_,hd,hk,_⟩:=hT.info
    split at h
    ·rename_i Q al
     split at h
     ·rename_i hn
      simp only[G0b]at h
      rw[al]at hk
      obtain⟨fields,ah,_⟩:=Q6z hk
      have hl:((vs.drop off).take ti.size).length=ti.size:=by
       rw[G1h,G0p]
       omega
      split at h
      ·rename_i ps aH
       subst h
       have ao:=Z2s aH
       have aU:ps.length=ti.size:=by
        have:=G3t List.length ao
        rw[G1h,G0p,G1m]at this
        omega
       refine⟨.agg ⟨(vs.drop off).take ti.size⟩,?_,.pv (.agg _ _ (by omega) (λc f=>?_) (λk u c s f=>?_))⟩
       ·rw[I]
        refine Q3d hd (by rw[ah];rfl) hi b off _ (by omega) (λk u s=>J _ _ ?_)
        rw[G1l]at s
        split at s
        ·rwa [G1u]at s
        cases s
       ·obtain⟨k,hk,W⟩:=G2e f
        have e1:((cs.drop off).take ti.size)[k]?=some (.pv c):=by
         rw[ao,G0x,G0c hk,W]
         rfl
        rw[G1l,if_pos (by omega),G1u]at e1
        have aI:(off+k)<vs.length:=by omega
        obtain⟨aJ,M⟩:=P (off+k) vs[off+k] _ (G0c aI) e1
        exact(Q0o M).oneOf aJ
       have e1:((cs.drop off).take ti.size)[k]?=some (.pv c):=by
        rw[ao,G0x,f]
        rfl
       have aj:k<ti.size:=by
        have:=(G0f.1 f).1
        omega
       rw[G1l,if_pos aj,G1u]at e1
       rw[G1l,if_pos aj,G1u]at s
       exact Q0o (P (off+k) u _ s e1).2
      subst h
      refine⟨.agg ⟨(vs.drop off).take ti.size⟩,?_,.agg _ _ ?_ (λu s=>?_) (λk u c s f=>?_)⟩
      ·rw[I]
       refine Q3d hd (by rw[ah];rfl) hi b off _ (by omega) (λk u s=>J _ _ ?_)
       rw[G1l]at s
       split at s
       ·rwa [G1u]at s
       cases s
      ·rw[hl,G1h,G0p]
       omega
      ·have aK:=G3k (G3p s)
       obtain⟨k,hk,aL⟩:=G2e aK
       rw[<-aL]
       exact(P k vs[k] (cs[k]'(by omega)) (G0c hk) (G0c (by omega))).1
      have aj:k<ti.size:=by
       have:=(G0f.1 s).1
       omega
      rw[G1l,if_pos aj,G1u]at s f
      exact(P (off+k) u c s f).2
     cases h
    ·cases h
    rename_i k1 k2
    have ax:off<vs.length:=by
     have:=(G0f.1 h).1
     omega
    refine⟨vs[off],?_,(P off vs[off] r (G0c ax) h).2⟩
    rw[I]
    exact Q3c hd (Q6o hk (λQ e=>k1 Q e) (λe=>k2 e)) _ _ (J off _ (G0c ax))
   cases h
 | vptr b o l n i off e sz len hrow hn aq=>
   simp only at h
   split at h
   ·rename_i e' az xs fz F
    have hre:=Q2h F
    rw[hrow]at hre
    injection hre with hre
    injection hre with he hre
    injection hre with hs V
    subst he hs V
    split at h
    ·rename_i D
     obtain⟨cap,A,rfl⟩:=aq D
     split at h
     ·rename_i y S
      obtain⟨p,Y,rfl⟩:=G0g.1 h
      obtain⟨g,N,O⟩:=hI.gh F
      obtain⟨cells,ad,ak,L,U,K,_,_,_⟩:=O
      simp only[gv,N,G0w,G0b]at A
      obtain⟨u,s,M⟩:=J6r (E:=E) (Φ:=Φ) hT ad A ak U K S (λk v c C f _=>L k v c C f) Y
      exact⟨u,by rw[I,s],.pv M⟩
     cases h
    cases h
   ·rename_i e' az ae e2 aW m xs F
    have hre:=Q9f F
    rw[hrow]at hre
    injection hre with hre
    injection hre with he hre
    injection hre with hs V
    subst he hs V
    split at h
    ·rename_i D
     obtain⟨D,hm⟩:=D
     obtain⟨cap,A,rfl⟩:=aq D
     split at h
     ·rename_i y S
      obtain⟨p,Y,rfl⟩:=G0g.1 h
      obtain⟨g,N,O⟩:=hI.gh F
      obtain⟨cells,gs,ad,ak,U,K,_,_,_,_,_,_,_,L,_⟩:=O
      simp only[gv,N,G0w,G0b]at A
      obtain⟨u,s,M⟩:=J6r (E:=E) (Φ:=Φ) hT ad A ak U K S (λk v c C f hk=>L k v c C f (.inr (G3u (G2f _ hm) hk))) Y
      exact⟨u,by rw[I,s],.pv M⟩
     cases h
    cases h
   ·rename_i e' az xs j ae l2 n2 F
    have hre:=Z8c F
    rw[hrow]at hre
    injection hre with hre
    injection hre with he hre
    injection hre with hs V
    subst he hs V
    split at h
    ·rename_i D
     obtain⟨D,rfl⟩:=D
     obtain⟨cap,A,rfl⟩:=aq D
     split at h
     ·rename_i y S
      obtain⟨g,N,O⟩:=hI.gh F
      obtain⟨cells,ad,ak,U,K,_,h0,aA,hj,_,L,ar⟩:=O
      simp only[gv,N,G0w,G0b]at A
      have aY:=Q0j U
      have aZ:=U y (G0r S)
      have aQ:=Q2j U i
      have a0:i * sz+sz<=xs.length * sz:=by
       have:=G2f sz (show i+1<=xs.length from hj)
       rw[G3j]at this
       exact this
      have J:∀k,k<sz->w.cell? ⟨b,i * sz+k,none⟩=some (cells.getD (i * sz+k) undef):=λk hk=>by
       have W:i * sz+k<cells.length:=by omega
       have f:=ad.cells (g:=b) (by rw[A];rfl) (i * sz+k) cells[i * sz+k] (G0c W)
       rw[Addr.add_lit,G2y]at f
       rw[f,G0v,G0c W]
       rfl
      have hat:∀k,k<sz->cells[i * sz+k]?=some (cells.getD (i * sz+k) undef):=λk hk=>by
       have W:i * sz+k<cells.length:=by omega
       rw[G0v,G0c W]
       rfl
      have au:∀k c,k<sz->k≠ae->y.cells[k]?=some c->Rep Φ w (cells.getD (i * sz+k) undef) c:=λk c hk a1 f=>L _ _ c (hat k hk) (by rw[aQ k y S hk];exact f) (by omega)
      obtain⟨i',d,hi,aR,_,hd,hk,_⟩:=hT.info
      split at h
      ·rename_i Q al
       split at h
       ·rename_i f
        obtain⟨rfl,aS⟩:=f
        simp only[G0b]at h
        subst h
        rw[al]at hk
        obtain⟨fields,ah,_⟩:=Q6z hk
        have hl:((List.range sz).map λk=>cells.getD (i * sz+k) undef).length=sz:=by simp
        have P:∀ (k:Nat) v c,((List.range sz).map λk=>cells.getD (i * sz+k) undef)[k]?=some v->((y.cells.map AV.pv).set ae (.vec l2 n2))[k]?=some c->ARel γ H Φ w v c:=λk v c C f=>by
         have hk:k<sz:=by
          have:=(G0f.1 C).1
          omega
         rw[G0x,G3f hk]at C
         simp only[G0w,G0b]at C
         subst C
         by_cases X:k=ae
         ·subst X
          rw[G1c (by simp;omega)]at f
          injection f with f
          subst f
          exact ar _ (hat k hk)
         rw[G1e (Ne.symm X),G0x]at f
         obtain⟨q,hq,rfl⟩:=G0g.1 f
         exact .pv (au k q hk X hq)
        refine⟨.agg ⟨(List.range sz).map λk=>cells.getD (i * sz+k) undef⟩,?_,.agg _ _ (by simp;omega) (λv C=>?_) P⟩
        ·rw[I,G2j]
         refine Q3d hd (by rw[ah];rfl) hi b (i * sz) _ (by rw[hl,aR,aS]) (λk v C=>?_)
         have hk:k<sz:=by
          have:=(G0f.1 C).1
          omega
         rw[G0x,G3f hk]at C
         simp only[G0w,G0b]at C
         rw[<-C]
         exact J k hk
        obtain⟨k,hk,aT⟩:=G2e C
        have aB:k<sz:=by omega
        have av:=aT
        rw[G4z,G4l]at av
        by_cases X:k=ae
        ·subst X
         rw[<-av]
         have:=ar _ (hat k aB)
         generalize cells.getD (i * sz+k) undef=z at this |-
         cases this
         rfl
        rw[<-av]
        have aC:k<y.cells.length:=by omega
        exact(au k _ aB X (G0c aC)).one (K _ (Q5x (G0r S) (G2u aC)))
       cases h
      ·cases h
      rename_i k1 k2
      split at h
      ·rename_i ho
       subst ho
       simp only[G0b]at h
       subst h
       refine⟨cells.getD (i * sz+off) undef,?_,ar _ (hat off aA)⟩
       rw[I]
       exact Q3c hd (Q6o hk (λQ e=>k1 Q e) (λe=>k2 e)) _ _ (J off aA)
      rename_i ho
      obtain⟨c,f,rfl⟩:=G0g.1 h
      have aD:off<sz:=by
       have:=(G0f.1 f).1
       omega
      refine⟨cells.getD (i * sz+off) undef,?_,.pv (au off c aD ho f)⟩
      rw[I]
      exact Q3c hd (Q6o hk (λQ e=>k1 Q e) (λe=>k2 e)) _ _ (J off aD)
     cases h
    cases h
   cases h
 | any=>simp at h
 | pv=>simp at h
 | vec=>simp at h
 | mref=>simp at h
 | selfp=>simp at h
 | nils=>simp at h
 | ifc=>simp at h
 | full=>simp at h
 | tup=>simp at h
 | agg=>simp at h
 | fn=>simp at h
end
end Go.Abs
namespace Go.Abs
open Go.RowKit
section
variable {E:Env}{γ:List Gh}{H:List AObj}{Φ:Nat->Nat->Prop}{w:World}
theorem X3j(op:BinOp)(t:TypeId)(x y:Operand)(k a:IntKind)(m n:Int):(do eqGuard op t x y (.int k m) (.int a n);binOp op t (.int k m) (.int a n):Sem Value).run E.P w=(binOp op t (.int k m) (.int a n)).run E.P w:=by
 simp[eqGuard_at_int]
theorem X3i(op:BinOp)(t:TypeId)(x y:Operand)(a b:ByteArray):(do eqGuard op t x y (.string a) (.string b);binOp op t (.string a) (.string b):Sem Value).run E.P w=(Op.stringOp op a b).run E.P w:=by
 simp only[eqGuard_at_string,bind,Sem.run_bind']
 cases op<;>rfl
theorem J9g(op:BinOp)(t:TypeId)(x y:Operand){a b:Value}{p q r:PV}(f:Rep Φ w a p)(hb:Rep Φ w b q)(h:pbin op p q=some r):
 ∃u,(do eqGuard op t x y a b;binOp op t a b:Sem Value).run E.P w=.ok u w/\Rep Φ w u r:=by
 cases f with
 | int k m=>
   cases hb with
   | int g n=>
     rw[X3j]
     simp only[pbin]at h
     split at h
     ·rename_i hk
      subst hk
      cases op with
      | quo=>
        simp only[G3n,G0b]at h
        obtain⟨d,rfl⟩:=h
        exact⟨_,by simp[binOp,Op.intDiv,d],.int _ _⟩
      | rem=>
        simp only[G3n,G0b]at h
        obtain⟨d,rfl⟩:=h
        exact⟨_,by simp[binOp,Op.intDiv,d],.int _ _⟩
      | shl=>
        simp only[G3n,G0b]at h
        obtain⟨d,rfl⟩:=h
        exact⟨.int k (k.wrap (m * 2 ^ (min n.toNat k.bits))),by simp only[binOp,Op.shift,d,G2i];rfl,.int _ _⟩
      | shr=>
        simp only[G3n,G0b]at h
        obtain⟨d,rfl⟩:=h
        exact⟨.int k (m.fdiv (2 ^ (min n.toNat k.bits))),by simp only[binOp,Op.shift,d,G2i];rfl,.int _ _⟩
      | _=>
        simp only[G0b]at h
        subst h
        first
         | exact⟨_,by simp only[binOp,ne_eq,not_true,G2i];rfl,.int _ _⟩
         | exact⟨_,by simp only[binOp,ne_eq,not_true,G2i];rfl,.bool _⟩
     cases op with
     | shl=>
       simp only[G3n,G0b]at h
       obtain⟨d,rfl⟩:=h
       exact⟨.int k (k.wrap (m * 2 ^ (min n.toNat k.bits))),by simp only[binOp,Op.shift,d,G2i];rfl,.int _ _⟩
     | shr=>
       simp only[G3n,G0b]at h
       obtain⟨d,rfl⟩:=h
       exact⟨.int k (m.fdiv (2 ^ (min n.toNat k.bits))),by simp only[binOp,Op.shift,d,G2i];rfl,.int _ _⟩
     | _=>simp only[reduceCtorEq]at h
   | _=>simp[pbin]at h
 | str s=>
   cases hb with
   | str e=>
     rw[X3i]
     cases op with
     | add=>
       simp only[pbin,Option.ite_none_right_eq_some,G0b]at h
       obtain⟨d,rfl⟩:=h
       exact⟨_,run_string_add_sum w ⟨⟨s⟩⟩ ⟨⟨e⟩⟩ d,by rw[ByteArray.mk_append_mk];exact .str _⟩
     | eql=>simp only[pbin,G0b]at h;subst h;exact⟨.bool (s==e),by simp only[Op.stringOp,ByteArray.toList_mk];rfl,.bool _⟩
     | neq=>simp only[pbin,G0b]at h;subst h;exact⟨.bool (!(s==e)),by simp only[Op.stringOp,ByteArray.toList_mk];rfl,.bool _⟩
     | lss=>simp only[pbin,G0b]at h;subst h;exact⟨.bool (Op.bytesLess s e),by simp only[Op.stringOp,ByteArray.toList_mk];rfl,.bool _⟩
     | leq=>simp only[pbin,G0b]at h;subst h;exact⟨.bool (Op.bytesLess s e||s==e),by simp only[Op.stringOp,ByteArray.toList_mk];rfl,.bool _⟩
     | gtr=>simp only[pbin,G0b]at h;subst h;exact⟨.bool (!(Op.bytesLess s e||s==e)),by simp only[Op.stringOp,ByteArray.toList_mk];rfl,.bool _⟩
     | geq=>simp only[pbin,G0b]at h;subst h;exact⟨.bool (!(Op.bytesLess s e)),by simp only[Op.stringOp,ByteArray.toList_mk];rfl,.bool _⟩
     | _=>simp only[pbin,reduceCtorEq]at h
   | _=>simp[pbin]at h
 | _=>simp[pbin]at h
theorem J4f{t:TypeId}(hd:E.P.underlying t=some .bool)(x y:Operand)(a b:Bool):
 (do eqGuard .eql t x y (.bool a) (.bool b);binOp .eql t (.bool a) (.bool b):Sem Value).run E.P w=.ok (.bool (a==b)) w:=by
 have h:∀d:Nat,(Op.equalIn (d+1) t (.bool a) (.bool b)).run E.P w=.ok (a==b) w:=λd=>by
  simp[Op.equalIn,run_underlying hd]
 simp only[eqGuard_at_bool,bind,Sem.run_bind',binOp]
 simp[Op.equal,Op.maxDepth,h 9999]
theorem J4e{t:TypeId}(hd:E.P.underlying t=some .bool)(x y:Operand)(a b:Bool):
 (do eqGuard .neq t x y (.bool a) (.bool b);binOp .neq t (.bool a) (.bool b):Sem Value).run E.P w=.ok (.bool (!(a==b))) w:=by
 have h:∀d:Nat,(Op.equalIn (d+1) t (.bool a) (.bool b)).run E.P w=.ok (a==b) w:=λd=>by
  simp[Op.equalIn,run_underlying hd]
 simp only[eqGuard_at_bool,bind,Sem.run_bind',binOp]
 simp[Op.equal,Op.maxDepth,h 9999]
theorem J9e(op:BinOp)(t:TypeId)(x y:Operand){a b:Value}{p q r:AV}(g:ARel γ H Φ w a p)(hb:ARel γ H Φ w b q)(h:qbin E.T op t p q=some r):
 ∃u,(do eqGuard op t x y a b;binOp op t a b:Sem Value).run E.P w=.ok u w/\ARel γ H Φ w u r:=by
 have j:∀e f,p=.pv e->q=.pv f->(pbin op e f).map AV.pv=some r->∃u,(do eqGuard op t x y a b;binOp op t a b:Sem Value).run E.P w=.ok u w/\ARel γ H Φ w u r:=by
  intro e f k hq l
  subst k;subst hq
  obtain⟨D,m,rfl⟩:=G0g.1 l
  obtain⟨u,n,o⟩:=J9g (E:=E) op t x y (Q0o g) (Q0o hb) m
  exact⟨u,n,.pv o⟩
 unfold qbin at h
 split at h
 ·rename_i i b'
  have s:=Q0o g
  have z:=Q0o hb
  cases s
  cases z
  split at h
  ·rename_i hT
   unfold J4y at hT
   split at hT
   ·rename_i A
    obtain⟨d,hd,hk⟩:=(E.hT _ _ A).und
    have C:=K1l hk
    rw[C]at hd
    cases op with
    | eql=>
      simp only[G0b]at h
      subst h
      exact⟨_,J4f hd x y i b',.pv (.bool _)⟩
    | neq=>
      simp only[G0b]at h
      subst h
      exact⟨_,J4e hd x y i b',.pv (.bool _)⟩
    | _=>simp at h
   cases hT
  cases h
 ·exact j _ _ rfl rfl h
 cases h
theorem J8t{t:TypeId}{ms:Array (String×TypeId)}(hd:E.P.underlying t=some (.interface ms))(x:Operand):
 (do eqGuard .eql t x (.const .nilIface) .nilIface .nilIface;binOp .eql t .nilIface .nilIface:Sem Value).run E.P w=.ok (.bool true) w:=by
 have h:∀d:Nat,(Op.equalIn (d+1) t .nilIface .nilIface).run E.P w=.ok true w:=λd=>by
  simp[Op.equalIn,run_underlying hd]
 simp only[eqGuard,bind,Sem.run_bind',binOp]
 simp[Op.equal,Op.maxDepth,h 9999]
theorem J8r{t:TypeId}{ms:Array (String×TypeId)}(hd:E.P.underlying t=some (.interface ms))(x:Operand):
 (do eqGuard .neq t x (.const .nilIface) .nilIface .nilIface;binOp .neq t .nilIface .nilIface:Sem Value).run E.P w=.ok (.bool false) w:=by
 have h:∀d:Nat,(Op.equalIn (d+1) t .nilIface .nilIface).run E.P w=.ok true w:=λd=>by
  simp[Op.equalIn,run_underlying hd]
 simp only[eqGuard,bind,Sem.run_bind',binOp]
 simp[Op.equal,Op.maxDepth,h 9999]
theorem J8u{t:TypeId}{ms:Array (String×TypeId)}(hd:E.P.underlying t=some (.interface ms))(x:Operand)(a:TypeId)(v:Value):
 (do eqGuard .eql t x (.const .nilIface) (.iface a v) .nilIface;binOp .eql t (.iface a v) .nilIface:Sem Value).run E.P w=.ok (.bool false) w:=by
 have h:∀d:Nat,(Op.equalIn (d+1) t (.iface a v) .nilIface).run E.P w=.ok false w:=λd=>by
  simp[Op.equalIn,run_underlying hd]
 simp only[eqGuard,bind,Sem.run_bind',binOp]
 simp[Op.equal,Op.maxDepth,h 9999]
theorem J8s{t:TypeId}{ms:Array (String×TypeId)}(hd:E.P.underlying t=some (.interface ms))(x:Operand)(a:TypeId)(v:Value):
 (do eqGuard .neq t x (.const .nilIface) (.iface a v) .nilIface;binOp .neq t (.iface a v) .nilIface:Sem Value).run E.P w=.ok (.bool true) w:=by
 have h:∀d:Nat,(Op.equalIn (d+1) t (.iface a v) .nilIface).run E.P w=.ok false w:=λd=>by
  simp[Op.equalIn,run_underlying hd]
 simp only[eqGuard,bind,Sem.run_bind',binOp]
 simp[Op.equal,Op.maxDepth,h 9999]
theorem J4i(op:BinOp)(t:TypeId)(x:Operand){a:Value}{p r:AV}(e:ARel γ H Φ w a p)(h:J2d E.T op t p=some r):
 ∃u,(do eqGuard op t x (.const .nilIface) a .nilIface;binOp op t a .nilIface:Sem Value).run E.P w=.ok u w/\ARel γ H Φ w u r:=by
 unfold J2d at h
 split at h
 ·have b:=Q0o e
  cases b
  split at h
  ·rename_i hT
   obtain⟨d,hd,hk⟩:=(E.hT _ _ hT).und
   obtain⟨ms,rfl⟩:=Z4m hk
   simp only[G0b]at h
   subst h
   exact⟨_,J8t hd x,.pv (.bool _)⟩
  ·rename_i hT
   obtain⟨d,hd,hk⟩:=(E.hT _ _ hT).und
   obtain⟨ms,rfl⟩:=Z4m hk
   simp only[G0b]at h
   subst h
   exact⟨_,J8r hd x,.pv (.bool _)⟩
  cases h
 ·have b:=Q0o e
  cases b
  split at h
  ·rename_i hT
   obtain⟨d,hd,hk⟩:=(E.hT _ _ hT).und
   obtain⟨ms,rfl⟩:=Z4m hk
   simp only[G0b]at h
   subst h
   exact⟨_,J8u hd x _ _,.pv (.bool _)⟩
  ·rename_i hT
   obtain⟨d,hd,hk⟩:=(E.hT _ _ hT).und
   obtain⟨ms,rfl⟩:=Z4m hk
   simp only[G0b]at h
   subst h
   exact⟨_,J8s hd x _ _,.pv (.bool _)⟩
  cases h
 cases h
theorem X7o{y:Operand}(h:Z5z y=true):y=.const .nilIface:=by
 unfold Z5z at h
 split at h
 ·rfl
 cases h
theorem X1r(op:UnOp){a:Value}{p r:AV}(d:ARel γ H Φ w a p)(h:qun op p=some r):
 ∃u,(Op.unary op a).run E.P w=.ok u w/\ARel γ H Φ w u r:=by
 unfold qun at h
 split at h
 ·have b:=Q0o d
  cases b
  cases op<;>simp at h
  subst h
  exact⟨_,rfl,.pv (.bool _)⟩
 ·have b:=Q0o d
  cases b
  cases op<;>simp only[reduceCtorEq,G0b]at h
  subst h
  exact⟨_,rfl,.pv (.int _ _)⟩
 cases h
theorem Z4g{t:TypeId}{f:Nat}{a:Value}{x r:AV}(s:ARel γ H Φ w a x)(h:Q6p E.T t f x=some r):
 ∃u,(Instr.fieldAt t a f).run E.P w=.ok u w/\ARel γ H Φ w u r:=by
 unfold Q6p at h
 split at h
 ·rename_i Q _ _ _ hT
  split at h
  ·rename_i off sz p
   split at h
   ·cases h
   rename_i S
   obtain⟨d,hd,hk⟩:=(E.hT _ _ hT).und
   obtain⟨fields,rfl,T,y⟩:=Q6z hk
   have q:f<fields.size:=by
    have:=(G0f.1 p).1
    omega
   obtain⟨z,A,C,D⟩:=y f fields[f] (off,sz) (G2k q) p
   have j:∀b o:Nat,(Instr.fieldAt t (.pointer (some ⟨b,o,none⟩)) f).run E.P w=.ok (.pointer (some ⟨b,o+off,none⟩)) w:=by
    intro b o
    have F:A.size≠0:=by
     simp only at D
     omega
    have I:fields[f].offset=off:=z
    simp[Instr.fieldAt,run_underlying hd,G2k q,Instr.sureAddr,fieldPlace,Q1f C,F,I,Addr.add_lit]
   cases s with
   | ref b l o m=>
     simp only[G0b]at h
     subst h
     exact⟨_,j _ _,.ref b l _ m⟩
   | pptr b o cs vs J K L=>
     simp only[G0b]at h
     subst h
     refine⟨_,j _ _,.pptr b (o+off) _ (λk=>vs (off+k)) (λc g=>J c (G3k g)) (λk hk=>?_) (λk c g=>?_)⟩
     ·rw[G0p]at hk
      rw[G3b]
      exact K (off+k) (by omega)
     rw[G1u]at g
     exact L (off+k) c g
   | vptr b o' l n i o e M len hrow N O=>
     simp only[G0b]at h
     subst h
     exact⟨_,j _ _,.vptr b _ l n i _ e M len hrow N (λP=>by
      obtain⟨cap,m,U⟩:=O P
      exact⟨cap,m,by omega⟩)⟩
   | any=>simp at h
   | pv=>simp at h
   | vec=>simp at h
   | mref=>simp at h
   | selfp=>simp at h
   | nils=>simp at h
   | ifc=>simp at h
   | full=>simp at h
   | tup=>simp at h
   | agg=>simp at h
   | fn=>simp at h
  cases h
 cases h
end
end Go.Abs
