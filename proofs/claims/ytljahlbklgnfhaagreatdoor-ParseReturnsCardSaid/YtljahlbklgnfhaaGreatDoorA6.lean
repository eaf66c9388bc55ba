import Derived.Test.YtljahlbklgnfhaaGreatDoorA3
set_option linter.unusedVariables false
set_option linter.unusedSimpArgs false
set_option linter.defProp false
namespace Go.Abs
open Go.RowKit
section
variable {E:Env}{γ:List Gh}{H:List AObj}{Φ:Nat->Nat->Prop}{w:World}
theorem Q0p{v:Value}{p:PV}(h:ARel γ H Φ w v (.pv p)):Rep Φ w v p:=by
 cases h with
 | pv h=>exact h
theorem Rep.oneOf{v:Value}{p:PV}(h:Rep Φ w v p)(a:v.oneCell'=true):p.one=true:=by
 cases h<;>first|rfl|(simp[Value.oneCell']at a)
theorem TOne.und{P:Program}{t:TypeId}{ti:TI}(h:TOne P t ti):∃d,P.underlying t=some d/\TKok P d ti.k:=by
 obtain⟨i,d,_,_,_,hd,hk,_⟩:=h.info
 exact⟨d,hd,hk⟩
theorem TOne.size{P:Program}{t:TypeId}{ti:TI}(h:TOne P t ti):∃i,P.info? t=some i/\i.size=ti.size:=by
 obtain⟨i,d,a,hs,_⟩:=h.info
 exact⟨i,a,hs⟩
theorem Z5b{P:Program}{d:TypeDesc}(h:TKok P d .str):d=.string:=by cases d<;>simp_all [TKok]
theorem K8x{P:Program}{d:TypeDesc}(h:TKok P d .bool):d=.bool:=by cases d<;>simp_all [TKok]
theorem X0n{P:Program}{d:TypeDesc}{k:IntKind}(h:TKok P d (.int k)):d=.int k:=by cases d<;>simp_all [TKok]
theorem Q4b{P:Program}{d:TypeDesc}{e:TypeId}(h:TKok P d (.slice e)):d=.slice e:=by cases d<;>simp_all [TKok]
theorem Z6h{P:Program}{d:TypeDesc}(h:TKok P d .iface):∃ms,d=.interface ms:=by cases d<;>simp_all [TKok]
theorem V4l{P:Program}{d:TypeDesc}{e:TypeId}(h:TKok P d (.ptr e)):d=.pointer e:=by cases d<;>simp_all [TKok]
theorem Q9w{P:Program}{d:TypeDesc}{a:List (Nat×Nat)}(h:TKok P d (.strct a)):∃fields,d=.struct fields/\fields.size=a.length/\
 ∀ (j:Nat) (f:Field) (p:Nat×Nat),fields[j]?=some f->a[j]?=some p->f.offset=p.1/\∃b,P.info? f.type=some b/\b.size=p.2:=by
 cases d with
 | struct fields=>exact⟨fields,rfl,h⟩
 | _=>exact h.elim
theorem Q1q{P:Program}{t:TypeId}{i:TypeInfo}(h:P.info? t=some i)(w:World):(sizeOf t).run P w=.ok i.size w:=by simp[sizeOf,typeInfo,h]
def Q8y:TypeDesc->Bool
 | .struct _|.array _ _=>true
 | _=>false
theorem Q4m{P:Program}{t:TypeId}{d:TypeDesc}(h:P.underlying t=some d)(w:World):(isAgg t).run P w=.ok (Q8y d) w:=by
 unfold isAgg
 simp only[bind,G1n,G1c h,G1b]
 cases d<;>rfl
theorem Q5m{P:Program}{t:TypeId}{d:TypeDesc}{i:TypeInfo}(hd:P.underlying t=some d)(a:Q8y d=true)(e:P.info? t=some i)(b o:Nat)(vs:List Value)
 (hs:i.size=vs.length) (f:∀ (k:Nat) v,vs[k]?=some v->w.cell? ⟨b,o+k,none⟩=some v):
 (loadVar t ⟨b,o,none⟩).run P w=.ok (.agg ⟨vs⟩) w:=by
 have g:=run_loadCells_list (P:=P) (w:=w) ⟨b,o,none⟩ vs (λj v l=>by rw[G5j];exact f j v l)
 unfold loadVar
 simp only[bind,G1n,Q4m hd,a,G1b,if_true,Q1q e,hs,g]
 rfl
theorem Q8o{P:Program}{t:TypeId}{d:TypeDesc}(hd:P.underlying t=some d)(b:Q8y d=false)(a:Addr)(v:Value)
 (e:w.cell? a=some v):(loadVar t a).run P w=.ok v w:=by
 unfold loadVar
 simp only[bind,G1n,Q4m hd,b,G1b,G3a,G2v,run_load,e]
theorem Z2d{P:Program}{d:TypeDesc}{k:TK}(h:TKok P d k)(b:∀a,k≠.strct a)(e:k≠.other):Q8y d=false:=by
 cases d<;>cases k<;>simp_all [TKok,Q8y]
theorem Z2j{t:TypeId}{ti:TI}(hT:TOne E.P t ti)(b o:Nat)(cs:List PV)(vs:Nat->Value)(q:∀c∈cs,c.one=true)
 (l:∀k,k<cs.length->w.cell? ⟨b,o+k,none⟩=some (vs k)) (m:∀ (k:Nat) c,cs[k]?=some c->Rep Φ w (vs k) c) {p:PV} (h:Q5o ti cs=some p):
 ∃v,(loadVar t ⟨b,o,none⟩).run E.P w=.ok v w/\Rep Φ w v p:=by
 obtain⟨i,d,r,hs,_,hd,hk,_⟩:=hT.info
 have one:(∀f,ti.k≠.strct f)->ti.k≠.other->cs[0]?=some p->∃v,(loadVar t ⟨b,o,none⟩).run E.P w=.ok v w/\Rep Φ w v p:=by
  intro k1 k2 n
  have j:0<cs.length:=(G0j.1 n).1
  exact⟨vs 0,Q8o hd (Z2d hk k1 k2) _ _ (l 0 j),m 0 p n⟩
 unfold Q5o at h
 split at h
 ·rename_i f u
  split at h
  ·rename_i x
   simp only[G0c]at h
   subst h
   rw[u]at hk
   obtain⟨fields,y,_⟩:=Q9w hk
   have j:((List.range ti.size).map vs).length=ti.size:=by simp
   refine⟨.agg ⟨(List.range ti.size).map vs⟩,Q5m hd (by rw[y];rfl) r b o _ (by rw[j,hs]) (λk v a=>?_),.agg _ _ (by simp[G6t x]) (λc g=>q c (G4c g)) (λk v c a g=>?_)⟩
   ·have hk:k<ti.size:=by
     have:=(G0j.1 a).1
     omega
    rw[G1i,G4f hk]at a
    simp only[G1s,G0c]at a
    rw[<-a]
    exact l k (by omega)
   have hk:k<ti.size:=by
    have:=(G0j.1 a).1
    omega
   rw[G1i,G4f hk]at a
   simp only[G1s,G0c]at a
   rw[G2a,if_pos hk]at g
   rw[<-a]
   exact m k c g
  cases h
 ·cases h
 rename_i k1 k2
 exact one (λf e=>k1 f e) (λe=>k2 e) h
theorem Z4g:∀ {l:List AV} {ps:List PV},Z9a l=some ps->l=ps.map AV.pv
 | [],ps,h=>by
   simp only[Z9a,G0c]at h
   subst h
   rfl
 | a::l,ps,h=>by
   cases a<;>simp only[Z9a]at h<;>try cases h
   rename_i p
   obtain⟨d,hq,b⟩:=G0k.1 h
   rw[<-b,G2i,<-Z4g hq]
theorem K3g{t:TypeId}{ti:TI}(hT:TOne E.P t ti){e:TypeId}{sz:Nat}{xs:List PV}{cells:List Value}{v:Value}{b n cap:Nat}(l:w.ownsRow 0 e sz v xs.length cells)(m:v=.slice (some ⟨b,0,none⟩) n cap)
 (C:cells.length=(flat xs).length) (j:∀x∈xs,x.cells.length=sz) (o:∀c∈flat xs,c.one=true) {i off:Nat} {y:PV} (f:xs[i]?=some y)
 (q:∀ (k:Nat) v c,cells[k]?=some v->(flat xs)[k]?=some c->i * sz<=k->Rep Φ w v c) {p:PV} (r:Q5o ti (y.cells.drop off)=some p):
 ∃u,(loadVar t ⟨b,i * sz+off,none⟩).run E.P w=.ok u w/\Rep Φ w u p:=by
 have D:=Q0s j
 have F:=j y (G1o f)
 have z:=Q5v j i
 have A:i<xs.length:=(G0j.1 f).1
 have I:i * sz+sz<=xs.length * sz:=by
  have:=G3n sz (show i+1<=xs.length from A)
  rw[G5k]at this
  exact this
 exact Z2j (E:=E) (Φ:=Φ) hT b (i * sz+off) (y.cells.drop off) (λk=>cells.getD (i * sz+off+k) undef)
  (λc a=>o c (Z2u (G1o f) (G3u a)))
  (λk hk=>by
    rw[G1w]at hk
    have d:i * sz+off+k<cells.length:=by omega
    have a:=l.cells (g:=b) (by rw[m];rfl) (i * sz+off+k) cells[i * sz+off+k] (G0f d)
    rw[G5j,G3h]at a
    rw[a,G0y,G0f d]
    rfl)
  (λk c a=>by
    rw[G2e]at a
    have hk:off+k<y.cells.length:=(G0j.1 a).1
    have d:i * sz+off+k<cells.length:=by omega
    rw[G0y,G0f d]
    refine q _ _ _ (G0f d) ?_ (by omega)
    rw[show i * sz+off+k=i * sz+(off+k) from by omega,z (off+k) y f (by omega)]
    exact a)
  r
theorem J1e(S:OInv E γ H Φ w){t:TypeId}{v:Value}{x:AV}(J:ARel γ H Φ w v x){r:AV}(h:Z7o E.T H t x=some r):
 ∃u,(Instr.loadAt t v).run E.P w=.ok u w/\ARel γ H Φ w u r:=by
 unfold Z7o at h
 split at h
 ·cases h
 rename_i ti aa
 have hT:=E.hT t ti aa
 have q:∀a:Addr,(Instr.loadAt t (.pointer (some a))).run E.P w=(loadVar t a).run E.P w:=λa=>by
  simp[Instr.loadAt,Instr.sureAddr]
 cases J with
 | pptr b o cs vs K z L=>
   simp only at h
   obtain⟨p,M,rfl⟩:=G0k.1 h
   obtain⟨u,f,A⟩:=Z2j (E:=E) hT b o cs vs K (λk hk=>(z k hk).2) L M
   exact⟨u,by rw[q,f],.pv A⟩
 | ref b l off j=>
   simp only at h
   split at h
   ·rename_i cs F
    obtain⟨g,N,O⟩:=S.gh F
    obtain⟨b',T,vs,P,_,hb,U,C,_⟩:=O
    have ac:b=b':=by
     simp only[gv,N,G1s,G0c]at j
     rw[P]at j
     injection j with j
     injection j with j
     injection j with j
     exact j.symm
    subst ac
    have z:∀ (k:Nat) u,vs[k]?=some u->w.cell? ⟨b,k,none⟩=some u:=λk u f=>by
     rw[cell_of_row w b k _ _ _ hb]
     simpa using f
    obtain⟨i,d,V,hs,_,hd,hk,_⟩:=hT.info
    split at h
    ·rename_i W ad
     split at h
     ·rename_i hn
      simp only[G0c]at h
      rw[ad]at hk
      obtain⟨fields,X,_⟩:=Q9w hk
      have hl:((vs.drop off).take ti.size).length=ti.size:=by
       rw[G1v,G1w]
       omega
      split at h
      ·rename_i ps ag
       subst h
       have Q:=Z4g ag
       have aA:ps.length=ti.size:=by
        have:=G4e List.length Q
        rw[G1v,G1w,G1h]at this
        omega
       refine⟨.agg ⟨(vs.drop off).take ti.size⟩,?_,.pv (.agg _ _ (by omega) (λc m=>?_) (λk u c f m=>?_))⟩
       ·rw[q]
        refine Q5m hd (by rw[X];rfl) V b off _ (by omega) (λk u f=>z _ _ ?_)
        rw[G2a]at f
        split at f
        ·rwa [G2e]at f
        cases f
       ·obtain⟨k,hk,ah⟩:=G3f m
        have D:((cs.drop off).take ti.size)[k]?=some (.pv c):=by
         rw[Q,G1i,G0f hk,ah]
         rfl
        rw[G2a,if_pos (by omega),G2e]at D
        have ak:(off+k)<vs.length:=by omega
        obtain⟨al,A⟩:=C (off+k) vs[off+k] _ (G0f ak) D
        exact(Q0p A).oneOf al
       have D:((cs.drop off).take ti.size)[k]?=some (.pv c):=by
        rw[Q,G1i,m]
        rfl
       have I:k<ti.size:=by
        have:=(G0j.1 m).1
        omega
       rw[G2a,if_pos I,G2e]at D
       rw[G2a,if_pos I,G2e]at f
       exact Q0p (C (off+k) u _ f D).2
      subst h
      refine⟨.agg ⟨(vs.drop off).take ti.size⟩,?_,.agg _ _ ?_ (λu f=>?_) (λk u c f m=>?_)⟩
      ·rw[q]
       refine Q5m hd (by rw[X];rfl) V b off _ (by omega) (λk u f=>z _ _ ?_)
       rw[G2a]at f
       split at f
       ·rwa [G2e]at f
       cases f
      ·rw[hl,G1v,G1w]
       omega
      ·have am:=G3u (G4c f)
       obtain⟨k,hk,ao⟩:=G3f am
       rw[<-ao]
       exact(C k vs[k] (cs[k]'(by omega)) (G0f hk) (G0f (by omega))).1
      have I:k<ti.size:=by
       have:=(G0j.1 f).1
       omega
      rw[G2a,if_pos I,G2e]at f m
      exact(C (off+k) u c f m).2
     cases h
    ·cases h
    rename_i k1 k2
    have Y:off<vs.length:=by
     have:=(G0j.1 h).1
     omega
    refine⟨vs[off],?_,(C off vs[off] r (G0f Y) h).2⟩
    rw[q]
    exact Q8o hd (Z2d hk (λW e=>k1 W e) (λe=>k2 e)) _ _ (z off _ (G0f Y))
   cases h
 | vptr b o l n i off e sz len aq hn ar=>
   simp only at h
   split at h
   ·rename_i e' aD xs fz F
    have hre:=Q3l F
    rw[aq]at hre
    injection hre with hre
    injection hre with he hre
    injection hre with hs U
    subst he hs U
    split at h
    ·rename_i J
     obtain⟨cap,j,rfl⟩:=ar J
     split at h
     ·rename_i y hy
      obtain⟨p,M,rfl⟩:=G0k.1 h
      obtain⟨g,N,O⟩:=S.gh F
      obtain⟨cells,aw,ay,L,az,K,_,_,_⟩:=O
      simp only[gv,N,G1s,G0c]at j
      obtain⟨u,f,A⟩:=K3g (E:=E) (Φ:=Φ) hT aw j ay az K hy (λk v c P m _=>L k v c P m) M
      exact⟨u,by rw[q,f],.pv A⟩
     cases h
    cases h
   cases h
 | any=>simp at h
 | pv=>simp at h
 | vec=>simp at h
 | selfp=>simp at h
 | nils=>simp at h
 | ifc=>simp at h
 | full=>simp at h
 | tup=>simp at h
 | agg=>simp at h
 | fn=>simp at h
end
section
variable {E:Env}{γ:List Gh}{H:List AObj}{Φ:Nat->Nat->Prop}{w:World}
theorem X9c(op:BinOp)(t:TypeId)(x y:Operand)(k a:IntKind)(m n:Int):(do eqGuard op t x y (.int k m) (.int a n);binOp op t (.int k m) (.int a n):Sem Value).run E.P w=(binOp op t (.int k m) (.int a n)).run E.P w:=by
 simp[eqGuard_at_int]
theorem X9b(op:BinOp)(t:TypeId)(x y:Operand)(a b:ByteArray):(do eqGuard op t x y (.string a) (.string b);binOp op t (.string a) (.string b):Sem Value).run E.P w=(Op.stringOp op a b).run E.P w:=by
 simp only[eqGuard_at_string,bind,G1n]
 cases op<;>rfl
theorem X4p(op:BinOp)(t:TypeId)(x y:Operand){a b:Value}{p q r:PV}(f:Rep Φ w a p)(hb:Rep Φ w b q)(h:pbin op p q=some r):
 ∃u,(do eqGuard op t x y a b;binOp op t a b:Sem Value).run E.P w=.ok u w/\Rep Φ w u r:=by
 cases f with
 | int k m=>
   cases hb with
   | int g n=>
     rw[X9c]
     simp only[pbin]at h
     split at h
     ·rename_i hk
      subst hk
      cases op with
      | quo=>
        simp only[G3v,G0c]at h
        obtain⟨d,rfl⟩:=h
        exact⟨_,by simp[binOp,Op.intDiv,d],.int _ _⟩
      | rem=>
        simp only[G3v,G0c]at h
        obtain⟨d,rfl⟩:=h
        exact⟨_,by simp[binOp,Op.intDiv,d],.int _ _⟩
      | shl=>
        simp only[G3v,G0c]at h
        obtain⟨d,rfl⟩:=h
        exact⟨.int k (k.wrap (m * 2 ^ (min n.toNat k.bits))),by simp only[binOp,Op.shift,d,G2v];rfl,.int _ _⟩
      | shr=>
        simp only[G3v,G0c]at h
        obtain⟨d,rfl⟩:=h
        exact⟨.int k (m.fdiv (2 ^ (min n.toNat k.bits))),by simp only[binOp,Op.shift,d,G2v];rfl,.int _ _⟩
      | _=>
        simp only[G0c]at h
        subst h
        first
         | exact⟨_,by simp only[binOp,ne_eq,not_true,G2v];rfl,.int _ _⟩
         | exact⟨_,by simp only[binOp,ne_eq,not_true,G2v];rfl,.bool _⟩
     cases op with
     | shl=>
       simp only[G3v,G0c]at h
       obtain⟨d,rfl⟩:=h
       exact⟨.int k (k.wrap (m * 2 ^ (min n.toNat k.bits))),by simp only[binOp,Op.shift,d,G2v];rfl,.int _ _⟩
     | shr=>
       simp only[G3v,G0c]at h
       obtain⟨d,rfl⟩:=h
       exact⟨.int k (m.fdiv (2 ^ (min n.toNat k.bits))),by simp only[binOp,Op.shift,d,G2v];rfl,.int _ _⟩
     | _=>simp only[reduceCtorEq]at h
   | _=>simp[pbin]at h
 | str s=>
   cases hb with
   | str e=>
     rw[X9b]
     cases op with
     | add=>
       simp only[pbin,Option.ite_none_right_eq_some,G0c]at h
       obtain⟨d,rfl⟩:=h
       exact⟨_,run_string_add_sum w ⟨⟨s⟩⟩ ⟨⟨e⟩⟩ d,by rw[ByteArray.mk_append_mk];exact .str _⟩
     | eql=>simp only[pbin,G0c]at h;subst h;exact⟨.bool (s==e),by simp only[Op.stringOp,G5h];rfl,.bool _⟩
     | neq=>simp only[pbin,G0c]at h;subst h;exact⟨.bool (!(s==e)),by simp only[Op.stringOp,G5h];rfl,.bool _⟩
     | lss=>simp only[pbin,G0c]at h;subst h;exact⟨.bool (Op.bytesLess s e),by simp only[Op.stringOp,G5h];rfl,.bool _⟩
     | leq=>simp only[pbin,G0c]at h;subst h;exact⟨.bool (Op.bytesLess s e||s==e),by simp only[Op.stringOp,G5h];rfl,.bool _⟩
     | gtr=>simp only[pbin,G0c]at h;subst h;exact⟨.bool (!(Op.bytesLess s e||s==e)),by simp only[Op.stringOp,G5h];rfl,.bool _⟩
     | geq=>simp only[pbin,G0c]at h;subst h;exact⟨.bool (!(Op.bytesLess s e)),by simp only[Op.stringOp,G5h];rfl,.bool _⟩
     | _=>simp only[pbin,reduceCtorEq]at h
   | _=>simp[pbin]at h
 | _=>simp[pbin]at h
theorem J7r{t:TypeId}(hd:E.P.underlying t=some .bool)(x y:Operand)(a b:Bool):
 (do eqGuard .eql t x y (.bool a) (.bool b);binOp .eql t (.bool a) (.bool b):Sem Value).run E.P w=.ok (.bool (a==b)) w:=by
 have h:∀d:Nat,(Op.equalIn (d+1) t (.bool a) (.bool b)).run E.P w=.ok (a==b) w:=λd=>by
  simp[Op.equalIn,G1c hd]
 simp only[eqGuard_at_bool,bind,G1n,binOp]
 simp[Op.equal,Op.maxDepth,h 9999]
theorem J7q{t:TypeId}(hd:E.P.underlying t=some .bool)(x y:Operand)(a b:Bool):
 (do eqGuard .neq t x y (.bool a) (.bool b);binOp .neq t (.bool a) (.bool b):Sem Value).run E.P w=.ok (.bool (!(a==b))) w:=by
 have h:∀d:Nat,(Op.equalIn (d+1) t (.bool a) (.bool b)).run E.P w=.ok (a==b) w:=λd=>by
  simp[Op.equalIn,G1c hd]
 simp only[eqGuard_at_bool,bind,G1n,binOp]
 simp[Op.equal,Op.maxDepth,h 9999]
theorem X4n(op:BinOp)(t:TypeId)(x y:Operand){a b:Value}{p q r:AV}(g:ARel γ H Φ w a p)(hb:ARel γ H Φ w b q)(h:qbin E.T op t p q=some r):
 ∃u,(do eqGuard op t x y a b;binOp op t a b:Sem Value).run E.P w=.ok u w/\ARel γ H Φ w u r:=by
 have j:∀e f,p=.pv e->q=.pv f->(pbin op e f).map AV.pv=some r->∃u,(do eqGuard op t x y a b;binOp op t a b:Sem Value).run E.P w=.ok u w/\ARel γ H Φ w u r:=by
  intro e f l hq m
  subst l;subst hq
  obtain⟨I,n,rfl⟩:=G0k.1 m
  obtain⟨u,o,z⟩:=X4p (E:=E) op t x y (Q0p g) (Q0p hb) n
  exact⟨u,o,.pv z⟩
 unfold qbin at h
 split at h
 ·rename_i i b'
  have A:=Q0p g
  have C:=Q0p hb
  cases A
  cases C
  split at h
  ·rename_i hT
   unfold J8n at hT
   split at hT
   ·rename_i D
    obtain⟨d,hd,hk⟩:=(E.hT _ _ D).und
    have F:=K8x hk
    rw[F]at hd
    cases op with
    | eql=>
      simp only[G0c]at h
      subst h
      exact⟨_,J7r hd x y i b',.pv (.bool _)⟩
    | neq=>
      simp only[G0c]at h
      subst h
      exact⟨_,J7q hd x y i b',.pv (.bool _)⟩
    | _=>simp at h
   cases hT
  cases h
 ·exact j _ _ rfl rfl h
 cases h
theorem X4b{t:TypeId}{ms:Array (String×TypeId)}(hd:E.P.underlying t=some (.interface ms))(x:Operand):
 (do eqGuard .eql t x (.const .nilIface) .nilIface .nilIface;binOp .eql t .nilIface .nilIface:Sem Value).run E.P w=.ok (.bool true) w:=by
 have h:∀d:Nat,(Op.equalIn (d+1) t .nilIface .nilIface).run E.P w=.ok true w:=λd=>by
  simp[Op.equalIn,G1c hd]
 simp only[eqGuard,bind,G1n,binOp]
 simp[Op.equal,Op.maxDepth,h 9999]
theorem X3z{t:TypeId}{ms:Array (String×TypeId)}(hd:E.P.underlying t=some (.interface ms))(x:Operand):
 (do eqGuard .neq t x (.const .nilIface) .nilIface .nilIface;binOp .neq t .nilIface .nilIface:Sem Value).run E.P w=.ok (.bool false) w:=by
 have h:∀d:Nat,(Op.equalIn (d+1) t .nilIface .nilIface).run E.P w=.ok true w:=λd=>by
  simp[Op.equalIn,G1c hd]
 simp only[eqGuard,bind,G1n,binOp]
 simp[Op.equal,Op.maxDepth,h 9999]
theorem X4c{t:TypeId}{ms:Array (String×TypeId)}(hd:E.P.underlying t=some (.interface ms))(x:Operand)(a:TypeId)(v:Value):
 (do eqGuard .eql t x (.const .nilIface) (.iface a v) .nilIface;binOp .eql t (.iface a v) .nilIface:Sem Value).run E.P w=.ok (.bool false) w:=by
 have h:∀d:Nat,(Op.equalIn (d+1) t (.iface a v) .nilIface).run E.P w=.ok false w:=λd=>by
  simp[Op.equalIn,G1c hd]
 simp only[eqGuard,bind,G1n,binOp]
 simp[Op.equal,Op.maxDepth,h 9999]
theorem X4a{t:TypeId}{ms:Array (String×TypeId)}(hd:E.P.underlying t=some (.interface ms))(x:Operand)(a:TypeId)(v:Value):
 (do eqGuard .neq t x (.const .nilIface) (.iface a v) .nilIface;binOp .neq t (.iface a v) .nilIface:Sem Value).run E.P w=.ok (.bool true) w:=by
 have h:∀d:Nat,(Op.equalIn (d+1) t (.iface a v) .nilIface).run E.P w=.ok false w:=λd=>by
  simp[Op.equalIn,G1c hd]
 simp only[eqGuard,bind,G1n,binOp]
 simp[Op.equal,Op.maxDepth,h 9999]
theorem J7w(op:BinOp)(t:TypeId)(x:Operand){a:Value}{p r:AV}(e:ARel γ H Φ w a p)(h:J5l E.T op t p=some r):
 ∃u,(do eqGuard op t x (.const .nilIface) a .nilIface;binOp op t a .nilIface:Sem Value).run E.P w=.ok u w/\ARel γ H Φ w u r:=by
 unfold J5l at h
 split at h
 ·have b:=Q0p e
  cases b
  split at h
  ·rename_i hT
   obtain⟨d,hd,hk⟩:=(E.hT _ _ hT).und
   obtain⟨ms,rfl⟩:=Z6h hk
   simp only[G0c]at h
   subst h
   exact⟨_,X4b hd x,.pv (.bool _)⟩
  ·rename_i hT
   obtain⟨d,hd,hk⟩:=(E.hT _ _ hT).und
   obtain⟨ms,rfl⟩:=Z6h hk
   simp only[G0c]at h
   subst h
   exact⟨_,X3z hd x,.pv (.bool _)⟩
  cases h
 ·have b:=Q0p e
  cases b
  split at h
  ·rename_i hT
   obtain⟨d,hd,hk⟩:=(E.hT _ _ hT).und
   obtain⟨ms,rfl⟩:=Z6h hk
   simp only[G0c]at h
   subst h
   exact⟨_,X4c hd x _ _,.pv (.bool _)⟩
  ·rename_i hT
   obtain⟨d,hd,hk⟩:=(E.hT _ _ hT).und
   obtain⟨ms,rfl⟩:=Z6h hk
   simp only[G0c]at h
   subst h
   exact⟨_,X4a hd x _ _,.pv (.bool _)⟩
  cases h
 cases h
theorem K4f{y:Operand}(h:Z8i y=true):y=.const .nilIface:=by
 unfold Z8i at h
 split at h
 ·rfl
 cases h
theorem X7k(op:UnOp){a:Value}{p r:AV}(d:ARel γ H Φ w a p)(h:qun op p=some r):
 ∃u,(Op.unary op a).run E.P w=.ok u w/\ARel γ H Φ w u r:=by
 unfold qun at h
 split at h
 ·have b:=Q0p d
  cases b
  cases op<;>simp at h
  subst h
  exact⟨_,rfl,.pv (.bool _)⟩
 ·have b:=Q0p d
  cases b
  cases op<;>simp only[reduceCtorEq,G0c]at h
  subst h
  exact⟨_,rfl,.pv (.int _ _)⟩
 cases h
theorem Z6c{t:TypeId}{f:Nat}{a:Value}{x r:AV}(y:ARel γ H Φ w a x)(h:Q7e E.T t f x=some r):
 ∃u,(Instr.fieldAt t a f).run E.P w=.ok u w/\ARel γ H Φ w u r:=by
 unfold Q7e at h
 split at h
 ·rename_i T _ _ _ hT
  split at h
  ·rename_i off sz p
   split at h
   ·cases h
   rename_i U
   obtain⟨d,hd,hk⟩:=(E.hT _ _ hT).und
   obtain⟨fields,rfl,V,z⟩:=Q9w hk
   have q:f<fields.size:=by
    have:=(G0j.1 p).1
    omega
   obtain⟨A,C,D,F⟩:=z f fields[f] (off,sz) (G3i q) p
   have j:∀b o:Nat,(Instr.fieldAt t (.pointer (some ⟨b,o,none⟩)) f).run E.P w=.ok (.pointer (some ⟨b,o+off,none⟩)) w:=by
    intro b o
    have I:C.size≠0:=by
     simp only at F
     omega
    have J:fields[f].offset=off:=A
    simp[Instr.fieldAt,G1c hd,G3i q,Instr.sureAddr,fieldPlace,Q1q D,I,J,G5j]
   cases y with
   | ref b l o m=>
     simp only[G0c]at h
     subst h
     exact⟨_,j _ _,.ref b l _ m⟩
   | pptr b o cs vs K L M=>
     simp only[G0c]at h
     subst h
     refine⟨_,j _ _,.pptr b (o+off) _ (λk=>vs (off+k)) (λc g=>K c (G3u g)) (λk hk=>?_) (λk c g=>?_)⟩
     ·rw[G1w]at hk
      rw[G4h]
      exact L (off+k) (by omega)
     rw[G2e]at g
     exact M (off+k) c g
   | vptr b o' l n i o e N len O P Q=>
     simp only[G0c]at h
     subst h
     exact⟨_,j _ _,.vptr b _ l n i _ e N len O P (λS=>by
      obtain⟨cap,m,W⟩:=Q S
      exact⟨cap,m,by omega⟩)⟩
   | any=>simp at h
   | pv=>simp at h
   | vec=>simp at h
   | selfp=>simp at h
   | nils=>simp at h
   | ifc=>simp at h
   | full=>simp at h
   | tup=>simp at h
   | agg=>simp at h
   | fn=>simp at h
  cases h
 cases h
end
section
variable {E:Env}{γ:List Gh}{H:List AObj}{Φ:Nat->Nat->Prop}{w:World}
theorem Q2v{v:Value}{k:IntKind}{n:Int}(h:Rep Φ w v (.int k n)):v=.int k n:=by cases h;rfl
theorem Z0a{v:Value}{b:Bool}(h:Rep Φ w v (.bool b)):v=.bool b:=by cases h;rfl
theorem Q1z{v:Value}{s:List UInt8}(h:Rep Φ w v (.str s)):v=.string ⟨⟨s⟩⟩:=by cases h;rfl
theorem Z7i{t e:TypeId}{a:TypeInfo}(hd:E.P.underlying t=some (.slice e))(d:E.P.info? e=some a)(b o len cap:Nat)(k:IntKind)(i:Int)(f:0<=i)(j:i.toNat<len):
 (Instr.indexAt t (.slice (some ⟨b,o,none⟩) len cap) (.int k i)).run E.P w=.ok (.pointer (some ⟨b,o+i.toNat * a.size,none⟩)) w:=by
 have g:0<=i/\i<(len:Int):=⟨f,by omega⟩
 simp[Instr.indexAt,asIntOf,G1c hd,g,Q1q d,G5j]
theorem Z6b{t:TypeId}{a c:Value}{x y r:AV}(L:ARel γ H Φ w a x)(M:ARel γ H Φ w c y)(h:Q3j E.T H t x y=some r):
 ∃u,(Instr.indexAt t a c).run E.P w=.ok u w/\ARel γ H Φ w u r:=by
 unfold Q3j at h
 split at h
 ·rename_i e _ _ _ hT
  split at h
  ·rename_i N k i O
   obtain⟨d,hd,hk⟩:=(E.hT _ _ hT).und
   have P:=Q4b hk
   rw[P]at hd
   obtain⟨ti,C,D⟩:=(E.hT _ _ O).size
   have Q:=Q2v (Q0p M)
   subst Q
   split at h
   ·rename_i F
    cases L with
    | @pv v p S=>
      cases S with
      | slice b o len cap sz xs vs hl ag T f U V W=>
        simp only at h
        split at h
        ·rename_i z m
         split at h
         ·rename_i I
          simp only[G0c]at h
          subst h
          have g:=(G0j.1 m).1
          have J:sz=N.size:=by rw[<-I];exact(f z (G1o m)).symm
          have ah:z.cells.length=sz:=by rw[I,J]
          have ak:i.toNat * sz+sz<=xs.length * sz:=by
           have:=G3n sz (show i.toNat+1<=xs.length from g)
           rw[G5k]at this
           exact this
          have al:=Q0s f
          refine⟨_,Z7i hd C b o len cap k i F (by omega),.pptr b _ _ (λj=>vs (i.toNat * sz+j)) (λq hq=>U q (Z2u (G1o m) hq)) (λj X=>?_) (λj q hq=>?_)⟩
          ·have:=V (i.toNat * sz+j) (by omega)
           rw[D,<-J,G4h]
           exact this
          have X:j<z.cells.length:=(G0j.1 hq).1
          refine W _ q ?_
          rw[Q5v f i.toNat j z m (by omega)]
          exact hq
         cases h
        cases h
      | sliceNil=>simp at h
      | sliceAny A cap T=>simp at h
      | bool=>simp at h
      | int=>simp at h
      | str=>simp at h
      | nil=>simp at h
      | ifc t v=>simp at h
      | nilp=>simp at h
      | agg=>simp at h
    | vec A l n cap Y sz len K hn hA ad=>
      simp only[K]at h
      split at h
      ·rename_i g
       obtain⟨g,f⟩:=g
       simp only[G0c]at h
       subst h
       obtain⟨b,rfl⟩:=hA (by omega)
       exact⟨_,Z7i hd C b 0 n cap k i F g,.vptr b _ l n i.toNat 0 Y sz len K hn (λhx=>⟨cap,ad hx,by rw[D,f];omega⟩)⟩
      cases h
    | any=>simp at h
    | ref=>simp at h
    | pptr=>simp at h
    | vptr=>simp at h
    | selfp=>simp at h
    | nils=>simp at h
    | ifc=>simp at h
    | full=>simp at h
    | tup=>simp at h
    | agg=>simp at h
    | fn=>simp at h
   cases h
  cases h
 cases h
theorem J5n{t:TypeId}{a c:Value}{x y r:AV}(f:ARel γ H Φ w a x)(g:ARel γ H Φ w c y)(h:Q1j E.T t x y=some r):
 ∃u,(Instr.index t a c).run E.P w=.ok u w/\ARel γ H Φ w u r:=by
 unfold Q1j at h
 split at h
 ·rename_i s k i hT
  obtain⟨d,hd,hk⟩:=(E.hT _ _ hT).und
  have j:=Z5b hk
  rw[j]at hd
  have l:=Q2v (Q0p g)
  have m:=Q1z (Q0p f)
  subst l;subst m
  split at h
  ·rename_i n
   split at h
   ·rename_i b hb
    simp only[G0c]at h
    subst h
    have e:=(G0j.1 hb)
    obtain⟨e,o⟩:=e
    have p:(⟨⟨s⟩⟩:ByteArray)[i.toNat]?=some b:=by
     rw[ByteArray.getElem?_lt' _ _ e]
     exact G4e some o
    refine⟨_,?_,.pv (.int .u8 _)⟩
    simp[Instr.index,asIntOf,G1c hd,n,p]
   cases h
  cases h
 cases h
theorem Q5d{d n:Nat}{o:Option AV}{v:Option Value}(h:Q8b d o=some n)(e:∀a x,o=some a->v=some x->ARel γ H Φ w x a)(b:o=none↔v=none):
 (o=none/\v=none/\n=d)\/∃k,v=some (.int k (n:Int)):=by
 unfold Q8b at h
 split at h
 ·simp only[G0c]at h
  exact .inl ⟨rfl,b.1 rfl,h.symm⟩
 ·rename_i k i
  split at h
  ·rename_i f
   simp only[G0c]at h
   subst h
   cases v with
   | none=>exact absurd (b.2 rfl) (by simp)
   | some x=>
     have g:=Q2v (Q0p (e _ x rfl rfl))
     subst g
     exact .inr ⟨k,by rw[G5e f]⟩
  cases h
 cases h
theorem Q9y(f:Bool)(len cap l a:Nat)(d b:Option Value)(g:(d=none/\l=0)\/∃k,d=some (.int k (l:Int)))(j:(b=none/\a=len)\/∃k,b=some (.int k (a:Int)))
 (m:l<=a) (n:a<=cap):(Instr.sliceBounds f len cap d b none).run E.P w=.ok (l,a,cap) w:=by
 have hb:∀ (k:IntKind) (i y:Nat) (e:BoundsCode),i<=y->(Instr.sliceBound (.int k (i:Int)) y e).run E.P w=.ok i w:=λk i y e b=>by
  have:0<=(i:Int)/\(i:Int)<=(y:Int):=⟨by omega,by omega⟩
  simp[Instr.sliceBound,asIntOf,this]
 unfold Instr.sliceBounds
 rcases g with⟨rfl,rfl⟩|⟨k,rfl⟩<;>rcases j with⟨rfl,rfl⟩|⟨o,rfl⟩<;>simp[hb,m,n]
theorem J5h(hI:OInv E γ H Φ w){t:TypeId}{a:Value}{x r:AV}{F I:Option AV}{vlo vhi:Option Value}(T:ARel γ H Φ w a x)
 (U:∀a x,F=some a->vlo=some x->ARel γ H Φ w x a) (V:F=none↔vlo=none) (W:∀a x,I=some a->vhi=some x->ARel γ H Φ w x a) (X:I=none↔vhi=none)
 (h:Z5g E.T H t x F I=some r):∃u,(Instr.sliceAt t a vlo vhi none).run E.P w=.ok u w/\ARel γ H Φ w u r:=by
 unfold Z5g at h
 split at h
 ·rename_i hT
  obtain⟨d,hd,hk⟩:=(E.hT _ _ hT).und
  have J:=Z5b hk
  rw[J]at hd
  split at h
  ·rename_i s
   have ae:=Q1z (Q0p T)
   subst ae
   split at h
   ·rename_i l f K L
    split at h
    ·rename_i hb
     obtain⟨M,D⟩:=hb
     simp only[G0c]at h
     subst h
     have z:(vlo=none/\l=0)\/∃k,vlo=some (.int k (l:Int)):=by
      rcases Q5d K U V with⟨_,g,n⟩|g
      ·exact .inl ⟨g,n⟩
      exact .inr g
     have C:(vhi=none/\f=s.length)\/∃k,vhi=some (.int k (f:Int)):=by
      rcases Q5d L W X with⟨_,g,n⟩|g
      ·exact .inl ⟨g,n⟩
      exact .inr g
     have p:=Q9y (E:=E) (w:=w) false s.length s.length l f vlo vhi z C M D
     have q:(⟨⟨s⟩⟩:ByteArray).size=s.length:=rfl
     refine⟨.string ((⟨⟨s⟩⟩:ByteArray).extract l f),?_,?_⟩
     ·simp[Instr.sliceAt,Instr.slice,G1c hd,q,p]
     rw[ByteArray.extract_mk]
     exact .pv (.str _)
    cases h
   cases h
  cases h
 ·rename_i e _ _ _ hT
  obtain⟨d,hd,hk⟩:=(E.hT _ _ hT).und
  have J:=Q4b hk
  rw[J]at hd
  split at h
  ·rename_i te xs ag ah
   obtain⟨ti,N,ak⟩:=(E.hT _ _ ag).size
   have al:=Q2b hI T ah
   split at h
   ·rename_i l f K L
    split at h
    ·rename_i hb
     obtain⟨M,D,am⟩:=hb
     simp only[G0c]at h
     subst h
     have ao:∀y∈xs,y.cells.length=te.size:=λy i=>by
      have:=G0p.1 am y i
      simpa using this
     have z:(vlo=none/\l=0)\/∃k,vlo=some (.int k (l:Int)):=by
      rcases Q5d K U V with⟨_,g,n⟩|g
      ·exact .inl ⟨g,n⟩
      exact .inr g
     have C:(vhi=none/\f=xs.length)\/∃k,vhi=some (.int k (f:Int)):=by
      rcases Q5d L W X with⟨_,g,n⟩|g
      ·exact .inl ⟨g,n⟩
      exact .inr g
     cases al with
     | sliceNil=>
       simp only[G0z]at D
       have O:f=0:=by omega
       have P:l=0:=by omega
       subst O;subst P
       have p:=Q9y (E:=E) (w:=w) true 0 0 0 0 vlo vhi z C (by omega) (by omega)
       refine⟨.slice none 0 0,?_,.pv .sliceNil⟩
       simp[Instr.sliceAt,Instr.slice,G1c hd,p,Q1q N]
     | sliceAny A cap Y=>
       simp only[G0z]at D
       have O:f=0:=by omega
       have P:l=0:=by omega
       subst O;subst P
       have p:=Q9y (E:=E) (w:=w) true 0 cap 0 0 vlo vhi z C (by omega) (by omega)
       refine⟨.slice (some A) 0 cap,?_,.pv (.sliceAny A cap Y)⟩
       simp only[Instr.sliceAt,Instr.slice,bind,G1n,G1c hd,G1b,p,Q1q N]
       by_cases m:cap=0
       ·simp[m]
       simp[m,Addr.add]
     | slice b o len cap sz xs vs aq az Y q g ar au=>
       have p:=Q9y (E:=E) (w:=w) true len cap l f vlo vhi z (by rw[<-aq];exact C) M (by omega)
       refine⟨.slice (some (if cap=l then⟨b,o,none⟩else⟨b,o+l * ti.size,none⟩)) (f-l) (cap-l),?_,?_⟩
       ·simp only[Instr.sliceAt,Instr.slice,bind,G1n,G1c hd,G1b,p,Q1q N]
        by_cases m:cap=l
        ·simp[m]
        simp[m,G5j]
       have Q:xs=[]\/sz=ti.size:=by
        cases xs with
        | nil=>exact .inl rfl
        | cons y ys=>exact .inr (by rw[ak,<-ao y (by simp),q y (by simp)])
       have av:((xs.drop l).take (f-l)).length=f-l:=by
        rw[G1v,G1w]
        omega
       have aa:flat ((xs.drop l).take (f-l))=((flat xs).drop (l * sz)).take ((f-l) * sz):=by
        rw[X9l (sz:=sz) (λy i=>q y (G3u i)) _ (by rw[G1w];omega),X9m q _ (by omega)]
       have ac:∀y∈(xs.drop l).take (f-l),y∈xs:=λy i=>G3u (G4c i)
       have aA:=Q0s q
       by_cases m:cap=l
       ·rw[if_pos m]
        have aw:(xs.drop l).take (f-l)=[]:=G0u (by omega)
        rw[aw,show f-l=0 from by omega]
        exact .pv (.slice b o 0 (cap-l) sz [] vs rfl (by omega) (by omega) (λx S=>by cases S) (λx S=>by cases S) (λk hk=>absurd hk (by simp[Q4h])) (λk c j=>by simp[Q4h]at j))
       rw[if_neg m]
       refine .pv (.slice b _ _ _ sz _ (λk=>vs (l * sz+k)) av (by omega) (by omega) (λy i=>q y (ac y i)) (λc j=>g c ?_) (λk hk=>?_) (λk c j=>?_))
       ·obtain⟨y,i,ay⟩:=G6m.1 j
        exact Z2u (ac y i) ay
       ·rw[aa,G1v,G1w]at hk
        rcases Q with rfl|Q
        ·simp[Q4h]at hk
        have:=ar (l * sz+k) (by omega)
        rw[<-Q,G4h]
        exact this
       rw[aa,G2a]at j
       split at j
       ·rw[G2e]at j
        exact au _ c j
       cases j
    cases h
   cases h
  cases h
 cases h
end
end Go.Abs
