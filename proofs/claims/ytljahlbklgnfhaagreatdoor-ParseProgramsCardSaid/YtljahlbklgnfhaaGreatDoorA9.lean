import Derived.Test.YtljahlbklgnfhaaGreatDoorA5
import Derived.Laws.StructEq
import Derived.Laws.IdiomStrings
set_option linter.unusedVariables false
set_option linter.unusedSimpArgs false
set_option linter.defProp false
namespace Go.Abs
open Go.RowKit
section
variable {E:Env}{γ:List Gh}{H:List AObj}{Φ:Nat->Nat->Prop}{w:World}
theorem Q2t{v:Value}{k:IntKind}{n:Int}(h:Rep Φ w v (.int k n)):v=.int k n:=by cases h;rfl
theorem Q9g{v:Value}{b:Bool}(h:Rep Φ w v (.bool b)):v=.bool b:=by cases h;rfl
theorem Q2a{v:Value}{s:List UInt8}(h:Rep Φ w v (.str s)):v=.string ⟨⟨s⟩⟩:=by cases h;rfl
theorem Z5i{t e:TypeId}{a:TypeInfo}(hd:E.P.underlying t=some (.slice e))(d:E.P.info? e=some a)(b o len cap:Nat)(k:IntKind)(i:Int)(f:0<=i)(j:i.toNat<len):
 (Instr.indexAt t (.slice (some ⟨b,o,none⟩) len cap) (.int k i)).run E.P w=.ok (.pointer (some ⟨b,o+i.toNat * a.size,none⟩)) w:=by
 have g:0<=i/\i<(len:Int):=⟨f,by omega⟩
 simp[Instr.indexAt,asIntOf,run_underlying hd,g,Q1f d,Addr.add_lit]
theorem Z4f{t:TypeId}{a c:Value}{x y r:AV}(J:ARel γ H Φ w a x)(K:ARel γ H Φ w c y)(h:Q3a E.T H t x y=some r):
 ∃u,(Instr.indexAt t a c).run E.P w=.ok u w/\ARel γ H Φ w u r:=by
 unfold Q3a at h
 split at h
 ·rename_i e _ _ _ hT
  split at h
  ·rename_i L k i M
   obtain⟨d,hd,hk⟩:=(E.hT _ _ hT).und
   have N:=Q3u hk
   rw[N]at hd
   obtain⟨ti,s,C⟩:=(E.hT _ _ M).size
   have O:=Q2t (Q0o K)
   subst O
   split at h
   ·rename_i D
    cases J with
    | @pv v p P=>
      cases P with
      | slice b o len cap sz xs vs hl ae Q f S T U=>
        simp only at h
        split at h
        ·rename_i z m
         split at h
         ·rename_i F
          simp only[G0b]at h
          subst h
          have g:=(G0f.1 m).1
          have I:sz=L.size:=by rw[<-F];exact(f z (G0r m)).symm
          have af:z.cells.length=sz:=by rw[F,I]
          have ag:i.toNat * sz+sz<=xs.length * sz:=by
           have:=G2f sz (show i.toNat+1<=xs.length from g)
           rw[G3j]at this
           exact this
          have ah:=Q0j f
          refine⟨_,Z5i hd s b o len cap k i D (by omega),.pptr b _ _ (λj=>vs (i.toNat * sz+j)) (λq hq=>S q (Q5x (G0r m) hq)) (λj V=>?_) (λj q hq=>?_)⟩
          ·have:=T (i.toNat * sz+j) (by omega)
           rw[C,<-I,G3b]
           exact this
          have V:j<z.cells.length:=(G0f.1 hq).1
          refine U _ q ?_
          rw[Q2j f i.toNat j z m (by omega)]
          exact hq
         cases h
        cases h
      | sliceNil=>simp at h
      | sliceAny A cap Q=>simp at h
      | bool=>simp at h
      | int=>simp at h
      | str=>simp at h
      | nil=>simp at h
      | ifc t v=>simp at h
      | nilp=>simp at h
      | agg=>simp at h
    | vec A l n cap W sz len hrow X Y aa=>
      simp only[hrow]at h
      split at h
      ·rename_i g
       obtain⟨g,f⟩:=g
       simp only[G0b]at h
       subst h
       obtain⟨b,rfl⟩:=Y (by omega)
       exact⟨_,Z5i hd s b 0 n cap k i D g,.vptr b _ l n i.toNat 0 W sz len hrow X (λhx=>⟨cap,aa hx,by rw[C,f];omega⟩)⟩
      cases h
    | any=>simp at h
    | ref=>simp at h
    | pptr=>simp at h
    | vptr=>simp at h
    | mref=>simp at h
    | selfp=>simp at h
    | nils=>simp at h
    | ifc=>simp at h
    | full=>simp at h
    | tup=>simp at h
    | agg=>simp at h
    | fn=>simp at h
   cases h
  cases h
 cases h
theorem J2f{t:TypeId}{a c:Value}{x y r:AV}(f:ARel γ H Φ w a x)(g:ARel γ H Φ w c y)(h:Q1d E.T t x y=some r):
 ∃u,(Instr.index t a c).run E.P w=.ok u w/\ARel γ H Φ w u r:=by
 unfold Q1d at h
 split at h
 ·rename_i s k i hT
  obtain⟨d,hd,hk⟩:=(E.hT _ _ hT).und
  have j:=Z3g hk
  rw[j]at hd
  have l:=Q2t (Q0o g)
  have m:=Q2a (Q0o f)
  subst l;subst m
  split at h
  ·rename_i n
   split at h
   ·rename_i b hb
    simp only[G0b]at h
    subst h
    have e:=(G0f.1 hb)
    obtain⟨e,o⟩:=e
    have p:(⟨⟨s⟩⟩:ByteArray)[i.toNat]?=some b:=by
     rw[ByteArray.getElem?_lt' _ _ e]
     exact G3t some o
    refine⟨_,?_,.pv (.int .u8 _)⟩
    simp[Instr.index,asIntOf,run_underlying hd,n,p]
   cases h
  cases h
 cases h
theorem Q4o{d n:Nat}{o:Option AV}{v:Option Value}(h:Q7p d o=some n)(e:∀a x,o=some a->v=some x->ARel γ H Φ w x a)(b:o=none↔v=none):
 (o=none/\v=none/\n=d)\/∃k,v=some (.int k (n:Int)):=by
 unfold Q7p at h
 split at h
 ·simp only[G0b]at h
  exact .inl ⟨rfl,b.1 rfl,h.symm⟩
 ·rename_i k i
  split at h
  ·rename_i f
   simp only[G0b]at h
   subst h
   cases v with
   | none=>exact absurd (b.2 rfl) (by simp)
   | some x=>
     have g:=Q2t (Q0o (e _ x rfl rfl))
     subst g
     exact .inr ⟨k,by rw[G4w f]⟩
  cases h
 cases h
theorem Q9e(f:Bool)(len cap l a:Nat)(d b:Option Value)(g:(d=none/\l=0)\/∃k,d=some (.int k (l:Int)))(j:(b=none/\a=len)\/∃k,b=some (.int k (a:Int)))
 (m:l<=a) (n:a<=cap):(Instr.sliceBounds f len cap d b none).run E.P w=.ok (l,a,cap) w:=by
 have hb:∀ (k:IntKind) (i y:Nat) (e:BoundsCode),i<=y->(Instr.sliceBound (.int k (i:Int)) y e).run E.P w=.ok i w:=λk i y e b=>by
  have:0<=(i:Int)/\(i:Int)<=(y:Int):=⟨by omega,by omega⟩
  simp[Instr.sliceBound,asIntOf,this]
 unfold Instr.sliceBounds
 rcases g with⟨rfl,rfl⟩|⟨k,rfl⟩<;>rcases j with⟨rfl,rfl⟩|⟨o,rfl⟩<;>simp[hb,m,n]
theorem J1z(hI:OInv E γ H Φ w){t:TypeId}{a:Value}{x r:AV}{F I:Option AV}{vlo vhi:Option Value}(T:ARel γ H Φ w a x)
 (U:∀a x,F=some a->vlo=some x->ARel γ H Φ w x a) (V:F=none↔vlo=none) (W:∀a x,I=some a->vhi=some x->ARel γ H Φ w x a) (X:I=none↔vhi=none)
 (h:Z3i E.T H t x F I=some r):∃u,(Instr.sliceAt t a vlo vhi none).run E.P w=.ok u w/\ARel γ H Φ w u r:=by
 unfold Z3i at h
 split at h
 ·rename_i hT
  obtain⟨d,hd,hk⟩:=(E.hT _ _ hT).und
  have J:=Z3g hk
  rw[J]at hd
  split at h
  ·rename_i s
   have ae:=Q2a (Q0o T)
   subst ae
   split at h
   ·rename_i l f K L
    split at h
    ·rename_i hb
     obtain⟨M,D⟩:=hb
     simp only[G0b]at h
     subst h
     have z:(vlo=none/\l=0)\/∃k,vlo=some (.int k (l:Int)):=by
      rcases Q4o K U V with⟨_,g,n⟩|g
      ·exact .inl ⟨g,n⟩
      exact .inr g
     have C:(vhi=none/\f=s.length)\/∃k,vhi=some (.int k (f:Int)):=by
      rcases Q4o L W X with⟨_,g,n⟩|g
      ·exact .inl ⟨g,n⟩
      exact .inr g
     have p:=Q9e (E:=E) (w:=w) false s.length s.length l f vlo vhi z C M D
     have q:(⟨⟨s⟩⟩:ByteArray).size=s.length:=rfl
     refine⟨.string ((⟨⟨s⟩⟩:ByteArray).extract l f),?_,?_⟩
     ·simp[Instr.sliceAt,Instr.slice,run_underlying hd,q,p]
     rw[ByteArray.extract_mk]
     exact .pv (.str _)
    cases h
   cases h
  cases h
 ·rename_i e _ _ _ hT
  obtain⟨d,hd,hk⟩:=(E.hT _ _ hT).und
  have J:=Q3u hk
  rw[J]at hd
  split at h
  ·rename_i te xs ag ah
   obtain⟨ti,N,aj⟩:=(E.hT _ _ ag).size
   have ak:=Q1q hI T ah
   split at h
   ·rename_i l f K L
    split at h
    ·rename_i hb
     obtain⟨M,D,al⟩:=hb
     simp only[G0b]at h
     subst h
     have am:∀y∈xs,y.cells.length=te.size:=λy i=>by
      have:=G0t.1 al y i
      simpa using this
     have z:(vlo=none/\l=0)\/∃k,vlo=some (.int k (l:Int)):=by
      rcases Q4o K U V with⟨_,g,n⟩|g
      ·exact .inl ⟨g,n⟩
      exact .inr g
     have C:(vhi=none/\f=xs.length)\/∃k,vhi=some (.int k (f:Int)):=by
      rcases Q4o L W X with⟨_,g,n⟩|g
      ·exact .inl ⟨g,n⟩
      exact .inr g
     cases ak with
     | sliceNil=>
       simp only[G0j]at D
       have O:f=0:=by omega
       have P:l=0:=by omega
       subst O;subst P
       have p:=Q9e (E:=E) (w:=w) true 0 0 0 0 vlo vhi z C (by omega) (by omega)
       refine⟨.slice none 0 0,?_,.pv .sliceNil⟩
       simp[Instr.sliceAt,Instr.slice,run_underlying hd,p,Q1f N]
     | sliceAny A cap Y=>
       simp only[G0j]at D
       have O:f=0:=by omega
       have P:l=0:=by omega
       subst O;subst P
       have p:=Q9e (E:=E) (w:=w) true 0 cap 0 0 vlo vhi z C (by omega) (by omega)
       refine⟨.slice (some A) 0 cap,?_,.pv (.sliceAny A cap Y)⟩
       simp only[Instr.sliceAt,Instr.slice,bind,Sem.run_bind',run_underlying hd,Result.andThen_ok,p,Q1f N]
       by_cases m:cap=0
       ·simp[m]
       simp[m,Addr.add]
     | slice b o len cap sz xs vs ao ax Y q g aq ar=>
       have p:=Q9e (E:=E) (w:=w) true len cap l f vlo vhi z (by rw[<-ao];exact C) M (by omega)
       refine⟨.slice (some (if cap=l then⟨b,o,none⟩else⟨b,o+l * ti.size,none⟩)) (f-l) (cap-l),?_,?_⟩
       ·simp only[Instr.sliceAt,Instr.slice,bind,Sem.run_bind',run_underlying hd,Result.andThen_ok,p,Q1f N]
        by_cases m:cap=l
        ·simp[m]
        simp[m,Addr.add_lit]
       have Q:xs=[]\/sz=ti.size:=by
        cases xs with
        | nil=>exact .inl rfl
        | cons y ys=>exact .inr (by rw[aj,<-am y (by simp),q y (by simp)])
       have au:((xs.drop l).take (f-l)).length=f-l:=by
        rw[G1h,G0p]
        omega
       have aa:flat ((xs.drop l).take (f-l))=((flat xs).drop (l * sz)).take ((f-l) * sz):=by
        rw[X3s (sz:=sz) (λy i=>q y (G3k i)) _ (by rw[G0p];omega),X3t q _ (by omega)]
       have ac:∀y∈(xs.drop l).take (f-l),y∈xs:=λy i=>G3k (G3p i)
       have ay:=Q0j q
       by_cases m:cap=l
       ·rw[if_pos m]
        have av:(xs.drop l).take (f-l)=[]:=G1g (by omega)
        rw[av,show f-l=0 from by omega]
        exact .pv (.slice b o 0 (cap-l) sz [] vs rfl (by omega) (by omega) (λx S=>by cases S) (λx S=>by cases S) (λk hk=>absurd hk (by simp[Q3y])) (λk c j=>by simp[Q3y]at j))
       rw[if_neg m]
       refine .pv (.slice b _ _ _ sz _ (λk=>vs (l * sz+k)) au (by omega) (by omega) (λy i=>q y (ac y i)) (λc j=>g c ?_) (λk hk=>?_) (λk c j=>?_))
       ·obtain⟨y,i,aw⟩:=G4f.1 j
        exact Q5x (ac y i) aw
       ·rw[aa,G1h,G0p]at hk
        rcases Q with rfl|Q
        ·simp[Q3y]at hk
        have:=aq (l * sz+k) (by omega)
        rw[<-Q,G3b]
        exact this
       rw[aa,G1l]at j
       split at j
       ·rw[G1u]at j
        exact ar _ c j
       cases j
    cases h
   cases h
  cases h
 cases h
end
end Go.Abs
namespace Go.Abs
open Go.RowKit
section
variable {E:Env}{γ:List Gh}{H:List AObj}{Φ:Nat->Nat->Prop}{w:World}
def Q1h(Φ:Nat->Nat->Prop)(w:World)(vs:List Value)(cs:List PV):Prop:=
 vs.length=cs.length/\(∀c∈cs,c.one=true)/\∀ (k:Nat) v c,vs[k]?=some v->cs[k]?=some c->Rep Φ w v c
theorem Q4x{v:Value}{p:PV}(h:Rep Φ w v p):Q1h Φ w v.cells.toList p.cells:=by
 cases h with
 | agg vs cs f g i=>exact⟨f,g,i⟩
 | bool b=>exact⟨rfl,by simp[PV.cells,PV.one],λk v c a d=>by cases k<;>simp[Value.cells,PV.cells]at a d;subst a d;exact .bool b⟩
 | int l n=>exact⟨rfl,by simp[PV.cells,PV.one],λk v c a d=>by cases k<;>simp[Value.cells,PV.cells]at a d;subst a d;exact .int l n⟩
 | str s=>exact⟨rfl,by simp[PV.cells,PV.one],λk v c a d=>by cases k<;>simp[Value.cells,PV.cells]at a d;subst a d;exact .str s⟩
 | nil=>exact⟨rfl,by simp[PV.cells,PV.one],λk v c a d=>by cases k<;>simp[Value.cells,PV.cells]at a d;subst a d;exact .nil⟩
 | ifc m v'=>exact⟨rfl,by simp[PV.cells,PV.one],λk v c a d=>by cases k<;>simp[Value.cells,PV.cells]at a d;subst a d;exact .ifc m v'⟩
 | nilp=>exact⟨rfl,by simp[PV.cells,PV.one],λk v c a d=>by cases k<;>simp[Value.cells,PV.cells]at a d;subst a d;exact .nilp⟩
 | sliceNil=>exact⟨rfl,by simp[PV.cells,PV.one],λk v c a d=>by cases k<;>simp[Value.cells,PV.cells]at a d;subst a d;exact .sliceNil⟩
 | sliceAny A cap j=>exact⟨rfl,by simp[PV.cells,PV.one],λk v c a e=>by
    cases k<;>simp[Value.cells,PV.cells]at a e;subst a e;exact .sliceAny A cap j⟩
 | slice b o len cap sz xs vs f d j q g r i=>exact⟨rfl,by simp[PV.cells,PV.one],λk v c a e=>by
    cases k<;>simp[Value.cells,PV.cells]at a e;subst a e;exact .slice b o len cap sz xs vs f d j q g r i⟩
theorem Z4x(off:Nat):∀ (ps:List Value) (j:Nat) (cs:Array Value),off+j+ps.length<=cs.size->
 ((ps.zipIdx j).foldl (λcs (c,j)=>cs.setIfInBounds (off+j) c) cs).size=cs.size/\
 ∀k:Nat,((ps.zipIdx j).foldl (λcs (c,j)=>cs.setIfInBounds (off+j) c) cs)[k]?=if off+j<=k/\k<off+j+ps.length then ps[k-(off+j)]? else cs[k]?
 | [],j,cs,_=>⟨rfl,λk=>by
    rw[if_neg (by simp)]
    rfl⟩
 | p::ps,j,cs,h=>by
   simp only[G0h]at h
   obtain⟨b,d⟩:=Z4x off ps (j+1) (cs.setIfInBounds (off+j) p) (by simp;omega)
   rw[List.zipIdx_cons,List.foldl_cons]
   refine⟨by rw[b];simp,λk=>?_⟩
   rw[d k]
   by_cases hk:k=off+j
   ·subst hk
    rw[if_neg (by omega),if_pos ⟨by omega,by simp⟩,G4g,if_pos rfl,if_pos (by omega)]
    simp
   by_cases a:off+(j+1)<=k/\k<off+(j+1)+ps.length
   ·rw[if_pos a,if_pos ⟨by omega,by simp only[G0h];omega⟩]
    rw[show k-(off+j)=k-(off+(j+1))+1 from by omega,G0y]
   rw[if_neg a,if_neg (by simp only[G0h];omega),G4g,if_neg (by omega)]
theorem J6w(cs ps:List PV)(off k:Nat)(h:off+ps.length<=cs.length):(Q1g cs off ps)[k]?=if off<=k/\k<off+ps.length then ps[k-off]? else cs[k]?:=by
 unfold Q1g
 have a:(cs.take off).length=off:=by rw[G1h];omega
 by_cases b:k<off
 ·rw[if_neg (by omega),G0z,G0l (by omega),G1l,if_pos b]
 rw[G0z,G0m (by omega),a]
 by_cases d:k<off+ps.length
 ·rw[if_pos ⟨by omega,d⟩,G0l (by omega)]
 rw[if_neg (by omega),G0m (by omega),G1u]
 congr 1
 omega
theorem X1y(cs ps:List PV)(off:Nat)(h:off+ps.length<=cs.length):(Q1g cs off ps).length=cs.length:=by
 unfold Q1g
 simp only[G0i,G1h,G0p]
 omega
theorem Z8n(u:OInv E γ H Φ w)(n:List (Nat×Nat))(f:Nat->Option (Nat×Nat))(y:∀ (i:Nat) p,n[i]?=some p->f i=some p):
 ∀ (e:List (Nat×AV)) (vparts:List (Nat×Value)) (cs:List PV) (vs:Array Value) (r:List PV),vparts.length=e.length->
  (∀ (j:Nat) (p:Nat×AV) (q:Nat×Value),e[j]?=some p->vparts[j]?=some q->q.1=p.1/\ARel γ H Φ w q.2 p.2)->Q1h Φ w vs.toList cs->
  Z7r H n cs e=some r->∃us,Instr.fill f vs vparts=some us/\Q1h Φ w us.toList r
 | [],vparts,cs,vs,r,g,_,o,h=>by
   simp only[Z7r,G0b]at h
   subst h
   cases vparts with
   | nil=>exact⟨vs,rfl,o⟩
   | cons a b=>simp at g
 | (i,v)::e,[],cs,vs,r,g,_,_,_=>by simp at g
 | (i,v)::e,(i',v')::vparts,cs,vs,r,g,z,o,h=>by
   simp only[Z7r]at h
   split at h
   ·rename_i off sz p F I
    split at h
    ·rename_i s
     obtain⟨s,aa⟩:=s
     obtain⟨A,J⟩:=z 0 (i,v) (i',v') rfl rfl
     simp only at A
     subst A
     have K:=Q1q u J I
     obtain⟨C,L,M⟩:=Q4x K
     have N:v'.cells.size=sz:=by rw[<-s,<-C];simp
     obtain⟨O,P,Q⟩:=o
     have S:vs.size=cs.length:=by rw[<-O];simp
     obtain⟨T,U⟩:=Z4x off v'.cells.toList 0 vs (by simp;omega)
     have V:v'.cells.zipIdx.foldl (λcs (c,j)=>cs.setIfInBounds (off+j) c) vs=(v'.cells.toList.zipIdx 0).foldl (λcs (c,j)=>cs.setIfInBounds (off+j) c) vs:=by
      rw[<-G6l,G6i]
     have W:Instr.fill f vs ((i',v')::vparts)=Instr.fill f ((v'.cells.toList.zipIdx 0).foldl (λcs (c,j)=>cs.setIfInBounds (off+j) c) vs) vparts:=by
      rw[<-V]
      simp only[Instr.fill,y _ _ F]
      rw[if_neg]
      simp only[N,ne_eq,G3w,G6c,G1p,G0s]
      omega
     rw[W]
     have t:off+p.cells.length<=cs.length:=by omega
     refine Z8n u n f y e vparts _ _ r (by simpa using g) (λj a b X hb=>z (j+1) a b (by simpa using X) (by simpa using hb)) ⟨?_,λc d=>?_,λk x c l d=>?_⟩ h
     ·rw[G1j,T,X1y _ _ _ t,S]
     ·obtain⟨k,hk,Y⟩:=G2e d
      have m:(Q1g cs off p.cells)[k]?=some c:=by rw[G0c hk,Y]
      rw[J6w _ _ _ _ t]at m
      split at m
      ·exact L c (G0r m)
      exact P c (G0r m)
     rw[G1z,U k]at l
     rw[J6w _ _ _ _ t]at d
     have ac:v'.cells.toList.length=p.cells.length:=C
     by_cases D:off<=k/\k<off+p.cells.length
     ·rw[if_pos ⟨by omega,by omega⟩]at l
      rw[if_pos D]at d
      exact M _ x c l d
     rw[if_neg (by omega)]at l
     rw[if_neg D]at d
     exact Q k x c (by rw[G1z];exact l) d
    cases h
   cases h
theorem J2k(F:OInv E γ H Φ w){t:TypeId}{b:List (Nat×AV)}{vparts:Array (Nat×Value)}(I:vparts.size=b.length)
 (J:∀ (j:Nat) (p:Nat×AV) (q:Nat×Value),b[j]?=some p->vparts[j]?=some q->q.1=p.1/\ARel γ H Φ w q.2 p.2) {r:AV} (h:Z5o E.T H t b=some r):
 ∃u,(Instr.build t vparts).run E.P w=.ok u w/\ARel γ H Φ w u r:=by
 unfold Z5o at h
 split at h
 ·rename_i a _ _ z hT
  obtain⟨cs,K,rfl⟩:=G0g.1 h
  obtain⟨i,d,L,hs,_,hd,hk,M⟩:=(E.hT _ _ hT).info
  obtain⟨fields,rfl,N,O⟩:=Q6z hk
  obtain⟨zv,P,Q,_,x,_⟩:=M z rfl
  have S:∀ (l:List Field) (k:Nat),(∀ (j:Nat) f,l[j]?=some f->fields[k+j]?=some f)->
   (l.mapM (λf=>do pure (f.offset,<-sizeOf f.type):Field->Sem (Nat×Nat))).run E.P w=.ok ((a.drop k).take l.length) w:=by
   intro l
   induction l with
   | nil=>intro k _;simp
   | cons f l T=>
     intro k e
     have m:=e 0 f rfl
     rw[G2j]at m
     have y:k<a.length:=by
      have:=(G1b.1 m).1
      omega
     obtain⟨U,fi,V,W⟩:=O k f a[k] m (G0c y)
     have A:=T (k+1) (λj g X=>by
      have:=e (j+1) g (by simpa using X)
      rw[show k+1+j=k+(j+1) from by omega]
      exact this)
     have C:(do pure (f.offset,<-sizeOf f.type):Sem (Nat×Nat)).run E.P w=.ok a[k] w:=by
      simp[Q1f V,U,W]
     simp only[bind]at A
     simp only[G6s,bind,Sem.run_bind']at C |-
     rw[C]
     simp only[Result.andThen_ok,A]
     rw[G2p y,G0h,G3r]
     rfl
  have D:(fields.mapM (λf=>do pure (f.offset,<-sizeOf f.type):Field->Sem (Nat×Nat))).run E.P w=.ok a.toArray w:=by
   have:=S fields.toList 0 (λj f e=>by simpa using e)
   rw[G4b,Sem.run_map,this]
   simp[N]
  have Y:∀c∈z,c.one=true:=λc n=>by
   obtain⟨k,aa,ac⟩:=G2e n
   have ad:k<zv.cells.toList.length:=by omega
   exact(x k zv.cells.toList[k] c (G0c ad) (by rw[G0c aa,ac])).1
  obtain⟨us,ae,o⟩:=Z8n F a (a.toArray[·]?) (λi p s=>by simpa using s) b vparts.toList z zv.cells cs (by simpa using I)
   (λj p q s hq=>J j p q s (by simpa using hq)) ⟨Q,Y,λk v c hv n=>(x k v c hv n).2.1 Φ w⟩ K
  refine⟨.agg us,?_,.pv (.agg us.toList cs o.1 o.2.1 o.2.2)⟩
  unfold Instr.build
  simp only[bind]at D
  simp only[bind,Sem.run_bind']
  have ag:(zeroValue t).run E.P w=.ok zv w:=by simp[zeroValue,typeInfo,L,P]
  simp only[ag,Result.andThen_ok,run_underlying hd,Sem.run_bind',D]
  rw[ae]
  rfl
 cases h
end
end Go.Abs
namespace Go.Abs
open Go.RowKit
section
variable {E:Env}{γ:List Gh}{H:List AObj}{Φ:Nat->Nat->Prop}{w:World}
theorem J8j{t:TypeId}{ti:TI}(hT:TOne E.P t ti){z:PV}(h:J6f ti=some z):∃v,(zeroValue t).run E.P w=.ok v w/\∀ (Φ:Nat->Nat->Prop) (w:World),Rep Φ w v z:=by
 obtain⟨i,d,n,hs,_,hd,hk,o⟩:=hT.info
 unfold J6f at h
 split at h
 ·rename_i g a q j
  simp only[G0b]at h
  subst h
  obtain⟨zv,l,p,_,f,m,_⟩:=o a j
  obtain⟨cs,rfl⟩:=m g q
  refine⟨_,by simp[zeroValue,typeInfo,n,l],λΦ w=>.agg cs.toList a p (λc b=>?_) (λk v c r b=>(f k v c r b).2.1 Φ w)⟩
  obtain⟨k,s,u⟩:=G2e b
  have x:k<(Value.agg cs).cells.toList.length:=by omega
  exact(f k _ c (G0c x) (by rw[G0c s,u])).1
 ·cases h
 ·rename_i a j k1 k2
  simp only[G0b]at h
  subst h
  obtain⟨zv,l,p,_,f,_,m⟩:=o [a] j
  refine⟨zv,by simp[zeroValue,typeInfo,n,l],λΦ w=>?_⟩
  have b:=m (λg e=>k1 g e)
  exact(f 0 zv a (by rw[b];rfl) rfl).2.1 Φ w
 cases h
end
end Go.Abs
namespace Go.Abs
open Go.RowKit
section
variable {E:Env}{γ:List Gh}{H:List AObj}{Φ:Nat->Nat->Prop}{w:World}
theorem J9b(q:OInv E γ H Φ w){k t:TypeId}{v:Value}{x r:AV}(i:ARel γ H Φ w v x)(h:qlen E.T H k x=some r):
 ∃u,(Builtin.len_ #[k] t #[v]).run E.P w=.ok u w/\ARel γ H Φ w u r:=by
 unfold qlen at h
 split at h
 ·rename_i hT
  obtain⟨d,hd,hk⟩:=(E.hT _ _ hT).und
  have f:=Z3g hk
  rw[f]at hd
  split at h
  ·simp only[G0b]at h
   subst h
   have:=Q2a (Q0o i)
   subst this
   exact⟨_,by simp[Builtin.len_,run_underlying hd,goInt];rfl,.pv (.int _ _)⟩
  cases h
 ·rename_i hT
  obtain⟨d,hd,hk⟩:=(E.hT _ _ hT).und
  have f:=Q3u hk
  rw[f]at hd
  have j:∀A n c,(Builtin.len_ #[k] t #[.slice A n c]).run E.P w=.ok (.int .i64 n) w:=λA n c=>by
   simp[Builtin.len_,run_underlying hd,goInt]
  split at h
  ·simp only[G0b]at h
   subst h
   cases Q0o i with
   | sliceNil=>exact⟨_,j _ _ _,.pv (.int _ _)⟩
   | sliceAny A cap s=>exact⟨_,j _ _ _,.pv (.int _ _)⟩
   | slice b o len cap sz xs vs y K s m L M N=>exact⟨_,j _ _ _,by rw[y];exact .pv (.int _ _)⟩
  ·simp only[G0b]at h
   subst h
   cases i with
   | vec A l n cap e sz len hrow O P Q=>exact⟨_,j _ _ _,.pv (.int _ _)⟩
  cases h
 ·rename_i hT
  obtain⟨d,hd,hk⟩:=(E.hT _ _ hT).und
  have f:=K5r hk
  rw[f]at hd
  split at h
  ·rename_i l
   split at h
   ·rename_i S z
    simp only[G0b]at h
    subst h
    obtain⟨g,C,b,p,D,F,_,hb,m,T,_⟩:=q.gh z
    cases i with
    | mref b' l a=>
      have I:b'=b:=by
       simp only[gv,C,G0w,G0b]at a
       rw[F]at a
       injection a with a
       injection a with a
       exact a.symm
      subst I
      have J:(getObj b').run E.P w=.ok (.map p D) w:=by simp[getObj,Sem.run,hb]
      refine⟨.int .i64 p.size,by simp[Builtin.len_,run_underlying hd,J,goInt],?_⟩
      rw[m]
      exact .pv (.int _ _)
   cases h
  cases h
 cases h
theorem J4j{f dst:TypeId}{v:Value}{x r:AV}(g:ARel γ H Φ w v x)(h:J9c E.T f dst x=some r):
 ∃u,(convert f dst v).run E.P w=.ok u w/\ARel γ H Φ w u r:=by
 unfold J9c at h
 split at h
 ·rename_i hs hd
  obtain⟨i,a,d⟩:=(E.hT _ _ hs).und
  obtain⟨j,b,e⟩:=(E.hT _ _ hd).und
  rw[J6h d]at a
  rw[J6h e]at b
  simp only[G0b]at h
  subst h
  have:=Q2t (Q0o g)
  subst this
  exact⟨_,by simp[convert,run_underlying a,run_underlying b,Conv.intToInt],.pv (.int _ _)⟩
 ·rename_i hs hd
  obtain⟨i,a,d⟩:=(E.hT _ _ hs).und
  obtain⟨j,b,e⟩:=(E.hT _ _ hd).und
  rw[Z3g d]at a
  rw[Z3g e]at b
  simp only[G0b]at h
  subst h
  have:=Q2a (Q0o g)
  subst this
  exact⟨_,by simp[convert,run_underlying a,run_underlying b],.pv (.str _)⟩
 cases h
theorem Q8s:∀ {xs:List PV} {s:List UInt8},Q8t xs=some s->s.length=xs.length/\∀ (k:Nat) c,s[k]?=some c->xs[k]?=some (.int .u8 (c.toNat:Int))
 | [],s,h=>by
   simp only[Q8t,G0b]at h
   subst h
   exact⟨rfl,λk c a=>by simp at a⟩
 | x::xs,s,h=>by
   unfold Q8t at h
   split at h
   ·rename_i e
    cases e
   ·rename_i n r e
    injection e with b d
    subst b d
    split at h
    ·rename_i f
     obtain⟨l,g,rfl⟩:=G0g.1 h
     obtain⟨i,j⟩:=Q8s g
     refine⟨by simp[i],λk c a=>?_⟩
     cases k with
     | zero=>
       simp only[G0n,G0b]at a |-
       subst a
       have:(UInt8.ofNat n.toNat).toNat=n.toNat % 256:=rfl
       rw[this,G6w (by omega),G4w f.1]
     | succ k=>
       rw[G0y]at a |-
       exact j k c a
    cases h
   cases h
theorem J2j(K:OInv E γ H Φ w){a dst:TypeId}{v:Value}{l n:Nat}{r:AV}(L:ARel γ H Φ w v (.vec l n))(h:J6v E.T H a dst l n=some r):
 ∃u,(convert a dst v).run E.P w=.ok u w/\ARel γ H Φ w u r:=by
 unfold J6v at h
 split at h
 ·rename_i e _ _ _ _ _ _ e' xs fz hs hd q
  split at h
  ·rename_i f
   obtain⟨i,M⟩:=f
   obtain⟨s,hb,rfl⟩:=G0g.1 h
   obtain⟨N,O⟩:=Q8s hb
   obtain⟨d1,k,P⟩:=(E.hT _ _ hs).und
   obtain⟨d2,m,Q⟩:=(E.hT _ _ hd).und
   rw[Q3u P]at k
   rw[Z3g Q]at m
   have t:E.P.underlying e=some (.int .u8):=by
    unfold isU8 at i
    split at i
    ·rename_i S
     obtain⟨d3,x,T⟩:=(E.hT _ _ S).und
     rw[J6h T]at x
     exact x
    cases i
   obtain⟨g,U,V⟩:=K.gh q
   obtain⟨cells,y,aj,W,z,h1,_,_,_⟩:=V
   have al:=Q0j z
   cases L with
   | vec A _ _ cap e0 ao len0 hrow aq hA X=>
     have hre:=Q2h q
     rw[hrow]at hre
     injection hre with hre
     injection hre with _ hre
     injection hre with _ au
     have d:=X (by omega)
     simp only[gv,U,G0w,G0b]at d
     rcases y.2 with⟨C,hz⟩|⟨b,aw,ax,D,_⟩
     ·have Y:s=[]:=G1g (by omega)
      rw[d]at C
      injection C with o F p
      subst o F p
      refine⟨.string ⟨#[]⟩,?_,by rw[Y];exact .pv (.str [])⟩
      rw[run_convert_bytes_string w a dst e none 0 0 k t m]
      simp[Conv.bytesToString]
      rfl
     rw[d]at D
     injection D with o F p
     subst o p
     refine⟨.string ⟨s.toArray⟩,?_,.pv (.str s)⟩
     rw[<-M,<-N]
     refine run_convert_bytes_back w a dst e ⟨b,0,none⟩ cap s k t m λj hj=>?_
     have I:j<cells.length:=by omega
     have f:=y.cells (g:=b) (by rw[d];rfl) j cells[j] (G0c I)
     rw[f]
     have ac:=O j s[j] (G0c hj)
     have J:=Q2j z j 0 _ ac (by omega)
     rw[G6j,G2j]at J
     have hr:=W j cells[j] (.int .u8 (s[j].toNat:Int)) (G0c I) (by rw[J];rfl)
     rw[Q2t hr]
  cases h
 cases h
theorem Z6l:∀ {xs:List PV} {s:List UInt8},Q8t xs=some s->∀x∈xs,x.cells.length=1
 | [],s,h,x,a=>by simp at a
 | y::xs,s,h,x,a=>by
   unfold Q8t at h
   split at h
   ·rename_i e
    cases e
   ·rename_i n r e
    injection e with b d
    subst b d
    split at h
    ·obtain⟨g,f,rfl⟩:=G0g.1 h
     rcases G1q.1 a with rfl|a
     ·rfl
     exact Z6l f x a
    cases h
   cases h
theorem J0a{a dst:TypeId}{v:Value}{xs:List PV}{r:AV}(z:ARel γ H Φ w v (.full xs))(h:J4l E.T a dst xs=some r):
 ∃u,(convert a dst v).run E.P w=.ok u w/\ARel γ H Φ w u r:=by
 unfold J4l at h
 split at h
 ·rename_i e _ _ _ _ _ _ hs hd
  split at h
  ·rename_i g
   obtain⟨s,hb,rfl⟩:=G0g.1 h
   obtain⟨q,C⟩:=Q8s hb
   obtain⟨P,d,D⟩:=(E.hT _ _ hs).und
   obtain⟨Q,f,F⟩:=(E.hT _ _ hd).und
   rw[Q3u D]at d
   rw[Z3g F]at f
   have i:E.P.underlying e=some (.int .u8):=by
    unfold isU8 at g
    split at g
    ·rename_i I
     obtain⟨S,t,J⟩:=(E.hT _ _ I).und
     rw[J6h J]at t
     exact t
    cases g
   have x:=Z6l hb
   have T:=Q0j x
   cases z with
   | full A n _ k=>
     cases k with
     | sliceNil=>
       have l:s=[]:=G1g q
       refine⟨.string ⟨#[]⟩,?_,by rw[l];exact .pv (.str [])⟩
       rw[run_convert_bytes_string w a dst e none 0 0 d i f]
       simp[Conv.bytesToString]
       rfl
     | sliceAny A K=>
       have l:s=[]:=G1g q
       subst l
       exact⟨.string ⟨([]:List UInt8).toArray⟩,run_convert_bytes_back w a dst e A 0 [] d i f (λj m=>by simp at m),.pv (.str [])⟩
     | slice b o len cap sz _ vs U p K V W L k=>
       refine⟨.string ⟨s.toArray⟩,?_,.pv (.str s)⟩
       have M:n=s.length:=by omega
       subst M
       refine run_convert_bytes_back w a dst e ⟨b,o,none⟩ _ s d i f λj m=>?_
       have N:=C j s[j] (G0c m)
       have y:=Q2j x j 0 _ N (by omega)
       rw[G6j,G2j]at y
       have O:=k j (.int .u8 (s[j].toNat:Int)) (by rw[y];rfl)
       have p:=(L j (by omega)).2
       rw[Q2t O]at p
       rw[Addr.add_lit];exact p
  cases h
 cases h
theorem J2i(d:OInv E γ H Φ w){b dst:TypeId}{v:Value}{x r:AV}(a:ARel γ H Φ w v x)(h:Z8f E.T H b dst x=some r):
 ∃u,(convert b dst v).run E.P w=.ok u w/\ARel γ H Φ w u r:=by
 cases x with
 | vec l n=>exact J2j d a h
 | full xs=>exact J0a a h
 | _=>exact J4j a h
theorem Q0t{s:Sem Value}{u:Value}{w':World}(h:s.run E.P w=.ok u w'):(do pure (Next.value (<- s)):Sem Next).run E.P w=.ok (.value u) w':=by
 simp only[bind,Sem.run_bind',h,Result.andThen_ok]
 rfl
theorem K2d(D:OInv E γ H Φ w){a:Act}{t:Nat->AV}(hs:Slots γ H Φ w a t){o:Oper}{r:AV}(h:qval E.T t H o.op=some r):
 ∃u,(execOp a.eval o).run E.P w=.ok (.value u) w/\ARel γ H Φ w u r:=by
 unfold qval at h
 unfold execOp
 split at h
 ·rename_i x d
  simp only[G0b]at h
  subst h
  exact⟨a.eval x,by simp only[d];rfl,Q0s hs x⟩
 ·rename_i x d
  simp only[G0b]at h
  subst h
  exact⟨a.eval x,by simp only[d];rfl,Q0s hs x⟩
 ·rename_i c x y d
  split at h
  ·rename_i b T
   simp only[G0b]at h
   subst h
   have M:=Q0s hs c
   rw[T]at M
   have U:=Q9g (Q0o M)
   refine⟨if b then a.eval x else a.eval y,by simp only[d,U];rfl,?_⟩
   cases b
   ·exact Q0s hs y
   exact Q0s hs x
  cases h
 ·rename_i op n x y yt d
  obtain⟨u,e,g⟩:=J9e op n x y (Q0s hs x) (Q0s hs y) h
  exact⟨u,by simp only[d];exact Q0t e,g⟩
 ·rename_i op n x d
  obtain⟨u,e,g⟩:=X1r (E:=E) op (Q0s hs x) h
  exact⟨u,by simp only[d];exact Q0t e,g⟩
 ·rename_i n x d
  obtain⟨u,e,g⟩:=Z8i D (Q0s hs x) h
  exact⟨u,by simp only[d];exact Q0t e,g⟩
 ·rename_i n x f d
  obtain⟨u,e,g⟩:=Z4g (Q0s hs x) h
  exact⟨u,by simp only[d];exact Q0t e,g⟩
 ·rename_i n x i d
  obtain⟨u,e,g⟩:=Z4f (X2f (Q0s hs x)) (Q0s hs i) h
  exact⟨u,by simp only[d];exact Q0t e,g⟩
 ·rename_i n x i d
  obtain⟨u,e,g⟩:=J2f (Q0s hs x) (Q0s hs i) h
  exact⟨u,by simp only[d];exact Q0t e,g⟩
 ·rename_i n x I C d
  have N:∀ (o:Option Operand) (b:AV) (c:Value),o.map (ev t)=some b->o.map a.eval=some c->ARel γ H Φ w c b:=by
   intro o b c J O
   cases o with
   | none=>cases J
   | some z=>
     simp only[G0w,G0b]at J O
     rw[<-J,<-O]
     exact Q0s hs z
  obtain⟨u,e,g⟩:=J1z D (vlo:=I.map a.eval) (vhi:=C.map a.eval) (Q0s hs x) (N I) (by cases I<;>simp) (N C) (by cases C<;>simp) h
  exact⟨u,by simp only[d];exact Q0t e,g⟩
 ·rename_i x i d
  have m:=Q0s hs x
  unfold Z4q at h
  split at h
  ·rename_i vs s
   rw[s]at m
   generalize V:a.eval x=y at m
   cases m with
   | tup K vs hl W=>
     have C:i<K.length:=by
      have:=(G0f.1 h).1
      omega
     refine⟨K[i],?_,W i K[i] r (G0c C) h⟩
     simp only[d,V]
     refine Q0t ?_
     simp[Instr.extract,C]
  cases h
 ·rename_i n X d
  obtain⟨u,e,g⟩:=J2k D (vparts:=X.map λ(p:Nat×Operand)=>(p.1,a.eval p.2)) (by simp) (λj p q P hq=>by
   rw[G0x]at P
   rw[Array.getElem?_map]at hq
   obtain⟨z,Q,rfl⟩:=G0g.1 P
   rw[G1z]at Q
   rw[Q]at hq
   simp only[G0w,G0b]at hq
   subst hq
   exact⟨rfl,Q0s hs z.2⟩) h
  exact⟨u,by simp only[d];exact Q0t e,g⟩
 ·rename_i x d
  have m:=Q0s hs x
  refine⟨a.eval x,?_,?_⟩
  ·simp only[d]
   generalize a.eval x=y at m |-
   generalize ev t x=z at m h
   unfold qnil at h
   cases m<;>first|rfl|simp at h
  generalize ev t x=z at m h
  unfold qnil at h
  split at h<;>first|(simp only[G0b]at h;subst h;exact m)|cases h
 ·rename_i au dst x d
  obtain⟨u,e,g⟩:=J2i D (Q0s hs x) h
  exact⟨u,by simp only[d];exact Q0t e,g⟩
 ·rename_i args S d
  split at h
  ·rename_i x n m Y
   have ha:args=#[x]:=by rw[<-G3l (xs:=args),m]
   have hat:S=#[n]:=by rw[<-G3l (xs:=S),Y]
   subst ha;subst hat
   obtain⟨u,e,g⟩:=J9b D (t:=o.type) (X2f (Q0s hs x)) h
   refine⟨u,?_,g⟩
   simp only[d,resolve,bind,Sem.run_bind']
   simp only[pure,Sem.run_pure',Result.andThen_ok,invoke,builtin]
   exact Q0t (by simpa using e)
  cases h
 ·rename_i f first caps d
  split at h
  ·rename_i h0
   obtain⟨A,ad,rfl⟩:=G0g.1 h
   have hf:first=#[]:=Array.eq_empty_of_size_eq_zero h0
   subst hf
   have af:∀ (xs:List Operand) (A:List Nat),Z1f (xs.map (ev t))=some A->(xs.map a.eval).length=A.length/\∀ (k:Nat) v l,(xs.map a.eval)[k]?=some v->A[k]?=some l->∃b,v=.pointer (some ⟨b,0,none⟩)/\gv γ l=some v:=by
    intro xs
    induction xs with
    | nil=>
      intro A h
      simp only[G2h,Z1f,G0b]at h
      subst h
      exact⟨rfl,λk v l s=>by simp at s⟩
    | cons x xs ih=>
      intro A h
      have m:=Q0s hs x
      rw[G2g]at h
      generalize ev t x=y at m h
      unfold Z1f at h
      split at h
      ·rename_i L
       cases L
      ·rename_i l r L
       injection L with e1 e2
       subst e1 e2
       obtain⟨ak,al,rfl⟩:=G0g.1 h
       obtain⟨i1,i2⟩:=ih ak al
       refine⟨by simp[i1],λk v l' s F=>?_⟩
       cases k with
       | zero=>
         simp only[G2g,G0n,G0b]at s F
         subst s F
         generalize a.eval x=u at m
         cases m with
         | ref b l off hg=>exact⟨b,rfl,hg⟩
       | succ k=>
         rw[G2g,G0y]at s
         rw[G0y]at F
         exact i2 k v l' s F
      cases h
   obtain⟨k1,k2⟩:=af caps.toList A ad
   refine⟨.func (.func f) #[] (caps.map a.eval),by simp only[d];exact Q0t (by simp[Instr.makeFunc]),?_⟩
   have:caps.map a.eval=⟨caps.toList.map a.eval⟩:=by rw[<-Array.toList_map]
   rw[this]
   exact .fn f _ A k1 k2
  cases h
 cases h
end
end Go.Abs
