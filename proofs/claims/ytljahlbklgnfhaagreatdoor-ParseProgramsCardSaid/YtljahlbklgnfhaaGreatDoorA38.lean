import Derived.Test.YtljahlbklgnfhaaGreatDoorA43
import Derived.Laws.MakeOwn
import GoSem.Core.Utf8
set_option linter.unusedVariables false
set_option linter.unusedSimpArgs false
set_option linter.defProp false
namespace Go.Abs
open Go.RowKit
def one1:AV->Bool
 | .pv p=>p.one
 | .vec _ _|.ref _ _|.mref _|.nils|.full _=>true
 | _=>false
theorem X7d{a:AV}(h:one1 a=true):a.isS=false:=by cases a<;>first|rfl|cases h
def J3a(E:Env)(H:List AObj)(a:TypeId)(p x:AV):Option (List AObj):=
 match E.T a with
 | none=>none
 | some ti=>match p with
   | .ref l o=>match H[l]? with
     | some (.var cs)=>match ti.k with
       | .strct _=>match x with
         | .pv (.agg ps)=>if ps.length=ti.size/\o+ti.size<=cs.length then some (H.set l (.var (cs.take o++ps.map AV.pv++cs.drop (o+ti.size))))else none
         | .agg us=>if us.length=ti.size/\o+ti.size<=cs.length/\noS us=true then some (H.set l (.var (cs.take o++us++cs.drop (o+ti.size))))else none
         | _=>none
       | .other=>none
       | _=>if o<cs.length/\one1 x=true/\ti.size=1 then some (H.set l (.var (cs.set o x)))else none
     | _=>none
   | .vptr l n i o=>match H[l]?,toPV H x with
     | some (.row e sz xs false),some q=>match xs[i]? with
       | some y=>if n=xs.length/\q.cells.length=ti.size then match y with
          | .agg cs=>if o+ti.size<=cs.length then some (H.set l (.row e sz (xs.set i (.agg (Q1g cs o q.cells))) false))else none
          | _=>if o=0/\ti.size=1/\q.one=true then some (H.set l (.row e sz (xs.set i q) false))else none
         else none
       | none=>none
     | some (.tree e sz off b d m xs),none=>Z5d ti H l n i o e sz off b d m xs x
     | some (.hrow e sz xs j off _ _),some q=>Z5f ti H l n i o e sz xs j off q
     | _,_=>none
   | _=>none
def X8a(H:List AObj)(_:TypeId):Option (AV×List AObj):=some (.mref H.length,H++[.map []])
section
variable {E:Env}{γ:List Gh}{H:List AObj}{Φ:Nat->Nat->Prop}{w:World}
theorem J9i{v:Value}{x:AV}(d:ARel γ H Φ w v x)(h:one1 x=true):v.oneCell'=true/\v.cells=#[v]:=by
 cases d with
 | @pv v p a=>
   have b:=a.one h
   refine⟨b,?_⟩
   cases a<;>first|rfl|(simp[Value.oneCell']at b)
 | vec=>exact⟨rfl,rfl⟩
 | ref=>exact⟨rfl,rfl⟩
 | mref=>exact⟨rfl,rfl⟩
 | selfp=>exact⟨rfl,rfl⟩
 | nils=>exact⟨rfl,rfl⟩
 | full=>exact⟨rfl,rfl⟩
 | any=>simp[one1]at h
 | ifc=>simp[one1]at h
 | pptr=>simp[one1]at h
 | vptr=>simp[one1]at h
 | tup=>simp[one1]at h
 | agg=>simp[one1]at h
 | fn=>simp[one1]at h
theorem Q5r{t:TypeId}{i:TypeInfo}(f:E.P.info? t=some i)(b o:Nat)(T:TypeId)(a:Array Value)(hb:w.heap[b]?=some (.cells a T (0,0)))(v:Value)(d:v.cells.size=i.size)
 (g:∀u∈v.cells.toList,u.oneCell'=true) (j:o+v.cells.size<=a.size):
 (Instr.storeAt t (.pointer (some ⟨b,o,none⟩)) v).run E.P w=.ok () (w.setRow b (a.toList.take o++v.cells.toList++a.toList.drop (o+v.cells.size)).toArray):=by
 have e:=run_storeCells_at E.P b o T v.cells.toList 0 a w hb (by simpa using j) g
 simp only[G2j,G1j]at e
 unfold Instr.storeAt storeVar
 simp only[bind,Sem.run_bind',Instr.sureAddr,pure,Sem.run_pure',Result.andThen_ok,Q1f f,d,ne_eq,G3w,G2i]
 rw[e]
 rw[<-d]
theorem Z5h(b c:Nat)(cs:Array Value)(h:c≠b):(w.setRow b cs).heap[c]?=w.heap[c]?:=setRow_other w b c cs h
theorem J2z(t:OInv E γ H Φ w){ty:TypeId}{a v:Value}{p x:AV}{H':List AObj}(ha:ARel γ H Φ w a p)(M:ARel γ H Φ w v x)(h:J3a E H ty p x=some H'):
 ∃w',(Instr.storeAt ty a v).run E.P w=.ok () w'/\∃ay Φ',Ok E γ H Φ w ay H' Φ' w':=by
 unfold J3a at h
 split at h
 ·cases h
 rename_i ti hT
 obtain⟨i,d,hi,J,_,hd,hk,_⟩:=(E.hT _ _ hT).info
 split at h
 ·rename_i l o
  split at h
  ·rename_i cs C
   obtain⟨g,N,b,T,vs,hv,ho,hb,hl,S,U⟩:=t.gh C
   have a5:a=.pointer (some ⟨b,o,none⟩):=by
    cases ha with
    | ref b' l off s=>
      simp only[gv,N,G0w,G0b]at s
      rw[hv]at s
      injection s with s
      injection s with s
      injection s with s
      rw[s]
   subst a5
   have bL:l<H.length:=(G0f.1 C).1
   have P:∀ (cs':List AV) (Q:List Value),Q.length=cs'.length->(∀ (k:Nat) u c,Q[k]?=some u->cs'[k]?=some c->u.oneCell'=true/\ARel γ H Φ w u c)->(∀c∈cs',c∈cs\/c.isS=false)->
    Ok E γ H Φ w (γ.set l g) (H.set l (.var cs')) Φ (w.setRow b ⟨Q⟩):=by
    intro cs' Q a6 aM a7
    have ag:=setRow_heap w b ⟨vs⟩ ⟨Q⟩ T (0,0) hb
    refine t.setObj (o':=.var cs') (g':=g) C N (λc f aB=>Z5h b c _ (λe=>aB (by rw[ho,e];simp))) (by simp) rfl rfl rfl (λ_ _ h=>h) (λ_ _ h _ _=>h) (λc k h=>by simpa using t.phi c k h)
     (λc k aC f=>by rw[ho]at f;simp at f;subst f;exact absurd aC (U.1 k)) (λc f=>⟨.inl f,by simpa using(t.own l g N c f).2⟩) (.inl rfl) (λ_ _ _ h=>by cases h) (λhE=>⟨b,T,Q,hv,ho,ag,a6,λk u c m f=>⟨(aM k u c m f).1,(aM k u c m f).2.mono hE⟩,U.1,λc f hs=>(a7 c f).elim (λh=>U.2 c h hs) (λh=>by rw[h]at hs;cases hs)⟩)
   split at h
   ·split at h
    ·rename_i ps
     split at h
     ·rename_i f
      obtain⟨a8,aD⟩:=f
      simp only[G0b]at h
      subst h
      cases Q0o M with
      | agg us bM V W aj=>
        have r:(Value.agg ⟨us⟩).cells.size=i.size:=by simp[Value.cells];omega
        have D:=Q5r (E:=E) (w:=w) hi b o T ⟨vs⟩ hb (.agg ⟨us⟩) r (λu m=>by
         obtain⟨k,hk,X⟩:=G2e m
         have a9:k<us.length:=by simpa[Value.cells]using hk
         have ba:us[k]=u:=by simpa[Value.cells]using X
         rw[<-ba]
         exact(aj k us[k] (ps[k]'(by omega)) (G0c a9) (G0c (by omega))).one (W _ (G2u _))) (by rw[r,J];simp;omega)
        have K:(Value.agg ⟨us⟩).cells.size=ti.size:=by rw[r,J]
        rw[K]at D
        refine⟨_,D,_,_,P (cs.take o++ps.map AV.pv++cs.drop (o+ti.size)) (vs.take o++us++vs.drop (o+ti.size)) (by simp[hl,V]) (λk u c m f=>?_) (λc f=>by
         rcases G2v.1 f with f|f
         ·rcases G2v.1 f with f|f
          ·exact .inl (G3p f)
          obtain⟨q,_,rfl⟩:=G3i.1 f;exact .inr rfl
         exact .inl (G3k f))⟩
        have aE:(vs.take o).length=o:=by rw[G1h];omega
        have aF:(cs.take o).length=o:=by rw[G1h];omega
        by_cases Y:k<o
        ·rw[G0z,G0l (by omega),G1l,if_pos Y]at m f
         exact S k u c m f
        rw[G0z,G0m (by omega)]at m f
        rw[aE]at m
        rw[aF]at f
        by_cases aa:k-o<us.length
        ·rw[G0l aa]at m
         rw[G0l (by simp;omega),G0x]at f
         obtain⟨q,hq,rfl⟩:=G0g.1 f
         have aN:=aj (k-o) u q m hq
         exact⟨aN.one (W q (G0r hq)),.pv aN⟩
        rw[G0m (by omega),G1u]at m
        rw[G0m (by simp;omega),G1u,G1m]at f
        have aG:us.length=ps.length:=V
        exact S _ u c m (by rw[aG];exact f)
     cases h
    ·rename_i ps
     split at h
     ·rename_i f
      obtain⟨a8,aD,bb⟩:=f
      simp only[G0b]at h
      subst h
      cases M with
      | agg us _ V W aj=>
        have r:(Value.agg ⟨us⟩).cells.size=i.size:=by simp[Value.cells];omega
        have D:=Q5r (E:=E) (w:=w) hi b o T ⟨vs⟩ hb (.agg ⟨us⟩) r (λu m=>W u (by simpa[Value.cells]using m)) (by rw[r,J];simp;omega)
        have K:(Value.agg ⟨us⟩).cells.size=ti.size:=by rw[r,J]
        rw[K]at D
        refine⟨_,D,_,_,P (cs.take o++ps++cs.drop (o+ti.size)) (vs.take o++us++vs.drop (o+ti.size)) (by simp[hl,V]) (λk u c m f=>?_) (λc f=>by
         rcases G2v.1 f with f|f
         ·rcases G2v.1 f with f|f
          ·exact .inl (G3p f)
          exact .inr (J4p bb c f)
         exact .inl (G3k f))⟩
        have aE:(vs.take o).length=o:=by rw[G1h];omega
        have aF:(cs.take o).length=o:=by rw[G1h];omega
        by_cases Y:k<o
        ·rw[G0z,G0l (by omega),G1l,if_pos Y]at m f
         exact S k u c m f
        rw[G0z,G0m (by omega)]at m f
        rw[aE]at m
        rw[aF]at f
        by_cases aa:k-o<us.length
        ·rw[G0l aa]at m
         rw[G0l (by omega)]at f
         exact⟨W u (G0r m),aj (k-o) u c m f⟩
        rw[G0m (by omega),G1u]at m
        rw[G0m (by omega),G1u]at f
        have aG:us.length=ps.length:=V
        exact S _ u c m (by rw[aG];exact f)
     cases h
    cases h
   ·cases h
   rename_i k1 k2
   split at h
   ·rename_i f
    obtain⟨bN,L,hs1⟩:=f
    simp only[G0b]at h
    subst h
    obtain⟨aO,ak⟩:=J9i M L
    have r:v.cells.size=i.size:=by rw[ak,J,hs1];rfl
    have D:=Q5r (E:=E) (w:=w) hi b o T ⟨vs⟩ hb v r (λu m=>by rw[ak]at m;simp at m;rw[m];exact aO) (by rw[ak];simp;omega)
    have bc:((⟨vs⟩:Array Value).toList.take o++v.cells.toList++(⟨vs⟩:Array Value).toList.drop (o+v.cells.size)).toArray=⟨vs.set o v⟩:=by
     rw[ak]
     show(vs.take o++[v]++vs.drop (o+1)).toArray=_
     rw[List.set_eq_take_append_cons_drop,if_pos (by omega)]
     simp
    rw[bc]at D
    refine⟨_,D,_,_,P (cs.set o x) (vs.set o v) (by simp[hl]) (λk u c m f=>?_) (λc f=>by
     rcases G2q f with f|rfl
     ·exact .inl f
     exact .inr (X7d L))⟩
    rcases Z2d m with⟨rfl,rfl,_⟩|⟨hk,be⟩
    ·rw[G1c (by omega)]at f
     simp only[G0b]at f
     subst f
     exact⟨aO,M⟩
    rw[G1e (Ne.symm hk)]at f
    exact S k u c be f
   cases h
  cases h
 ·rename_i l n j o
  split at h
  ·rename_i e sz xs q C hq
   split at h
   ·rename_i y hy
    split at h
    ·rename_i f
     obtain⟨U,aP⟩:=f
     subst U
     obtain⟨g,N,hO⟩:=t.gh C
     obtain⟨cells,bg,bO,bh,K,L,aQ,h0,aS⟩:=hO
     have aT:=K y (G0r hy)
     have aU:j<xs.length:=(G0f.1 hy).1
     have bP:j * sz+sz<=xs.length * sz:=by
      have:=G2f sz (show j+1<=xs.length from aU)
      rw[G3j]at this
      exact this
     have bQ:=Q0j K
     cases ha with
     | vptr b oa l n i' off e0 bU len0 hrow bV bi=>
       have hre:=Q2h C
       rw[hrow]at hre
       injection hre with hre
       injection hre with bX hre
       injection hre with bj bk
       obtain⟨cap,s,aV⟩:=bi bk
       simp only[gv,N,G0w,G0b]at s
       rw[bj]at aV
       subst aV
       rcases bg.2 with⟨bY,F⟩|⟨b',bl,I,am,_,ag,ao,bm,aq,bn⟩
       ·omega
       have bo:b'=b:=by
        rw[am]at s
        injection s with L h2 h3
        injection L with L
        injection L
       subst bo
       have bp:=Q1q t M hq
       obtain⟨aW,aH,aX⟩:=Q4x bp
       have r:v.cells.size=i.size:=by rw[J,<-aP,<-aW];simp
       have bq:∀k,¬ Φ b' k:=λk hk=>by
        have:=((aS b' (by rw[am];rfl)) k).1 hk
        simp at this
       have P:∀ (A:PV),o+ti.size<=sz->A.cells.length=sz->(∀c∈A.cells,c.one=true)->(∀k,A.cells[k]?=if o<=k/\k<o+ti.size then q.cells[k-o]? else y.cells[k]?)->
        ∃w',(Instr.storeAt ty (.pointer (some ⟨b',j * sz+o,none⟩)) v).run E.P w=.ok () w'/\∃ay Φ',Ok E γ H Φ w ay (H.set l (.row e sz (xs.set j A) false)) Φ' w':=by
        intro A aD br bt ar
        have bu:j * sz+o+v.cells.size<=I.size:=by
         rw[r,J,aq]
         have:=G2f sz ao
         omega
        have D:=Q5r (E:=E) (w:=w) hi b' (j * sz+o) e I ag v r (λu m=>by
         obtain⟨k,hk,X⟩:=G2e m
         have bv:k<q.cells.length:=by rw[<-aW];exact hk
         exact(aX k u q.cells[k] (by rw[G0c hk,X]) (G0c bv)).one (aH _ (G2u _))) bu
        generalize aY:(I.toList.take (j * sz+o)++v.cells.toList++I.toList.drop (j * sz+o+v.cells.size)).toArray=cur' at D
        have bw:∀k,cur'[k]?=if j * sz+o<=k/\k<j * sz+o+ti.size then v.cells[k-(j * sz+o)]? else I[k]?:=by
         intro k
         have ht:(I.toList.take (j * sz+o)).length=j * sz+o:=by rw[G1h,G1j];omega
         have bz:v.cells.toList.length=ti.size:=by rw[G1j,r,J]
         rw[<-aY]
         simp only[List.getElem?_toArray]
         by_cases Y:k<j * sz+o
         ·rw[if_neg (by omega),G0z,G0l (by omega),G1l,if_pos Y,G1z]
         rw[G0z,G0m (by omega),ht]
         by_cases aa:k<j * sz+o+ti.size
         ·rw[if_pos ⟨by omega,aa⟩,G0l (by omega),G1z]
         rw[if_neg (by omega),G0m (by omega),G1u,G1z,r,J,bz]
         congr 1
         omega
        have aI:cur'.size=I.size:=by
         rw[<-aY]
         simp only[G4h,G0i,G1h,G0p,G1j]
         omega
        have bA:=setRow_heap w b' I cur' e (0,0) ag
        have ac:∀z∈xs.set j A,z.cells.length=sz:=λz F=>by
         rcases G2q F with F|rfl
         ·exact K z F
         exact br
        have O:(xs.set j A).length=xs.length:=by simp
        have bB:(w.setRow b' cur').ownsRow 0 e sz g.v (xs.set j A).length (cur'.toList.take (xs.length * sz)):=by
         refine⟨?_,.inr ⟨b',bl,cur',by rw[O];exact am,G2l _,bA,by rw[O];exact ao,bm,by rw[aI,aq],by rw[O]⟩⟩
         rw[G1h,G1j (xs:=cur'),aI,aq,O]
         exact G5u (G2f _ ao)
        have bD:∀k,k<xs.length * sz->cells[k]?=I[k]?:=λk hk=>by
         rw[<-bn,G1l,if_pos hk,G1z]
        have aZ:∀c,c∈g.own↔c=b':=λc=>by rw[aQ,am];simp[Value.ownBlock]
        refine⟨_,D,γ.set l g,Φ,t.setObj (g':=g) C N (λc f aB=>Z5h b' c _ (λe=>aB ((aZ c).2 e))) (by simp) rfl rfl rfl (λ_ _ h=>h) (λ_ _ h _ _=>h) (λc k h=>by simpa using t.phi c k h)
         (λc k aC f=>by rw[aZ]at f;subst f;exact absurd aC (bq k)) (λc f=>⟨.inl f,by simpa using(t.own l g N c f).2⟩) (.inl rfl)
         (Q8d (by simp) (λ_=>rfl)) (λhE=>?_)⟩
        refine⟨cur'.toList.take (xs.length * sz),bB,?_,λk u c m f=>?_,ac,λc f=>?_,by rw[aQ],h0,λc f k=>?_⟩
        ·rw[Q0j ac,O,G1h,G1j (xs:=cur'),aI,aq]
         exact G5u (G2f _ ao)
        ·have hk:k<xs.length * sz:=by
          have:=(G0f.1 f).1
          rw[Q0j ac,O]at this
          exact this
         rw[G1l,if_pos hk,G1z,bw k]at m
         have aJ:k / sz<xs.length:=G5l (by rw[G4c];exact hk)
         have au:k / sz * sz+k % sz=k:=by rw[G4c];exact G4p k sz
         have av:k % sz<sz:=G6h _ h0
         have hold:∀c,(flat xs)[k]?=some c->I[k]?=some u->Rep Φ (w.setRow b' cur') u c:=λc f m=>(bh k u c (by rw[bD k hk];exact m) f).mono (λ_ _ h=>h) hE.cell
         by_cases ad:k / sz=j
         ·have hf:(flat (xs.set j A))[k]?=A.cells[k % sz]?:=by
           have:=Q2j ac j (k % sz) A (by rw[G1c aU]) av
           rw[<-ad,au]at this
           rw[ad]at this
           exact this
          rw[hf,ar]at f
          have bE:j * sz+k % sz=k:=by rw[<-ad];exact au
          by_cases a0:o<=k % sz/\k % sz<o+ti.size
          ·rw[if_pos a0]at f
           rw[if_pos ⟨by omega,by omega⟩]at m
           rw[<-G1z]at m
           refine(aX _ u c ?_ f).mono (λ_ _ h=>h) hE.cell
           rw[show k % sz-o=k-(j * sz+o) from by omega]
           exact m
          rw[if_neg a0]at f
          rw[if_neg (by omega)]at m
          refine hold c ?_ m
          rw[<-bE,Q2j K j _ y hy av]
          exact f
         obtain⟨z,F⟩:∃z,xs[k / sz]?=some z:=⟨_,G0c aJ⟩
         have hf:(flat (xs.set j A))[k]?=z.cells[k % sz]?:=by
          have:=Q2j ac (k / sz) (k % sz) z (by rw[G1e (λe=>ad e.symm)];exact F) av
          rw[au]at this
          exact this
         rw[hf]at f
         have bF:¬ (j * sz+o<=k/\k<j * sz+o+ti.size):=by
          intro⟨a1,a2⟩
          apply ad
          have b1:k<(j+1) * sz:=by rw[G3j];omega
          have b2:j * sz<=k:=by omega
          exact G6k b2 b1
         rw[if_neg bF]at m
         refine hold c ?_ m
         have:=Q2j K (k / sz) (k % sz) z F av
         rw[au]at this
         rw[this]
         exact f
        ·obtain⟨z,F,a3⟩:=G4f.1 f
         rcases G2q F with F|rfl
         ·exact L c (Q5x F a3)
         exact bt c a3
        rw[O]
        exact aS c f k
       split at h
       ·rename_i cs
        split at h
        ·rename_i aD
         simp only[G0b]at h
         subst h
         have bI:cs.length=sz:=aT
         exact P (.agg (Q1g cs o q.cells)) (by omega) (by show(Q1g cs o q.cells).length=sz;rw[X1y _ _ _ (by omega)];exact bI) (λc f=>by
          obtain⟨k,hk,X⟩:=G2e f
          have aw:(Q1g cs o q.cells)[k]?=some c:=by rw[<-X];exact G0c hk
          rw[J6w _ _ _ _ (by omega)]at aw
          split at aw
          ·exact aH c (G0r aw)
          ·exact L c (Q5x (G0r hy) (G0r aw))) (λk=>by
          show(Q1g cs o q.cells)[k]?=_
          rw[J6w _ _ _ _ (by omega),aP]
          rfl)
        cases h
       rename_i bJ
       split at h
       ·rename_i f
        obtain⟨rfl,hs1,aJ⟩:=f
        simp only[G0b]at h
        subst h
        have ar:y.cells=[y]:=by
         cases y with
         | agg cs=>exact absurd rfl (bJ cs)
         | _=>rfl
        have a4:q.cells=[q]:=by
         cases q with
         | agg cs=>simp[PV.one]at aJ
         | _=>rfl
        have bK:sz=1:=by rw[<-aT,ar];rfl
        refine P q (by omega) (by rw[a4,bK];rfl) aH (λk=>?_)
        rw[a4,ar,hs1]
        by_cases hk:k=0
        ·subst hk
         rfl
        rw[if_neg (by omega)]
        cases k with
        | zero=>exact absurd rfl hk
        | succ k=>rfl
       cases h
    cases h
   cases h
  ·rename_i C hq
   exact Z5c t (E.hT _ _ hT) C ha M h
  ·rename_i C hq
   exact Z5e t (E.hT _ _ hT) C ha (Q1q t M hq) h
  cases h
 cases h
end
end Go.Abs
namespace Go.Abs
open Go.RowKit
def Q4s(E:Env)(H:List AObj)(b:TypeId)(n c:AV):Option (AV×List AObj):=
 match E.T b,n,c with
 | some ⟨.slice e,_,_,_⟩,.pv (.int _ n),.pv (.int _ c)=>match E.T e with
   | some a=>match J6f a with
     | some z=>if 0<=n/\n<=c/\c.toNat * a.bytes<=140737488355328/\a.bytes≠0/\a.size≠0/\z.cells.length=a.size then
        some (.vec H.length n.toNat,H++[.row e a.size (List.replicate n.toNat z) false])else none
     | none=>none
   | none=>none
 | _,_,_=>none
section
variable {E:Env}{γ:List Gh}{H:List AObj}{Φ:Nat->Nat->Prop}{w:World}
theorem X7j(z:Array Value)(n k:Nat)(a:z.size≠0)(hk:k<n * z.size):(madeCells z (n * z.size))[k]?=z[k % z.size]?:=by
 unfold madeCells
 have:k % z.size<z.size:=G6h _ (by omega)
 simp[hk,this]
theorem Z4j(M:OInv E γ H Φ w){l:TypeId}{a b:Value}{x y r:AV}{H':List AObj}(N:ARel γ H Φ w a x)(hb:ARel γ H Φ w b y)(h:Q4s E H l x y=some (r,H')):
 ∃u w',(Instr.makeSlice l a b).run E.P w=.ok u w'/\Q7w E γ H Φ w r H' u w':=by
 unfold Q4s at h
 split at h
 ·rename_i e _ _ _ O n Q c hT
  split at h
  ·rename_i f D
   split at h
   ·rename_i z S
    split at h
    ·rename_i T
     obtain⟨U,V,aq,ar,au,F⟩:=T
     simp only[G0b,G1d]at h
     obtain⟨rfl,rfl⟩:=h
     have W:=Q2t (Q0o N)
     have X:=Q2t (Q0o hb)
     subst W;subst X
     obtain⟨d,hd,hk⟩:=(E.hT _ _ hT).und
     rw[Q3u hk]at hd
     obtain⟨i,d',m,g,Y,aw,ax,hz⟩:=(E.hT _ _ D).info
     obtain⟨zv,o,aa⟩:=J8j (w:=w) (E.hT _ _ D) S
     have ac:i.zero=some zv:=by
      cases I:i.zero with
      | none=>simp[zeroValue,typeInfo,m,I]at o
      | some z'=>simp[zeroValue,typeInfo,m,I]at o;rw[o]
     obtain⟨c1,c2,c3⟩:=Q4x (aa Φ w)
     have ae:zv.cells.size=i.size:=by rw[g,<-F,<-c1];simp
     have aA:c.toNat<=140737488355328:=by
      have:c.toNat<=c.toNat * f.bytes:=G4v _ (by omega)
      omega
     have af:=run_make (P:=E.P) w l e i zv hd m ac O Q n c U V (by
      have hh:((c.toNat * f.bytes:Nat):Int)<=140737488355328:=by omega
      rw[Int.natCast_mul,G4w (by omega)]at hh
      rw[Y,Int.mul_comm]
      omega) (by omega)
     have j:(List.replicate n.toNat z).length=n.toNat:=by simp
     have s:∀q∈List.replicate n.toNat z,q.cells.length=f.size:=λq hq=>by rw[(G6p.1 hq).2];exact F
     have t:(madeCells zv.cells (c.toNat * i.size)).size=c.toNat * i.size:=size_madeCells _ _
     have aB:n.toNat * i.size<=c.toNat * i.size:=G2f _ (by omega)
     refine⟨_,_,af,?_⟩
     have ah:(w.alloc (.cells (madeCells zv.cells (c.toNat * i.size)) e)).ownsRow 0 e i.size (.slice (some ⟨w.heap.size,0,none⟩) n.toNat c.toNat) (List.replicate n.toNat z).length ((madeCells zv.cells (c.toNat * i.size)).toList.take (n.toNat * i.size)):=by
      refine⟨?_,.inr ⟨w.heap.size,c.toNat,_,by rw[j],G2l _,heap_alloc_new w _,by rw[j];omega,by unfold maxLen;omega,t,by rw[j]⟩⟩
      rw[G1h,G1j,t,j]
      omega
     have J:=Q0j s
     rw[j]at J
     have:=Z2h (v:=.slice none 0 0) M ah ⟨rfl,rfl,rfl,by simp,.inl ⟨rfl,by simp,λb hb=>heap_alloc_old w _ b hb⟩⟩ rfl ⟨?_,λq hq=>?_,λk u q A hq=>?_⟩ (by rw[g];exact s) (by omega) false
     ·rw[<-g]
      rw[j]at this
      exact this
     ·rw[G1h,G1j,t,J,<-g]
      omega
     ·obtain⟨p,hp,K⟩:=G4f.1 hq
      rw[(G6p.1 hp).2]at K
      exact c2 q K
     have hk:k<n.toNat * f.size:=by
      have:=(G0f.1 hq).1
      omega
     have ak:0<f.size:=by omega
     have al:k / f.size<n.toNat:=G5l (by rw[G4c];exact hk)
     have am:k % f.size<f.size:=G6h _ ak
     have ao:k / f.size * f.size+k % f.size=k:=by rw[G4c];exact G4p k f.size
     have L:=Q2j s (k / f.size) (k % f.size) z (by rw[List.getElem?_replicate,if_pos al]) am
     rw[ao,hq]at L
     rw[G1l,if_pos (by rw[g];exact hk),G1z]at A
     have C:zv.cells.size=f.size:=by rw[ae,g]
     rw[g,<-C,X7j _ _ _ (by omega) (by rw[C];exact G1f hk (G2f _ (by omega))),C]at A
     exact c3 (k % f.size) u q (by rw[G1z];exact A) L.symm
    cases h
   cases h
  cases h
 cases h
end
end Go.Abs
namespace Go.Abs
open Go.RowKit
def erange(E:Env)(H:List AObj)(a:TypeId)(x:AV):Option (AV×List AObj):=
 match E.T a,x with
 | some ⟨.str,_,_,_⟩,.pv (.str s)=>some (.ref H.length 0,H++[.iter s 0])
 | _,_=>none
def imin(x y:Int):Int:=if y<x then y else x
def imax(x y:Int):Int:=if y>x then y else x
def mm2(a:Bool):AV->AV->Option AV
 | .pv (.int k x),.pv (.int _ y)=>some (.pv (.int k (bif a then imax x y else imin x y)))
 | _,_=>none
def mmL(d:Bool):AV->List AV->Option AV
 | a,[]=>some a
 | a,b::r=>match mm2 d a b with
   | some c=>mmL d c r
   | none=>none
def qmm(d:Bool):List AV->Option AV
 | a::b::r=>mmL d a (b::r)
 | _=>none
def Q2k:AV->Option (List AV)
 | .pv p=>some (p.cells.map .pv)
 | .nils=>some [.nils]
 | .vec l n=>some [.vec l n]
 | .ref l o=>some [.ref l o]
 | .mref l=>some [.mref l]
 | .full xs=>some [.full xs]
 | _=>none
def Z5l(a:List (Nat×Nat)):List AV->List (Nat×AV)->Option (List AV)
 | cs,[]=>some cs
 | cs,(f,v)::r=>match a[f]?,Q2k v with
   | some (off,sz),some us=>if us.length=sz/\off+sz<=cs.length then Z5l a (cs.take off++us++cs.drop (off+us.length)) r else none
   | _,_=>none
def Z5n(T:Nat->Option TI)(t:TypeId)(a:List (Nat×AV)):Option AV:=
 match T t with
 | some ⟨.strct b,_,_,some z⟩=>(Z5l b (z.map zAV) a).map .agg
 | _=>none
def Q8r(E:Env)(H:List AObj)(d:TypeId)(len:Nat)(b:List (Nat×AV)):Option (AV×List AObj):=
 match E.T d with
 | some ⟨.slice e,_,_,_⟩=>match E.T e with
   | some a=>if b.length=len/\len * a.size<=16777216/\a.zero.isSome=true/\a.size≠0 then match Q8q H a.size 0 b with
      | some xs=>some (.vec H.length xs.length,H++[.row e a.size xs false])
      | none=>none
     else none
   | none=>none
 | _=>none
section
variable {E:Env}{γ:List Gh}{H:List AObj}{Φ:Nat->Nat->Prop}{w:World}
theorem J0w{v:Value}{a:AV}{us:List AV}(g:ARel γ H Φ w v a)(h:Q2k a=some us):v.cells.toList.length=us.length/\∀ (k:Nat) x c,v.cells.toList[k]?=some x->us[k]?=some c->x.oneCell'=true/\ARel γ H Φ w x c:=by
 have d:v.cells=#[v]->(∀p,a≠.pv p)->(∀vs,a≠.tup vs)->a≠.any->(∀vs,a≠.agg vs)->some [a]=some us->v.cells.toList.length=us.length/\∀ (k:Nat) x c,v.cells.toList[k]?=some x->us[k]?=some c->x.oneCell'=true/\ARel γ H Φ w x c:=by
  intro f i m n o j
  simp only[G0b]at j
  subst j
  rw[f]
  refine⟨rfl,λk x c b e=>?_⟩
  match k,b,e with
  | 0,b,e=>
    simp at b e
    subst b e
    exact⟨J7p g i m n o,g⟩
  | k+1,b,e=>simp at b
 cases g with
 | @pv v p r=>
   simp only[Q2k,G0b]at h
   subst h
   obtain⟨s,i,t⟩:=Q4x r
   refine⟨by simpa using s,λk x c b f=>?_⟩
   rw[G0x]at f
   obtain⟨q,hq,rfl⟩:=G0g.1 f
   have l:=t k x q b hq
   exact⟨l.one (i q (G0r hq)),.pv l⟩
 | vec=>exact d rfl (by simp) (by simp) (by simp) (by simp) h
 | ref=>exact d rfl (by simp) (by simp) (by simp) (by simp) h
 | mref=>exact d rfl (by simp) (by simp) (by simp) (by simp) h
 | selfp=>simp[Q2k]at h
 | nils=>exact d rfl (by simp) (by simp) (by simp) (by simp) h
 | full=>exact d rfl (by simp) (by simp) (by simp) (by simp) h
 | any=>simp[Q2k]at h
 | ifc=>simp[Q2k]at h
 | pptr=>simp[Q2k]at h
 | vptr=>simp[Q2k]at h
 | tup=>simp[Q2k]at h
 | fn=>simp[Q2k]at h
 | agg=>simp[Q2k]at h
theorem Z6d(m:List (Nat×Nat))(f:Nat->Option (Nat×Nat))(t:∀ (i:Nat) p,m[i]?=some p->f i=some p):
 ∀ (d:List (Nat×AV)) (vparts:List (Nat×Value)) (cs:List AV) (vs:Array Value) (r:List AV),vparts.length=d.length->
  (∀ (j:Nat) (p:Nat×AV) (q:Nat×Value),d[j]?=some p->vparts[j]?=some q->q.1=p.1/\ARel γ H Φ w q.2 p.2)->
  (vs.toList.length=cs.length/\∀ (k:Nat) x c,vs.toList[k]?=some x->cs[k]?=some c->x.oneCell'=true/\ARel γ H Φ w x c)->
  Z5l m cs d=some r->∃us,Instr.fill f vs vparts=some us/\us.toList.length=r.length/\∀ (k:Nat) x c,us.toList[k]?=some x->r[k]?=some c->x.oneCell'=true/\ARel γ H Φ w x c
 | [],vparts,cs,vs,r,g,_,n,h=>by
   simp only[Z5l,G0b]at h
   subst h
   cases vparts with
   | nil=>exact⟨vs,rfl,n⟩
   | cons a b=>simp at g
 | (i,v)::d,[],cs,vs,r,g,_,_,_=>by simp at g
 | (i,v)::d,(i',v')::vparts,cs,vs,r,g,u,n,h=>by
   simp only[Z5l]at h
   split at h
   ·rename_i off sz us A C
    split at h
    ·rename_i o
     obtain⟨o,S⟩:=o
     obtain⟨y,D⟩:=u 0 (i,v) (i',v') rfl rfl
     simp only at y
     subst y
     obtain⟨z,F⟩:=J0w D C
     have I:v'.cells.size=sz:=by rw[<-o,<-z];simp
     obtain⟨J,K⟩:=n
     have L:vs.size=cs.length:=by rw[<-J];simp
     obtain⟨M,N⟩:=Z4x off v'.cells.toList 0 vs (by simp;omega)
     have O:v'.cells.zipIdx.foldl (λcs (c,j)=>cs.setIfInBounds (off+j) c) vs=(v'.cells.toList.zipIdx 0).foldl (λcs (c,j)=>cs.setIfInBounds (off+j) c) vs:=by
      rw[<-G6l,G6i]
     have P:Instr.fill f vs ((i',v')::vparts)=Instr.fill f ((v'.cells.toList.zipIdx 0).foldl (λcs (c,j)=>cs.setIfInBounds (off+j) c) vs) vparts:=by
      rw[<-O]
      simp only[Instr.fill,t _ _ A]
      rw[if_neg]
      simp only[I,ne_eq,G3w,G6c,G1p,G0s]
      omega
     rw[P]
     have T:off+us.length<=cs.length:=by omega
     have s:(cs.take off).length=off:=by rw[G1h];omega
     refine Z6d m f t d vparts _ _ r (by simpa using g) (λj a b Q hb=>u (j+1) a b (by simpa using Q) (by simpa using hb)) ⟨?_,λk x c l e=>?_⟩ h
     ·rw[G1j,M,L]
      simp only[G0i,G0p,s]
      omega
     rw[G1z,N k]at l
     have U:v'.cells.toList.length=us.length:=z
     by_cases V:off<=k/\k<off+us.length
     ·rw[if_pos ⟨by omega,by omega⟩]at l
      rw[G0z,G0m (by omega),s,G0l (by omega)]at e
      exact F (k-off) x c (by simpa using l) e
     rw[if_neg (by omega)]at l
     refine K k x c (by rw[G1z];exact l) ?_
     by_cases hk:k<off
     ·rw[G0z,G0l (by omega),G1l,if_pos hk]at e
      exact e
     rw[G0z,G0m (by omega),s,G0m (by omega),G1u]at e
     rw[<-e]
     congr 1
     omega
    cases h
   cases h
theorem J0b{t:TypeId}{m:List (Nat×AV)}{vparts:Array (Nat×Value)}(I:vparts.size=m.length)
 (J:∀ (j:Nat) (p:Nat×AV) (q:Nat×Value),m[j]?=some p->vparts[j]?=some q->q.1=p.1/\ARel γ H Φ w q.2 p.2) {r:AV} (h:Z5n E.T t m=some r):
 ∃u,(Instr.build t vparts).run E.P w=.ok u w/\ARel γ H Φ w u r:=by
 unfold Z5n at h
 split at h
 ·rename_i a _ _ z hT
  obtain⟨cs,K,rfl⟩:=G0g.1 h
  obtain⟨i,d,L,hs,_,hd,hk,M⟩:=(E.hT _ _ hT).info
  obtain⟨fields,rfl,N,O⟩:=Q6z hk
  obtain⟨zv,P,Q,_,S,_⟩:=M z rfl
  have T:∀ (l:List Field) (k:Nat),(∀ (j:Nat) f,l[j]?=some f->fields[k+j]?=some f)->
   (l.mapM (λf=>do pure (f.offset,<-sizeOf f.type):Field->Sem (Nat×Nat))).run E.P w=.ok ((a.drop k).take l.length) w:=by
   intro l
   induction l with
   | nil=>intro k _;simp
   | cons f l U=>
     intro k n
     have s:=n 0 f rfl
     rw[G2j]at s
     have y:k<a.length:=by
      have:=(G1b.1 s).1
      omega
     obtain⟨V,fi,W,X⟩:=O k f a[k] s (G0c y)
     have A:=U (k+1) (λj g Y=>by
      have:=n (j+1) g (by simpa using Y)
      rw[show k+1+j=k+(j+1) from by omega]
      exact this)
     have C:(do pure (f.offset,<-sizeOf f.type):Sem (Nat×Nat)).run E.P w=.ok a[k] w:=by
      simp[Q1f W,V,X]
     simp only[bind]at A
     simp only[G6s,bind,Sem.run_bind']at C |-
     rw[C]
     simp only[Result.andThen_ok,A]
     rw[G2p y,G0h,G3r]
     rfl
  have D:(fields.mapM (λf=>do pure (f.offset,<-sizeOf f.type):Field->Sem (Nat×Nat))).run E.P w=.ok a.toArray w:=by
   have:=T fields.toList 0 (λj f n=>by simpa using n)
   rw[G4b,Sem.run_map,this]
   simp[N]
  obtain⟨us,aa,ac,F⟩:=Z6d (γ:=γ) (H:=H) (Φ:=Φ) (w:=w) a (a.toArray[·]?) (λi p b=>by simpa using b) m vparts.toList (z.map zAV) zv.cells cs (by simpa using I)
   (λj p q b hq=>J j p q b (by simpa using hq)) ⟨by simpa using Q,λk v c e o=>by
     rw[G0x]at o
     obtain⟨p,b,rfl⟩:=G0g.1 o
     have x:=S k v p e b
     exact⟨(x.2.1 Φ w).one x.1,J3u x⟩⟩ K
  refine⟨.agg us,?_,.agg us.toList cs ac (λv e=>?_) (λk v c e o=>(F k v c e o).2)⟩
  ·unfold Instr.build
   simp only[bind]at D
   simp only[bind,Sem.run_bind']
   have ad:(zeroValue t).run E.P w=.ok zv w:=by simp[zeroValue,typeInfo,L,P]
   simp only[ad,Result.andThen_ok,run_underlying hd,Sem.run_bind',D]
   rw[aa]
   rfl
  obtain⟨k,hk,ae⟩:=G2e e
  exact(F k v (cs[k]'(by omega)) (by rw[G0c hk,ae]) (G0c (by omega))).1
 cases h
theorem Z6h(n:OInv E γ H Φ w){o:TypeId}{len:Nat}{g:List (Nat×AV)}{vparts:Array (Nat×Value)}(I:vparts.size=g.length)
 (J:∀ (j:Nat) (p:Nat×AV) (q:Nat×Value),g[j]?=some p->vparts[j]?=some q->q.1=p.1/\ARel γ H Φ w q.2 p.2) {r:AV} {H':List AObj} (h:Q8r E H o len g=some (r,H')):
 ∃u w',(Instr.buildSlice o len vparts).run E.P w=.ok u w'/\Q7w E γ H Φ w r H' u w':=by
 unfold Q8r at h
 split at h
 ·rename_i e _ _ _ hT
  split at h
  ·rename_i a K
   split at h
   ·rename_i L
    obtain⟨ac,ad,M,ae⟩:=L
    split at h
    ·rename_i xs N
     simp only[G0b,G1d]at h
     obtain⟨rfl,rfl⟩:=h
     obtain⟨d,hd,hk⟩:=(E.hT _ _ hT).und
     rw[Q3u hk]at hd
     obtain⟨i,d',s,t,_,ag,ah,O⟩:=(E.hT _ _ K).info
     obtain⟨z,P⟩:=G5p.1 M
     obtain⟨zv,Q,aj,ak,_⟩:=O z P
     obtain⟨e1,x,S,T⟩:=Q8p n a.size g vparts.toList 0 xs (by simpa using I) (λj p q U hq=>J j p q U (by simpa using hq)) N
     have y:vparts.toList.length=len:=by rw[G1j];omega
     generalize f:(Array.range (len * a.size)).map ((if len * a.size=0 then #[]else zv.cells)[· % (if len * a.size=0 then #[]else zv.cells).size]!)=base
     have k:base.size=len * a.size:=by rw[<-f];simp
     obtain⟨us,A,C,D⟩:=J5c a.size vparts.toList 0 base S (by rw[y,k];simp)
     have V:us.toList=vparts.toList.flatMap λp=>p.2.cells.toList:=by
      rw[G2y,y,Nat.zero_mul,G6q,G1y,G3v (by simp[C,k])]at D
      exact D
     have am:=Q0j x
     have W:len<=maxLen:=by
      have:len<=len * a.size:=G4v _ (by omega)
      unfold maxLen
      omega
     have l:xs.length=len:=by omega
     have m:us.size=len * a.size:=by rw[C,k]
     have X:(w.alloc (.cells us e)).ownsRow 0 e a.size (.slice (some ⟨w.heap.size,0,none⟩) len len) xs.length us.toList:=by
      refine⟨by rw[G1j,m,l],.inr ⟨w.heap.size,len,us,by rw[l],G2l _,heap_alloc_new w _,by omega,W,m,?_⟩⟩
      rw[l]
      exact G3v (by rw[G1j,m];exact G0o _)
     refine⟨.slice (some ⟨w.heap.size,0,none⟩) len len,w.alloc (.cells us e),?_,Z2h (v:=.slice none 0 0) n X ⟨rfl,rfl,rfl,by simp,.inl ⟨rfl,by simp,λb hb=>heap_alloc_old w _ b hb⟩⟩ rfl ?_ x (by omega) false⟩
     ·have Y:¬ len * i.size>2 ^ 24:=by rw[t];omega
      unfold Instr.buildSlice
      simp only[bind,Sem.run_bind',run_underlying hd,Result.andThen_ok,Q1f s,Y,G2i]
      rw[t]
      have aa:(zeroValue e).run E.P w=.ok zv w:=by simp[zeroValue,typeInfo,s,Q]
      by_cases F:len * a.size=0
      ·rw[if_pos F]at f |-
       simp only[Sem.run_bind',Sem.run_pure,Result.andThen_ok]
       rw[f,A]
       simp only[Sem.run_bind',Q9d,Result.andThen_ok,Sem.run_pure]
      rw[if_neg F]at f |-
      simp only[Sem.run_bind',Sem.run_pure,Result.andThen_ok,aa]
      rw[f,A]
      simp only[Sem.run_bind',Q9d,Result.andThen_ok,Sem.run_pure]
     rw[V]
     exact T
    cases h
   cases h
  cases h
 cases h
theorem J2t(d:Bool):∀ (l:List AV) (vs:List Value) (a:AV) (v:Value) (r:AV),ARel γ H Φ w v a->vs.length=l.length->(∀ (i:Nat) u b,vs[i]?=some u->l[i]?=some b->ARel γ H Φ w u b)->mmL d a l=some r->
 ∃u,(vs.foldlM (if d then Builtin.max2 else Builtin.min2) v:Sem Value).run E.P w=.ok u w/\ARel γ H Φ w u r
 | [],vs,a,v,r,j,f,_,h=>by
   simp only[mmL,G0b]at h
   subst h
   have:vs=[]:=G1g f
   subst this
   exact⟨v,rfl,j⟩
 | b::l,[],a,v,r,j,f,_,h=>by simp at f
 | b::l,u::vs,a,v,r,j,f,m,h=>by
   simp only[mmL]at h
   split at h
   ·rename_i c g
    unfold mm2 at g
    split at g
    ·rename_i k x n y
     simp only[G0b]at g
     subst g
     have o:=Q2t (Q0o j)
     have p:=Q2t (Q0o (m 0 u _ rfl rfl))
     subst o p
     obtain⟨q,s,t⟩:=J2t d l vs _ (.int k (bif d then imax x y else imin x y)) r (.pv (.int _ _)) (by simpa using f) (λi u b z hb=>m (i+1) u b (by simpa using z) (by simpa using hb)) h
     refine⟨q,?_,t⟩
     rw[List.foldlM_cons]
     have e:((if d then Builtin.max2 else Builtin.min2) (.int k x) (.int n y):Sem Value).run E.P w=.ok (.int k (bif d then imax x y else imin x y)) w:=by
      cases d<;>rfl
     simp only[bind,Sem.run_bind',e,Result.andThen_ok]
     exact s
    cases g
   cases h
theorem J2e(d:Bool){l:List AV}{vs:List Value}{r:AV}(e:vs.length=l.length)(f:∀ (i:Nat) u b,vs[i]?=some u->l[i]?=some b->ARel γ H Φ w u b)(h:qmm d l=some r)(g:Array TypeId)(t:TypeId):
 ∃u,((if d then Builtin.max_ g t ⟨vs⟩else Builtin.min_ g t ⟨vs⟩):Sem Value).run E.P w=.ok u w/\ARel γ H Φ w u r:=by
 unfold qmm at h
 split at h
 ·rename_i a b l
  match vs,e with
  | v::u::vs,e=>
    obtain⟨j,k,m⟩:=J2t d (b::l) (u::vs) a v r (f 0 v a rfl rfl) (by simpa using e) (λi u b n hb=>f (i+1) u b (by simpa using n) (by simpa using hb)) h
    refine⟨j,?_,m⟩
    cases d<;>exact k
 cases h
end
end Go.Abs
