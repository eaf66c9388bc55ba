import Derived.Test.YtljahlbklgnfhaaGreatDoorA17
import Derived.Laws.StructEq
set_option linter.unusedVariables false
set_option linter.unusedSimpArgs false
set_option linter.defProp false
namespace Go.Abs
open Go.RowKit
section
variable {E:Env}{O:Orc}{γ:List Gh}{H H':List AObj}{Φ:Nat->Nat->Prop}{w:World}{a:Act}{σ:St}{o:Oper}{r:AV}
theorem Q2f{K:Act->World->Prop}{Q:Exit->Act->World->Prop}{u:Value}{w':World}(h:(execOp a.eval o).run E.P w=.ok (.value u) w')(b:K (a.put o.dst u) w'):o.wp E.P a w K Q:=by
 unfold Oper.wp
 rw[h]
 exact b
theorem X6n{K:Act->World->Prop}{Q:Exit->Act->World->Prop}{w':World}(h:(execOp a.eval o).run E.P w=.ok .skip w')(b:K (a.put o.dst undef) w'):o.wp E.P a w K Q:=by
 unfold Oper.wp
 rw[h]
 exact b
theorem X1k{s:Sem Unit}{w':World}(h:s.run E.P w=.ok () w'):(do s;pure .skip:Sem Next).run E.P w=.ok .skip w':=by
 simp only[bind,Sem.run_bind',h,Result.andThen_ok]
 rfl
theorem Z4p{f:FuncId}{args:Array Operand}{b:Array TypeId}(d:o.op=.call ⟨.value (.func f),args,b⟩){fn:Func}(e:E.P.funcs[f]?=some fn)(hb:fn.body.isSome=true)(g:(fn.name=="runtime.NumGoroutine")=false):
 (execOp a.eval o).run E.P w=.ok (.enter f (args.map a.eval)) w:=by
 have i:fn.body≠none:=λh=>by simp[h]at hb
 have j:fn.name≠"runtime.NumGoroutine":=by simpa using g
 unfold execOp
 simp only[d]
 simp[resolve,Act.eval,Deferred.ofValue,invoke,callFunc,e,j,i]
theorem Z5r{t:Nat->AV}(hs:Slots γ H Φ w a t)(b:Array (Nat×Operand)):∀ (j:Nat) (p:Nat×AV) (q:Nat×Value),(b.toList.map λp=>(p.1,ev t p.2))[j]?=some p->(b.map λ(p:Nat×Operand)=>(p.1,a.eval p.2))[j]?=some q->q.1=p.1/\ARel γ H Φ w q.2 p.2:=by
 intro j p q d hq
 rw[G0x]at d
 rw[Array.getElem?_map]at hq
 obtain⟨z,e,rfl⟩:=G0g.1 d
 rw[G1z]at e
 rw[e]at hq
 simp only[G0w,G0b]at hq
 subst hq
 exact⟨rfl,Q0s hs z.2⟩
theorem Q7q{t:Nat->AV}(hs:Slots γ H Φ w a t)(args:Array Operand):∀ (i:Nat) v b,(args.toList.map a.eval)[i]?=some v->(args.toList.map (ev t))[i]?=some b->ARel γ H Φ w v b:=by
 intro i v b d hb
 rw[G0x]at d hb
 obtain⟨z,e,rfl⟩:=G0g.1 d
 rw[e]at hb
 simp only[G0w,G0b]at hb
 subst hb
 exact Q0s hs z
theorem K1t{rs:List AV}{f:AV->AV}{vs:List Value}{d:List Gh}{Φ':Nat->Nat->Prop}{w':World}(e:vs.length=rs.length)(h:∀ (i:Nat) v b,vs[i]?=some v->rs[i]?=some b->ARel d H' Φ' w' v (f b)):ARel d H' Φ' w' (retV vs) (Q1c (rs.map f)):=
 X1l (by simpa using e) (λi v b g hb=>by
  rw[G0x]at hb
  obtain⟨c,j,rfl⟩:=G0g.1 hb
  exact h i v c g j)
theorem Z6g(hS:Q1p E O)(d:OInv E γ H Φ w){f:FuncId}{args:List AV}{g:List Value}(hl:g.length=args.length)(z:∀ (i:Nat) v b,g[i]?=some v->args[i]?=some b->ARel γ H Φ w v b)
 (h:Q0x O H f args=some (r,H')):(∃fn,E.P.funcs[f]?=some fn/\fn.body.isSome=true/\(fn.name=="runtime.NumGoroutine")=false)/\
   Calls E.P f ⟨g⟩ w λe w'=>∃u s Φ',e=.returned u/\Ok E γ H Φ w s H' Φ' w'/\ARel s H' Φ' w' u r:=by
 unfold Q0x at h
 simp only at h
 generalize A:Q5p (Q1l H args++Q1j H (Q1l H args))=sel at h
 have t:sel.Nodup:=by rw[<-A];exact Q7n _
 split at h
 ·rename_i Hs az j C
  split at h
  ·rename_i rs Hr D
   split at h
   ·rename_i F
    simp only[G0b,G1d]at h
    obtain⟨rfl,rfl⟩:=h
    obtain⟨I,J⟩:=hS f az Hs rs Hr D
    obtain⟨ac,K⟩:=Q5s C
    refine⟨J,(I w Φ (Q6h γ sel) g (d.select t j) (by omega) (λi v b m hb=>?_)).mono ?_⟩
    ·have n:i<args.length:=by
      have:=(G0f.1 m).1
      omega
     have x:=z i v args[i] m (G0c n)
     rcases K i args[i] b (G0c n) hb with⟨p,L,rfl⟩|M
     ·exact .pv (Q1q d x L)
     exact x.select d j M
    rintro e w' ⟨vs,s,Φ',rfl,y,N,P⟩
    have S:=d.len
    have T:=y.inv.len
    obtain⟨ad,U⟩:=Q2x j
    have V:∀l∈sel,l<H.length:=by
     intro l W
     obtain⟨i,n,X⟩:=G2e W
     obtain⟨l',o',q,Y,_⟩:=U i (Hs[i]'(by omega)) (G0c (by omega))
     rw[G0c n,X]at q
     injection q with q
     subst q
     exact(G0f.1 Y).1
    exact⟨_,_,Φ',rfl,y.back d t j F,K1t N (λi v b m hb=>(P i v b m hb).back t V S T (by omega))⟩
   cases h
  cases h
 cases h
theorem Z5m(hS:Q1p E O)(j:OInv E γ H Φ w){f:FuncId}{args:List AV}{d:List Value}(m:d.length=args.length)(t:∀ (i:Nat) v b,d[i]?=some v->args[i]?=some b->ARel γ H Φ w v b)
 (h:J9d O H f args=some r):(∃fn,E.P.funcs[f]?=some fn/\fn.body.isSome=true/\(fn.name=="runtime.NumGoroutine")=false)/\
   Calls E.P f ⟨d⟩ w λe w'=>∃u n Φ',e=.returned u/\Ok E γ H Φ w n H Φ' w'/\ARel n H Φ' w' u r:=by
 unfold J9d at h
 split at h
 ·rename_i ps x
  split at h
  ·rename_i rs y
   split at h
   ·rename_i P z
    simp only[G0b]at h
    subst h
    obtain⟨A,C⟩:=hS f _ _ _ _ y
    obtain⟨S,D⟩:=Z0n x
    have q:Q1a H (idx []) []=some []:=rfl
    refine⟨C,(A w Φ (Q6h γ []) d (j.select (by simp) q) (by simp;omega) (λi v b g hb=>?_)).mono ?_⟩
    ·have s:i<args.length:=by
      have:=(G0f.1 g).1
      omega
     rw[G0x]at hb
     obtain⟨p,F,rfl⟩:=G0g.1 hb
     exact .pv (Q1q j (t i v args[i] g (G0c s)) (D i args[i] p (G0c s) F))
    rintro e w' ⟨vs,n,Φ',rfl,I,J,K⟩
    have hb:=I.back j (by simp) q (by simp)
    have L:Q0q H [] []=H:=by
     unfold Q0q
     simp only[List.drop_nil,G2h,G1s]
     refine G3x λl=>?_
     rw[G0x]
     by_cases m:l<H.length
     ·rw[G3f m]
      simp[idx,G0v,m]
     rw[G1a (show(List.range H.length).length<=l by simp;omega),G1a (show H.length<=l by omega)]
     rfl
    rw[L]at hb
    have M:=Z2s z
    refine⟨_,_,Φ',rfl,hb,X1l J (λi v b g hb=>?_)⟩
    have N:=K i v b g hb
    rw[M,G0x]at hb
    obtain⟨p,_,rfl⟩:=G0g.1 hb
    exact .pv (Q0o N)
   cases h
  cases h
 cases h
theorem X6x{P:Program}{v u:Value}{k:EK}{p q:PV}{b:Bool}{t:TypeId}{d:TypeDesc}(g:Rep Φ w v p)(i:Rep Φ w u q)(h:pvEq k p q=some b)(l:P.underlying t=some d)(hk:k.fits d)(n:Nat):
 (Op.equalIn (n+1) t v u).run P w=.ok b w:=by
 unfold pvEq at h
 split at h
 ·obtain⟨j,rfl⟩:=hk
  split at h
  ·rename_i m
   subst m
   injection h with h
   subst h
   have e:=Q2t g
   have f:=Q2t i
   subst e f
   rw[run_equalIn_int w n t _ j _ _ l]
   rfl
  cases h
 ·cases hk
  injection h with h
  subst h
  have e:=Q2a g
  have f:=Q2a i
  subst e f
  rw[run_equalIn_string w n t _ _ l]
  congr 1
  rw[G5t,G3h,G0s,ByteArray.toList_eq,ByteArray.toList_eq]
 ·cases hk
  injection h with h
  subst h
  have e:=Q9g g
  have f:=Q9g i
  subst e f
  exact run_equalIn_bool w n t _ _ l
 cases h
theorem J2y{P:Program}{t:TypeId}{k:EK}{d:TypeDesc}(e:P.underlying t=some d)(hk:k.fits d){xs:List Value}{j:Nat}{v:Value}(f:xs[j]?=some v):(part t ⟨xs⟩ j).run P w=.ok v w:=by
 have b:j<xs.length:=(G0f.1 f).1
 have g:xs[j]=v:=by rw[G0c b]at f;exact G3g f
 unfold part
 cases k with
 | bool=>cases hk;simp[Q4b e,Q8m,b,g]
 | str=>cases hk;simp[Q4b e,Q8m,b,g]
 | int=>obtain⟨k,rfl⟩:=hk;simp[Q4b e,Q8m,b,g]
theorem Q9w:∀ {k1 k2:List EK} {cs ds:List PV} {r:Bool},Q2b (k1++k2) cs ds=some r->∃e f,Q2b k1 (cs.take k1.length) (ds.take k1.length)=some e/\Q2b k2 (cs.drop k1.length) (ds.drop k1.length)=some f/\r=(e&&f)
 | [],k2,cs,ds,r,h=>⟨true,r,rfl,h,by simp⟩
 | k::k1,k2,[],ds,r,h=>by simp[Q2b]at h
 | k::k1,k2,c::cs,[],r,h=>by simp[Q2b]at h
 | k::k1,k2,c::cs,d::ds,r,h=>by
   simp only[G3a,Q2b]at h
   split at h
   ·rename_i a b g hb
    simp only[G0b]at h
    obtain⟨e,f,i,j,l⟩:=Q9w hb
    refine⟨a&&e,f,?_,j,by rw[<-h,l,Bool.and_assoc]⟩
    simp only[G0h,G3r,Q2b,g,i]
   cases h
theorem J6y{P:Program}{t:TypeId}{sub:Array Field}{i:TypeInfo}(b:P.underlying t=some (.struct sub))(d:P.info? t=some i)(xs:List Value)(j:Nat):(part t ⟨xs⟩ j).run P w=.ok (.agg ⟨(xs.drop j).take i.size⟩) w:=by
 have e:(⟨xs⟩:Array Value).extract j (j+i.size)=⟨(xs.drop j).take i.size⟩:=by
  apply G5h
  simp[List.take_drop]
 unfold part
 simp[Q4b b,Q8m,Q1f d]
theorem X3w{P:Program}{n:Nat}{s:List Field}{j:Nat}{ks:List EK}(U:FitsF P n s j ks):∀ {xs ys:List Value} {cs ds:List PV} (_hx:xs.length=cs.length) (_hy:ys.length=ds.length) (_hxr:∀ (k:Nat) v c,xs[k]?=some v->cs[k]?=some c->Rep Φ w v c) (_hyr:∀ (k:Nat) v c,ys[k]?=some v->ds[k]?=some c->Rep Φ w v c) (N:Nat) (_hN:n<=N) (r:Bool),Q2b ks (cs.drop j) (ds.drop j)=some r->
 (Op.eqFields (N+1) ⟨xs⟩ ⟨ys⟩ s).run P w=.ok r w:=by
 induction U with
 | nil n j=>
   intro xs ys cs ds m p g l N I r h
   generalize cs.drop j=a at h
   generalize ds.drop j=b at h
   cases a<;>cases b<;>simp only[Q2b,G0b,reduceCtorEq]at h
   subst h
   rfl
 | @one n f s j k ks d x t hd hk V y=>
   intro xs ys cs ds m p g l N I r h
   have J:j<cs.length:=by
    rcases G4t j cs.length with e|e
    ·exact e
    rw[G2t e]at h
    simp[Q2b]at h
   have K:j<ds.length:=by
    rcases G4t j ds.length with e|e
    ·exact e
    rw[G2t e]at h
    simp[Q2b]at h
   rw[G2p J,G2p K]at h
   simp only[Q2b]at h
   split at h
   ·rename_i a b W hb
    simp only[G0b]at h
    have X:=g j xs[j] cs[j] (G0c (by omega)) (G0c J)
    have Y:=l j ys[j] ds[j] (G0c (by omega)) (G0c K)
    have y:=y m p g l N (by omega) b hb
    have z:(part f.type ⟨xs⟩ f.offset).run P w=.ok xs[j] w:=by rw[t];exact J2y hd hk (G0c (by omega))
    have A:(part f.type ⟨ys⟩ f.offset).run P w=.ok ys[j] w:=by rw[t];exact J2y hd hk (G0c (by omega))
    have C:=X6x (P:=P) X Y W hd hk N
    simp only[Op.eqFields,if_pos x,bind,Sem.run_bind',z,A,C,Result.andThen_ok]
    subst h
    cases a with
    | true=>simpa using y
    | false=>rfl
   cases h
 | @sub n f s j al am sub i x t hd hh L hs e V ac ad=>
   intro xs ys cs ds m p g l N I r h
   subst t
   obtain⟨D,r2,e1,F,e3⟩:=Q9w h
   rw[G6r]at F
   rw[G6r]at F
   have z:=J6y (w:=w) hd L xs f.offset
   have A:=J6y (w:=w) hd L ys f.offset
   have S:∀ {zs:List Value} {bs:List PV},(∀ (k:Nat) v c,zs[k]?=some v->bs[k]?=some c->Rep Φ w v c)->∀ (k:Nat) v c,((zs.drop f.offset).take i.size)[k]?=some v->((bs.drop f.offset).take i.size)[k]?=some c->Rep Φ w v c:=by
    intro zs bs hz k v c q u
    rw[G1l]at q u
    split at q
    ·rename_i hk
     rw[if_pos hk]at u
     rw[G1u]at q u
     exact hz _ v c q u
    cases q
   obtain⟨M,rfl⟩:∃M,N=M+1:=⟨N-1,by omega⟩
   have s1:=ac (xs:=(xs.drop f.offset).take i.size) (ys:=(ys.drop f.offset).take i.size) (cs:=(cs.drop f.offset).take i.size) (ds:=(ds.drop f.offset).take i.size) (by simp[m]) (by simp[p]) (S g) (S l) M (by omega) D (by rw[G3e,G3e,hs];exact e1)
   have s2:=ad m p g l (M+1) (by omega) r2 F
   have T:P.fieldsOf f.type=sub:=by unfold Program.fieldsOf;rw[hd]
   have C:(Op.equalIn (M+1+1) f.type (.agg ⟨(xs.drop f.offset).take i.size⟩) (.agg ⟨(ys.drop f.offset).take i.size⟩)).run P w=.ok D w:=by
    rw[run_equalIn_struct w (M+1) f.type _ _ (by rw[T];exact hd) hh,T]
    exact s1
   simp only[Op.eqFields,if_pos x,bind,Sem.run_bind',z,A,C,Result.andThen_ok]
   subst e3
   cases D with
   | true=>simpa using s2
   | false=>rfl
theorem X1v{t:TypeId}{ks:List EK}(p:E.eqT t=some ks){op:BinOp}{x y:Operand}{v u:Value}{a b r:AV}(e:ARel γ H Φ w v a)(f:ARel γ H Φ w u b)(h:qeq ks op a b=some r):
 ∃z,(do eqGuard op t x y v u;binOp op t v u:Sem Value).run E.P w=.ok z w/\ARel γ H Φ w z r:=by
 obtain⟨fields,i,q,s,n,K,A⟩:=(E.hEq t ks p).ex
 unfold qeq at h
 split at h
 ·rename_i cs ds
  have e:=Q0o e
  have f:=Q0o f
  cases e with
  | agg vs _ C _ D=>
    cases f with
    | agg us _ F _ I=>
      have j:E.P.fieldsOf t=fields:=by unfold Program.fieldsOf;rw[i]
      have l:∀r,Q2b ks cs ds=some r->(Op.equalIn 10000 t (.agg ⟨vs⟩) (.agg ⟨us⟩)).run E.P w=.ok r w:=λr J=>by
       rw[run_equalIn_agg w 9999 t ⟨vs⟩ ⟨us⟩ (by rw[j];exact i) q,j]
       exact X3w A C F D I 9998 (by omega) r (by simpa using J)
      have m:=run_eqGuard_agg (P:=E.P) w op t x y ⟨vs⟩ ⟨us⟩ s
      split at h
      ·obtain⟨d,g,rfl⟩:=G0g.1 h
       refine⟨.bool d,?_,.pv (.bool d)⟩
       simp only[bind,Sem.run_bind',m,Result.andThen_ok,run_eql_struct,l d g]
      ·obtain⟨d,g,rfl⟩:=G0g.1 h
       refine⟨.bool !d,?_,.pv (.bool !d)⟩
       simp only[bind,Sem.run_bind',m,Result.andThen_ok,run_neq_struct,l d g]
      cases h
 cases h
theorem J1v{i:Nat}{f:FuncId}{cs:List Value}{args:Array Operand}{b:Array TypeId}(d:o.op=.call ⟨.value (.tmp i),args,b⟩)(e:a.tmps.getD i undef=.func (.func f) #[] ⟨cs⟩){fn:Func}(g:E.P.funcs[f]?=some fn)(hb:fn.body.isSome=true)(j:(fn.name=="runtime.NumGoroutine")=false):
 (execOp a.eval o).run E.P w=.ok (.enter f (args.map a.eval++⟨cs⟩)) w:=by
 have l:fn.body≠none:=λh=>by simp[h]at hb
 have m:fn.name≠"runtime.NumGoroutine":=by simpa using j
 unfold execOp
 simp only[d]
 have n:a.eval (.tmp i)=.func (.func f) #[] ⟨cs⟩:=e
 simp[resolve,n,Deferred.ofValue,invoke,callFunc,g,m,l]
theorem X4q(hS:Q1p E O)(n:OInv E γ σ.h Φ w)(hs:Slots γ σ.h Φ w a σ.t)(h:aop E O σ o=some (r,H')){K:Act->World->Prop}{Q:Exit->Act->World->Prop}
 (C:∀u w' z Φ',Ok E γ σ.h Φ w z H' Φ' w'->ARel z H' Φ' w' u r->K (a.put o.dst u) w'):o.wp E.P a w K Q:=by
 have one:∀ {s:Sem Value},(∀W:World,(do pure (Next.value (<- s)):Sem Next).run E.P W=(execOp a.eval o).run E.P W)->(∃u w',s.run E.P w=.ok u w'/\Q7w E γ σ.h Φ w r H' u w')->o.wp E.P a w K Q:=by
  rintro s d ⟨u,w',m,z,Φ',D,F⟩
  exact Q2f (by rw[<-d];exact Q0t m) (C u w' z Φ' D F)
 have al:∀ {s:Sem Unit} {H1:List AObj},some (AV.any,H1)=some (r,H')->(∀W:World,(do s;pure .skip:Sem Next).run E.P W=(execOp a.eval o).run E.P W)->(∃w',s.run E.P w=.ok () w'/\∃z Φ',Ok E γ σ.h Φ w z H1 Φ' w')->o.wp E.P a w K Q:=by
  rintro s H1 ae d ⟨w',m,z,Φ',D⟩
  simp only[G0b,G1d]at ae
  obtain⟨rfl,rfl⟩:=ae
  exact X6n (by rw[<-d];exact X1k m) (C undef w' z Φ' D (.any _))
 have ac:(qval E.T σ.t σ.h o.op).map (λr=>(r,σ.h))=some (r,H')->o.wp E.P a w K Q:=by
  intro h
  obtain⟨J,q,d⟩:=G0g.1 h
  simp only[G1d]at d
  obtain⟨rfl,rfl⟩:=d
  obtain⟨u,m,A⟩:=K2d n hs q
  exact Q2f m (C u w γ Φ (.refl n) A)
 unfold aop at h
 split at h
 ·rename_i L g
  exact one (λW=>by unfold execOp;simp only[g]<;>rfl) (J3c n h)
 ·rename_i L x g
  exact one (λW=>by unfold execOp;simp only[g]<;>rfl) (J9t n (Q0s hs x) h)
 ·rename_i L len X g
  split at h
  ·exact one (s:=Instr.buildSlice L len (X.map λ(p:Nat×Operand)=>(p.1,a.eval p.2))) (λW=>by unfold execOp;simp only[g]<;>rfl) (Z6h n (by simp) (Z5r hs X) h)
  exact one (s:=Instr.buildSlice L len (X.map λ(p:Nat×Operand)=>(p.1,a.eval p.2))) (λW=>by unfold execOp;simp only[g]<;>rfl) (Z2o n (by simp) (Z5r hs X) h)
 ·rename_i L p x g
  obtain⟨H1,am,d⟩:=G0g.1 h
  exact al (G3t some d) (λW=>by unfold execOp;simp only[g]<;>rfl) (J2z n (Q0s hs p) (Q0s hs x) am)
 ·rename_i L x y g
  exact one (λW=>by unfold execOp;simp only[g]<;>rfl) (Z4j n (Q0s hs x) (Q0s hs y) h)
 ·rename_i args I g
  split at h
  ·rename_i x y t1 t2 U Y
   split at h
   ·rename_i ao
    subst ao
    have P:args=#[x,y]:=by rw[<-G3l (xs:=args),U]
    have hat:I=#[t1,t1]:=by rw[<-G3l (xs:=I),Y]
    subst P;subst hat
    obtain⟨u,w',m,z,Φ',D,F⟩:=J0s (t:=o.type) n (Q0s hs x) (Q0s hs y) h
    refine Q2f ?_ (C u w' z Φ' D F)
    unfold execOp
    simp only[g,resolve,bind,Sem.run_bind']
    simp only[pure,Sem.run_pure',Result.andThen_ok,invoke,builtin]
    exact Q0t (by simpa using m)
   have P:args=#[x,y]:=by rw[<-G3l (xs:=args),U]
   have hat:I=#[t1,t2]:=by rw[<-G3l (xs:=I),Y]
   subst P;subst hat
   obtain⟨u,w',m,z,Φ',D,F⟩:=Z7v (t:=o.type) n (Q0s hs x) (Q0s hs y) h
   refine Q2f ?_ (C u w' z Φ' D F)
   unfold execOp
   simp only[g,resolve,bind,Sem.run_bind']
   simp only[pure,Sem.run_pure',Result.andThen_ok,invoke,builtin]
   exact Q0t (by simpa using m)
  cases h
 ·rename_i args I g
  split at h
  ·rename_i x U
   obtain⟨J,q,d⟩:=G0g.1 h
   simp only[G1d]at d
   obtain⟨rfl,rfl⟩:=d
   have P:args=#[x]:=by rw[<-G3l (xs:=args),U]
   subst P
   obtain⟨u,m,A⟩:=J2a (E:=E) (ts:=I) (t:=o.type) n (Q0s hs x) q
   refine Q2f ?_ (C u w γ Φ (.refl n) A)
   unfold execOp
   simp only[g,resolve,bind,Sem.run_bind']
   simp only[pure,Sem.run_pure',Result.andThen_ok,invoke,builtin]
   exact Q0t (by simpa using m)
  cases h
 ·rename_i args I g
  split at h
  ·rename_i x y pt it U Y
   obtain⟨J,q,d⟩:=G0g.1 h
   simp only[G1d]at d
   obtain⟨rfl,rfl⟩:=d
   have P:args=#[x,y]:=by rw[<-G3l (xs:=args),U]
   have hat:I=#[pt,it]:=by rw[<-G3l (xs:=I),Y]
   subst P;subst hat
   obtain⟨u,w',m,z,Φ',D,F⟩:=J4g (it:=it) (t:=o.type) n (Q0s hs x) (Q0s hs y) q
   refine Q2f ?_ (C u w' z Φ' D F)
   unfold execOp
   simp only[g,resolve,bind,Sem.run_bind']
   simp only[pure,Sem.run_pure',Result.andThen_ok,invoke,builtin]
   exact Q0t (by simpa using m)
  cases h
 ·rename_i f args I g
  have aa:(args.toList.map a.eval).length=(args.toList.map (ev σ.t)).length:=by simp
  have N:(⟨args.toList.map a.eval⟩:Array Value)=args.map a.eval:=by
   apply G5h
   simp
  split at h
  ·obtain⟨J,q,d⟩:=G0g.1 h
   simp only[G1d]at d
   obtain⟨rfl,rfl⟩:=d
   obtain⟨⟨fn,S,hb,T⟩,M⟩:=Z5m hS n aa (Q7q hs args) q
   unfold Oper.wp
   rw[Z4p g S hb T]
   rw[N]at M
   refine M.mono ?_
   rintro e w' ⟨u,z,Φ',rfl,D,F⟩
   exact C u w' z Φ' D F
  obtain⟨⟨fn,S,hb,T⟩,M⟩:=Z6g hS n aa (Q7q hs args) h
  unfold Oper.wp
  rw[Z4p g S hb T]
  rw[N]at M
  refine M.mono ?_
  rintro e w' ⟨u,z,Φ',rfl,D,F⟩
  exact C u w' z Φ' D F
 ·rename_i i args I g
  split at h
  ·rename_i f af ar
   have A:=hs i
   rw[ar]at A
   generalize ag:a.tmps.getD i undef=vi at A
   cases A with
   | fn _ cs _ aa au=>
     have ah:(args.toList.map a.eval++cs).length=(args.toList.map (ev σ.t)++af.map λl=>AV.ref l 0).length:=by simp[aa]
     have N:(⟨args.toList.map a.eval++cs⟩:Array Value)=args.map a.eval++⟨cs⟩:=by
      apply G5h
      simp
     have aj:∀ (j:Nat) v b,(args.toList.map a.eval++cs)[j]?=some v->(args.toList.map (ev σ.t)++af.map λl=>AV.ref l 0)[j]?=some b->ARel γ σ.h Φ w v b:=by
      intro j v b V hb
      by_cases hj:j<args.toList.length
      ·rw[G0l (by simpa using hj)]at V hb
       exact Q7q hs args j v b V hb
      rw[G0m (by simpa using hj)]at V hb
      simp only[G1m]at V hb
      rw[G0x]at hb
      obtain⟨l,hl,rfl⟩:=G0g.1 hb
      obtain⟨b',rfl,hg⟩:=au _ v l V hl
      exact .ref b' l 0 hg
     split at h
     ·obtain⟨J,q,d⟩:=G0g.1 h
      simp only[G1d]at d
      obtain⟨rfl,rfl⟩:=d
      obtain⟨⟨fn,S,hb,T⟩,M⟩:=Z5m hS n ah aj q
      unfold Oper.wp
      rw[J1v g ag S hb T]
      rw[N]at M
      refine M.mono ?_
      rintro e w' ⟨u,z,Φ',rfl,D,F⟩
      exact C u w' z Φ' D F
     obtain⟨⟨fn,S,hb,T⟩,M⟩:=Z6g hS n ah aj h
     unfold Oper.wp
     rw[J1v g ag S hb T]
     rw[N]at M
     refine M.mono ?_
     rintro e w' ⟨u,z,Φ',rfl,D,F⟩
     exact C u w' z Φ' D F
  cases h
 ·rename_i args I g
  obtain⟨J,q,d⟩:=G0g.1 h
  simp only[G1d]at d
  obtain⟨rfl,rfl⟩:=d
  obtain⟨u,m,A⟩:=J2e (E:=E) false (vs:=args.toList.map a.eval) (by simp) (Q7q hs args) q I o.type
  have N:(⟨args.toList.map a.eval⟩:Array Value)=args.map a.eval:=by
   apply G5h
   simp
  rw[N]at m
  refine Q2f ?_ (C u w γ Φ (.refl n) A)
  unfold execOp
  simp only[g,resolve,bind,Sem.run_bind']
  simp only[pure,Sem.run_pure',Result.andThen_ok,invoke,builtin]
  exact Q0t (by simpa using m)
 ·rename_i args I g
  obtain⟨J,q,d⟩:=G0g.1 h
  simp only[G1d]at d
  obtain⟨rfl,rfl⟩:=d
  obtain⟨u,m,A⟩:=J2e (E:=E) true (vs:=args.toList.map a.eval) (by simp) (Q7q hs args) q I o.type
  have N:(⟨args.toList.map a.eval⟩:Array Value)=args.map a.eval:=by
   apply G5h
   simp
  rw[N]at m
  refine Q2f ?_ (C u w γ Φ (.refl n) A)
  unfold execOp
  simp only[g,resolve,bind,Sem.run_bind']
  simp only[pure,Sem.run_pure',Result.andThen_ok,invoke,builtin]
  exact Q0t (by simpa using m)
 ·rename_i L ps g
  split at h
  ·obtain⟨J,q,d⟩:=G0g.1 h
   simp only[G1d]at d
   obtain⟨rfl,rfl⟩:=d
   obtain⟨u,m,A⟩:=J0b (γ:=γ) (H:=σ.h) (Φ:=Φ) (w:=w) (vparts:=ps.map λ(p:Nat×Operand)=>(p.1,a.eval p.2)) (by simp) (Z5r hs ps) q
   refine Q2f ?_ (C u w γ Φ (.refl n) A)
   unfold execOp
   simp only[g]
   exact Q0t m
  refine ac ?_
  rw[g]
  exact h
 ·rename_i L x f g
  obtain⟨J,q,d⟩:=G0g.1 h
  simp only[G1d]at d
  obtain⟨rfl,rfl⟩:=d
  obtain⟨u,m,A⟩:=J2g (Q0s hs x) q
  refine Q2f ?_ (C u w γ Φ (.refl n) A)
  unfold execOp
  simp only[g]
  exact Q0t m
 ·rename_i L x g
  obtain⟨J,q,d⟩:=G0g.1 h
  simp only[G1d]at d
  obtain⟨rfl,rfl⟩:=d
  obtain⟨m,A⟩:=J8z (Q0s hs x) q
  refine Q2f ?_ (C _ w γ Φ (.refl n) A)
  unfold execOp
  simp only[g]
  exact Q0t m
 ·rename_i op L x y yt g
  split at h
  ·rename_i hy
   obtain⟨J,q,d⟩:=G0g.1 h
   simp only[G1d]at d
   obtain⟨rfl,rfl⟩:=d
   have ay:=X7o hy
   subst ay
   obtain⟨u,m,A⟩:=J4i op L x (Q0s hs x) q
   refine Q2f ?_ (C u w γ Φ (.refl n) A)
   unfold execOp
   simp only[g]
   exact Q0t m
  split at h
  ·rename_i ks az
   obtain⟨J,q,d⟩:=G0g.1 h
   simp only[G1d]at d
   obtain⟨rfl,rfl⟩:=d
   obtain⟨u,m,A⟩:=X1v (x:=x) (y:=y) az (Q0s hs x) (Q0s hs y) q
   refine Q2f ?_ (C u w γ Φ (.refl n) A)
   unfold execOp
   simp only[g]
   exact Q0t m
  refine ac ?_
  rw[g]
  exact h
 exact ac h
end
end Go.Abs
namespace Go.Abs
open Go.RowKit
section
variable {E:Env}{O:Orc}{γ₀:List Gh}{H₀:List AObj}{Φ₀:Nat->Nat->Prop}{w₀:World}{σ σ':St}{a:Act}{w:World}
theorem J8k{γ:List Gh}{H:List AObj}{Φ:Nat->Nat->Prop}{t:Nat->AV}(hs:Slots γ H Φ w a t){ops:Array Oper}{j g:Nat}{b:Bool}(i:(ops[j]?).bind (·.dst)=some g)(hb:t g=.pv (.bool b)):yielded ops a.tmps j=some b:=by
 have h:=hs g
 rw[hb]at h
 have d:=Q9g (Q0o h)
 have f:g<a.tmps.size:=by
  rcases G4t g a.tmps.size with e|e
  ·exact e
  rw[G2m,G6y e]at d
  simp[undef]at d
 have l:a.tmps[g]?=some (.bool b):=by
  rw[G2m,G2k f]at d
  rw[G2k f]
  exact G3t some d
 unfold yielded
 rw[i]
 simp[l]
theorem J1p{γ:List Gh}{H:List AObj}{Φ:Nat->Nat->Prop}:ARel γ H Φ w undef (.tup []):=.tup [] [] rfl (λk v c b=>by simp at b)
theorem J9z{γ:List Gh}{H:List AObj}{Φ:Nat->Nat->Prop}{v:Value}(h:ARel γ H Φ w v (.tup [])):v=undef:=by
 cases h with
 | tup b vs d _=>
   have:b=[]:=G1g d
   subst this
   rfl
theorem Z9o{γ:List Gh}{H:List AObj}{Φ:Nat->Nat->Prop}{t:Nat->AV}(hs:Slots γ H Φ w a t){ops:Array Oper}{j g:Nat}(e:(ops[j]?).bind (·.dst)=some g)(hb:t g=.tup []):yielded ops a.tmps j=none:=by
 have h:=hs g
 rw[hb]at h
 have d:=J9z h
 unfold yielded
 rw[e]
 simp only[G0a]
 split
 ·rename_i b hb
  rw[G2m,hb]at d
  simp[undef]at d
 rfl
theorem Q5d(hS:Q1p E O){ops:Array Oper}{o:Oper}(h:Q8a E O ops σ o=some σ')(t:Rel E γ₀ H₀ Φ₀ w₀ σ a w){K:Act->World->Prop}{Q:Exit->Act->World->Prop}(i:∀p w',Rel E γ₀ H₀ Φ₀ w₀ σ' p w'->K p w'):
 if Region.wanted o (yielded ops a.tmps)=true then o.wp E.P a w K Q else K (a.put o.dst undef) w:=by
 obtain⟨⟨γ,Φ,d,hs⟩,l,hd,m⟩:=t
 have q:((aop E O σ o).bind λr=>put σ o.dst r.1 r.2)=some σ'->o.wp E.P a w K Q:=by
  intro h
  obtain⟨⟨r,H'⟩,x,y⟩:=G1n.1 h
  exact X4q hS d.inv hs x (λu w' A Φ' hk z=>i _ _ (Z9z d hs l hd m hk (.inr z) y))
 unfold Q8a at h
 split at h
 ·rename_i e
  rw[if_pos (by simp[Region.wanted,e])]
  exact q h
 rename_i j C e
 split at h
 ·rename_i g s
  split at h
  ·rename_i b hb
   have f:=J8k hs s hb
   split at h
   ·rename_i n
    rw[if_pos (by simp[Region.wanted,e,f,n])]
    exact q h
   rename_i n
   rw[if_neg (by simp[Region.wanted,e,f,n])]
   exact i _ _ (Z9z d hs l hd m (.refl d.inv) (.inr J1p) h)
  ·rename_i hb
   have f:=Z9o hs s hb
   rw[if_neg (by simp[Region.wanted,e,f])]
   exact i _ _ (Z9z d hs l hd m (.refl d.inv) (.inr J1p) h)
  cases h
 cases h
theorem Z8u(hS:Q1p E O){ops:Array Oper}{Q:Exit->Act->World->Prop}:∀ (l:List Oper) (σ:St) (a:Act) (w:World),arun E O ops l σ=some σ'->Rel E γ₀ H₀ Φ₀ w₀ σ a w->
 (∀b w',Rel E γ₀ H₀ Φ₀ w₀ σ' b w'->Q .normal b w')->wpList E.P ops Q l a w
 | [],σ,a,w,h,d,e=>by
   simp only[arun,G0b]at h
   subst h
   exact e a w d
 | o::l,σ,a,w,h,d,e=>by
   obtain⟨f,g,i⟩:=G1n.1 h
   exact wpList_step λK j=>Q5d hS g d (λb w' m=>j b w' (Z8u hS l f b w' i m e))
def AW(E:Env)(k:Nat)(c:Code)(Q:Exit->St->Prop)(σ:St):Prop:=
 ∀γ₀ H₀ Φ₀ w₀ a w,H₀.length=k->Rel E γ₀ H₀ Φ₀ w₀ σ a w->c.wp E.P (λe b w'=>∃σ',Rel E γ₀ H₀ Φ₀ w₀ σ' b w'/\Q e σ') a w
def Z1b(next:St->Prop)(Q:Exit->St->Prop):Exit->St->Prop
 | .normal,σ=>next σ
 | e,σ=>Q e σ
def K0f(id:Nat)(Q:Exit->St->Prop):Exit->St->Prop
 | .exit b,σ=>if b=id then Q .normal σ else Q (.exit b) σ
 | e,σ=>Q e σ
variable {Q:Exit->St->Prop}{k:Nat}
theorem AW.mono{c:Code}{b:Exit->St->Prop}(h:AW E k c Q σ)(hq:∀e σ,Q e σ->b e σ):AW E k c b σ:=
 λγ₀ H₀ Φ₀ w₀ a w d f=>wp_mono (h γ₀ H₀ Φ₀ w₀ a w d f) (λe _ _ ⟨σ',g,i⟩=>⟨σ',g,hq e σ' i⟩)
theorem AW.region(hS:Q1p E O){id:Nat}{ops:Array Oper}(h:arun E O ops ops.toList σ=some σ')(b:Q .normal σ'):AW E k (.region id ops false) Q σ:=
 λ_ _ _ _ a w _ d=>wp_region_list (Z8u hS ops.toList σ a w h d (λ_ _ e=>⟨σ',e,b⟩))
theorem AW.seq{x y:Code}(h:AW E k x (Z1b (AW E k y Q) Q) σ):AW E k (.seq x y) Q σ:=by
 intro γ₀ H₀ Φ₀ w₀ a w b g
 refine wp_seq (wp_mono (h γ₀ H₀ Φ₀ w₀ a w b g) (λe i w' ⟨σ',d,f⟩=>?_))
 cases e with
 | normal=>exact f γ₀ H₀ Φ₀ w₀ i w' b d
 | _=>exact⟨σ',d,f⟩
theorem AW.cond{c:Operand}{x y:Code}{b:Bool}(f:ev σ.t c=.pv (.bool b))(g:b=true->AW E k x Q σ)(i:b=false->AW E k y Q σ):AW E k (.cond c x y) Q σ:=by
 intro γ₀ H₀ Φ₀ w₀ a w e d
 have j:=d
 obtain⟨⟨γ,Φ,l,hs⟩,_,_,_⟩:=j
 have h:=Q0s hs c
 rw[f]at h
 exact wp_cond_split (Q9g (Q0o h)) (λhb=>g hb γ₀ H₀ Φ₀ w₀ a w e d) (λhb=>i hb γ₀ H₀ Φ₀ w₀ a w e d)
theorem AW.skip(h:Q .normal σ):AW E k .skip Q σ:=λ_ _ _ _ _ _ _ b=>wp_skip ⟨σ,b,h⟩
theorem AW.ret(h:Q .ret σ):AW E k .ret Q σ:=λ_ _ _ _ _ _ _ b=>wp_ret ⟨σ,b,h⟩
theorem AW.exit{id:Nat}(h:Q (.exit id) σ):AW E k (.exit id) Q σ:=λ_ _ _ _ _ _ _ b=>wp_exit ⟨σ,b,h⟩
theorem AW.block{id:Nat}{c:Code}(h:AW E k c (K0f id Q) σ):AW E k (.block id c) Q σ:=by
 intro γ₀ H₀ Φ₀ w₀ a w g i
 refine wp_block (wp_mono (h γ₀ H₀ Φ₀ w₀ a w g i) (λe j w' ⟨σ',d,b⟩=>?_))
 cases e with
 | exit l=>
   simp only[K0f]at b
   simp only[Exit.inBlock]
   split
   ·rename_i f
    rw[if_pos f]at b
    exact⟨σ',d,b⟩
   rename_i f
   rw[if_neg f]at b
   exact⟨σ',d,b⟩
 | _=>exact⟨σ',d,b⟩
def Weak(E:Env)(k:Nat)(σ σ':St):Prop:=∀γ₀ H₀ Φ₀ w₀ a w,H₀.length=k->Rel E γ₀ H₀ Φ₀ w₀ σ a w->Rel E γ₀ H₀ Φ₀ w₀ σ' a w
theorem Weak.refl(σ:St):Weak E k σ σ:=λ_ _ _ _ _ _ _ h=>h
theorem Weak.trans{b d σ₃:St}(h:Weak E k b d)(h':Weak E k d σ₃):Weak E k b σ₃:=λ_ _ _ _ _ _ e f=>h' _ _ _ _ _ _ e (h _ _ _ _ _ _ e f)
theorem AW.weak{c:Code}(d:Weak E k σ σ')(h:AW E k c Q σ'):AW E k c Q σ:=λγ₀ H₀ Φ₀ w₀ a w b e=>h γ₀ H₀ Φ₀ w₀ a w b (d γ₀ H₀ Φ₀ w₀ a w b e)
theorem X7l(p:Nat->Prop)(h:∃n,p n):∃n,p n/\∀m,p m->n<=m:=by
 obtain⟨n,f⟩:=h
 induction n using Nat.strongRecOn with
 | _ n g=>
   by_cases e:∃m,m<n/\p m
   ·obtain⟨m,b,d⟩:=e
    exact g m b d
   exact⟨n,f,λm d=>Nat.le_of_not_lt λb=>e ⟨m,b,d⟩⟩
open Classical in
theorem AW.loop{c:Code}(I:St->Prop)(b:St->Nat)(t:I σ)(u:∀σ,I σ->AW E k c (Z1b (λσ'=>∃σ'',Weak E k σ' σ''/\I σ''/\b σ''<b σ) Q) σ):AW E k (.loop c) Q σ:=by
 intro γ₀ H₀ Φ₀ w₀ a w f x
 let p:Act->World->Nat->Prop:=λa w n=>∃σ,Rel E γ₀ H₀ Φ₀ w₀ σ a w/\I σ/\b σ=n
 let m:Act->World->Nat:=λa w=>if h:∃n,p a w n then Classical.choose (X7l (p a w) h)else 0
 have g:∀a w,(∃n,p a w n)->p a w (m a w)/\∀n,p a w n->m a w<=n:=by
  intro a w h
  have:=G5d (X7l (p a w) h)
  simp only[m,dif_pos h]
  exact this
 refine wp_loop (λa w=>∃n,p a w n) m ⟨b σ,σ,x,t,rfl⟩ (λa w y=>?_)
 obtain⟨⟨z,A,C,F⟩,J⟩:=g a w y
 refine wp_mono (u z C γ₀ H₀ Φ₀ w₀ a w f A) (λe d w' ⟨σ',i,j⟩=>?_)
 cases e with
 | normal=>
   obtain⟨σ'',D,l,K⟩:=j
   have q:=D γ₀ H₀ Φ₀ w₀ d w' f i
   have s:∃n,p d w' n:=⟨b σ'',σ'',q,l,rfl⟩
   exact⟨s,by have:=(g d w' s).2 (b σ'') ⟨σ'',q,l,rfl⟩;omega⟩
 | _=>exact⟨σ',i,j⟩
end
end Go.Abs
