import Derived.Test.YtljahlbklgnfhaaGreatDoorA17
import Derived.Laws.StructEq
set_option linter.unusedVariables false
set_option linter.unusedSimpArgs false
set_option linter.defProp false
namespace Go.Abs
open Go.RowKit
section
variable {E:Env}{O:Orc}{γ:List Gh}{H H':List AObj}{Φ:Nat->Nat->Prop}{w:World}{a:Act}{σ:St}{o:Oper}{r:AV}
theorem Q2m{K:Act->World->Prop}{Q:Exit->Act->World->Prop}{u:Value}{w':World}(h:(execOp a.eval o).run E.P w=.ok (.value u) w')(b:K (a.put o.dst u) w'):o.wp E.P a w K Q:=by
 unfold Oper.wp
 rw[h]
 exact b
theorem K2s{K:Act->World->Prop}{Q:Exit->Act->World->Prop}{w':World}(h:(execOp a.eval o).run E.P w=.ok .skip w')(b:K (a.put o.dst undef) w'):o.wp E.P a w K Q:=by
 unfold Oper.wp
 rw[h]
 exact b
theorem X7b{s:Sem Unit}{w':World}(h:s.run E.P w=.ok () w'):(do s;pure .skip:Sem Next).run E.P w=.ok .skip w':=by
 simp only[bind,G1n,h,G1b]
 rfl
theorem Z6k{f:FuncId}{args:Array Operand}{b:Array TypeId}(d:o.op=.call ⟨.value (.func f),args,b⟩){fn:Func}(e:E.P.funcs[f]?=some fn)(hb:fn.body.isSome=true)(g:(fn.name=="runtime.NumGoroutine")=false):
 (execOp a.eval o).run E.P w=.ok (.enter f (args.map a.eval)) w:=by
 have i:fn.body≠none:=λh=>by simp[h]at hb
 have j:fn.name≠"runtime.NumGoroutine":=by simpa using g
 unfold execOp
 simp only[d]
 simp[resolve,Act.eval,Deferred.ofValue,invoke,callFunc,e,j,i]
theorem Z7z{t:Nat->AV}(hs:Slots γ H Φ w a t)(Q0l:Array (Nat×Operand)):∀ (j:Nat) (p:Nat×AV) (q:Nat×Value),(Q0l.toList.map λp=>(p.1,ev t p.2))[j]?=some p->(Q0l.map λ(p:Nat×Operand)=>(p.1,a.eval p.2))[j]?=some q->q.1=p.1/\ARel γ H Φ w q.2 p.2:=by
 intro j p q b hq
 rw[G1i]at b
 rw[Array.getElem?_map]at hq
 obtain⟨z,d,rfl⟩:=G0k.1 b
 rw[G2j]at d
 rw[d]at hq
 simp only[G1s,G0c]at hq
 subst hq
 exact⟨rfl,Q0u hs z.2⟩
theorem Q8e{t:Nat->AV}(hs:Slots γ H Φ w a t)(args:Array Operand):∀ (i:Nat) v b,(args.toList.map a.eval)[i]?=some v->(args.toList.map (ev t))[i]?=some b->ARel γ H Φ w v b:=by
 intro i v b d hb
 rw[G1i]at d hb
 obtain⟨z,e,rfl⟩:=G0k.1 d
 rw[e]at hb
 simp only[G1s,G0c]at hb
 subst hb
 exact Q0u hs z
theorem K9n{rs:List AV}{f:AV->AV}{vs:List Value}{d:List Gh}{Φ':Nat->Nat->Prop}{w':World}(e:vs.length=rs.length)(h:∀ (i:Nat) v b,vs[i]?=some v->rs[i]?=some b->ARel d H' Φ' w' v (f b)):ARel d H' Φ' w' (retV vs) (Q6w (rs.map f)):=
 X7d (by simpa using e) (λi v b g hb=>by
  rw[G1i]at hb
  obtain⟨c,j,rfl⟩:=G0k.1 hb
  exact h i v c g j)
theorem Z8p(hS:Q2d E O)(d:OInv E γ H Φ w){f:FuncId}{args:List AV}{g:List Value}(hl:g.length=args.length)(A:∀ (i:Nat) v b,g[i]?=some v->args[i]?=some b->ARel γ H Φ w v b)
 (h:Q4u O H f args=some (r,H')):(∃fn,E.P.funcs[f]?=some fn/\fn.body.isSome=true/\(fn.name=="runtime.NumGoroutine")=false)/\
   Calls E.P f ⟨g⟩ w λe w'=>∃u t Φ',e=.returned u/\Ok E γ H Φ w t H' Φ' w'/\ARel t H' Φ' w' u r:=by
 unfold Q4u at h
 simp only at h
 generalize C:Q6f (Q1t H args++Q1k H (Q1t H args))=sel at h
 have x:sel.Nodup:=by rw[<-C];exact Q7z _
 split at h
 ·rename_i Hs az j D
  split at h
  ·rename_i rs Hr F
   split at h
   ·rename_i I
    simp only[G0c,G1k]at h
    obtain⟨rfl,rfl⟩:=h
    obtain⟨J,K⟩:=hS f az Hs rs Hr F
    obtain⟨ad,L⟩:=Q6j D
    refine⟨K,(J w Φ (Q6v γ sel) g (d.select x j) (by omega) (λi v b m hb=>?_)).mono ?_⟩
    ·have n:i<args.length:=by
      have:=(G0j.1 m).1
      omega
     have y:=A i v args[i] m (G0f n)
     rcases L i args[i] b (G0f n) hb with⟨p,M,rfl⟩|N
     ·exact .pv (Q2b d y M)
     exact y.select d j N
    rintro e w' ⟨vs,t,Φ',rfl,z,P,S⟩
    have T:=d.len
    have U:=z.inv.len
    obtain⟨ae,V⟩:=Q3d j
    have W:∀l∈sel,l<H.length:=by
     intro l X
     obtain⟨i,n,Y⟩:=G3f X
     obtain⟨l',o',q,h2,_⟩:=V i (Hs[i]'(by omega)) (G0f (by omega))
     rw[G0f n,Y]at q
     injection q with q
     subst q
     exact(G0j.1 h2).1
    exact⟨_,_,Φ',rfl,z.back d x j I,K9n P (λi v b m hb=>(S i v b m hb).back x W T U (by omega))⟩
   cases h
  cases h
 cases h
theorem Z7r(hS:Q2d E O)(j:OInv E γ H Φ w){f:FuncId}{args:List AV}{d:List Value}(m:d.length=args.length)(x:∀ (i:Nat) v b,d[i]?=some v->args[i]?=some b->ARel γ H Φ w v b)
 (h:X4m O H f args=some r):(∃fn,E.P.funcs[f]?=some fn/\fn.body.isSome=true/\(fn.name=="runtime.NumGoroutine")=false)/\
   Calls E.P f ⟨d⟩ w λe w'=>∃u n Φ',e=.returned u/\Ok E γ H Φ w n H Φ' w'/\ARel n H Φ' w' u r:=by
 unfold X4m at h
 split at h
 ·rename_i ps y
  split at h
  ·rename_i rs z
   split at h
   ·rename_i S A
    simp only[G0c]at h
    subst h
    obtain⟨C,D⟩:=hS f _ _ _ _ z
    obtain⟨T,F⟩:=Z1p y
    have q:Q1c H (idx []) []=some []:=rfl
    refine⟨D,(C w Φ (Q6v γ []) d (j.select (by simp) q) (by simp;omega) (λi v b g hb=>?_)).mono ?_⟩
    ·have t:i<args.length:=by
      have:=(G0j.1 g).1
      omega
     rw[G1i]at hb
     obtain⟨p,I,rfl⟩:=G0k.1 hb
     exact .pv (Q2b j (x i v args[i] g (G0f t)) (F i args[i] p (G0f t) I))
    rintro e w' ⟨vs,n,Φ',rfl,J,K,L⟩
    have hb:=J.back j (by simp) q (by simp)
    have M:Q0r H [] []=H:=by
     unfold Q0r
     simp only[List.drop_nil,G3q,G0n]
     refine G4n λl=>?_
     rw[G1i]
     by_cases m:l<H.length
     ·rw[G4f m]
      simp[idx,G0y,m]
     rw[G2c (show(List.range H.length).length<=l by simp;omega),G2c (show H.length<=l by omega)]
     rfl
    rw[M]at hb
    have N:=Z4g A
    refine⟨_,_,Φ',rfl,hb,X7d K (λi v b g hb=>?_)⟩
    have P:=L i v b g hb
    rw[N,G1i]at hb
    obtain⟨p,_,rfl⟩:=G0k.1 hb
    exact .pv (Q0p P)
   cases h
  cases h
 cases h
theorem K3l{P:Program}{v u:Value}{k:EK}{p q:PV}{b:Bool}{t:TypeId}{d:TypeDesc}(g:Rep Φ w v p)(i:Rep Φ w u q)(h:pvEq k p q=some b)(l:P.underlying t=some d)(hk:k.fits d)(n:Nat):
 (Op.equalIn (n+1) t v u).run P w=.ok b w:=by
 unfold pvEq at h
 split at h
 ·obtain⟨j,rfl⟩:=hk
  split at h
  ·rename_i m
   subst m
   injection h with h
   subst h
   have e:=Q2v g
   have f:=Q2v i
   subst e f
   rw[run_equalIn_int w n t _ j _ _ l]
   rfl
  cases h
 ·cases hk
  injection h with h
  subst h
  have e:=Q1z g
  have f:=Q1z i
  subst e f
  rw[run_equalIn_string w n t _ _ l]
  congr 1
  rw[G6d,G3o,G0l,ByteArray.toList_eq,ByteArray.toList_eq]
 ·cases hk
  injection h with h
  subst h
  have e:=Z0a g
  have f:=Z0a i
  subst e f
  exact run_equalIn_bool w n t _ _ l
 cases h
theorem J6j{P:Program}{t:TypeId}{k:EK}{d:TypeDesc}(e:P.underlying t=some d)(hk:k.fits d){xs:List Value}{j:Nat}{v:Value}(f:xs[j]?=some v):(part t ⟨xs⟩ j).run P w=.ok v w:=by
 have b:j<xs.length:=(G0j.1 f).1
 have g:xs[j]=v:=by rw[G0f b]at f;exact G3p f
 unfold part
 cases k with
 | bool=>cases hk;simp[Q4m e,Q8y,b,g]
 | str=>cases hk;simp[Q4m e,Q8y,b,g]
 | int=>obtain⟨k,rfl⟩:=hk;simp[Q4m e,Q8y,b,g]
theorem Z0v:∀ {k1 k2:List EK} {cs ds:List PV} {r:Bool},Q2l (k1++k2) cs ds=some r->∃e f,Q2l k1 (cs.take k1.length) (ds.take k1.length)=some e/\Q2l k2 (cs.drop k1.length) (ds.drop k1.length)=some f/\r=(e&&f)
 | [],k2,cs,ds,r,h=>⟨true,r,rfl,h,by simp⟩
 | k::k1,k2,[],ds,r,h=>by simp[Q2l]at h
 | k::k1,k2,c::cs,[],r,h=>by simp[Q2l]at h
 | k::k1,k2,c::cs,d::ds,r,h=>by
   simp only[G1d,Q2l]at h
   split at h
   ·rename_i a b g hb
    simp only[G0c]at h
    obtain⟨e,f,i,j,l⟩:=Z0v hb
    refine⟨a&&e,f,?_,j,by rw[<-h,l,G6l]⟩
    simp only[G0i,G3w,Q2l,g,i]
   cases h
theorem X1k{P:Program}{t:TypeId}{sub:Array Field}{i:TypeInfo}(b:P.underlying t=some (.struct sub))(d:P.info? t=some i)(xs:List Value)(j:Nat):(part t ⟨xs⟩ j).run P w=.ok (.agg ⟨(xs.drop j).take i.size⟩) w:=by
 have e:(⟨xs⟩:Array Value).extract j (j+i.size)=⟨(xs.drop j).take i.size⟩:=by
  apply G6h
  simp[List.take_drop]
 unfold part
 simp[Q4m b,Q8y,Q1q d]
theorem X9p{P:Program}{n:Nat}{t:List Field}{j:Nat}{ks:List EK}(V:FitsF P n t j ks):∀ {xs ys:List Value} {cs ds:List PV} (_hx:xs.length=cs.length) (_hy:ys.length=ds.length) (_hxr:∀ (k:Nat) v c,xs[k]?=some v->cs[k]?=some c->Rep Φ w v c) (_hyr:∀ (k:Nat) v c,ys[k]?=some v->ds[k]?=some c->Rep Φ w v c) (N:Nat) (_hN:n<=N) (r:Bool),Q2l ks (cs.drop j) (ds.drop j)=some r->
 (Op.eqFields (N+1) ⟨xs⟩ ⟨ys⟩ t).run P w=.ok r w:=by
 induction V with
 | nil n j=>
   intro xs ys cs ds m p g l N J r h
   generalize cs.drop j=a at h
   generalize ds.drop j=b at h
   cases a<;>cases b<;>simp only[Q2l,G0c,reduceCtorEq]at h
   subst h
   rfl
 | @one n f t j k ks d y u hd hk W z=>
   intro xs ys cs ds m p g l N J r h
   have K:j<cs.length:=by
    rcases G6r j cs.length with e|e
    ·exact e
    rw[G2f e]at h
    simp[Q2l]at h
   have L:j<ds.length:=by
    rcases G6r j ds.length with e|e
    ·exact e
    rw[G2f e]at h
    simp[Q2l]at h
   rw[G4p K,G4p L]at h
   simp only[Q2l]at h
   split at h
   ·rename_i a b X hb
    simp only[G0c]at h
    have Y:=g j xs[j] cs[j] (G0f (by omega)) (G0f K)
    have aa:=l j ys[j] ds[j] (G0f (by omega)) (G0f L)
    have z:=z m p g l N (by omega) b hb
    have A:(part f.type ⟨xs⟩ f.offset).run P w=.ok xs[j] w:=by rw[u];exact J6j hd hk (G0f (by omega))
    have C:(part f.type ⟨ys⟩ f.offset).run P w=.ok ys[j] w:=by rw[u];exact J6j hd hk (G0f (by omega))
    have D:=K3l (P:=P) Y aa X hd hk N
    simp only[Op.eqFields,if_pos y,bind,G1n,A,C,D,G1b]
    subst h
    cases a with
    | true=>simpa using z
    | false=>rfl
   cases h
 | @sub n f t j ao aq sub i y u hd hh S hs e W ad ae=>
   intro xs ys cs ds m p g l N J r h
   subst u
   obtain⟨F,r2,e1,I,e3⟩:=Z0v h
   rw[G8a]at I
   rw[G8a]at I
   have A:=X1k (w:=w) hd S xs f.offset
   have C:=X1k (w:=w) hd S ys f.offset
   have T:∀ {zs:List Value} {bs:List PV},(∀ (k:Nat) v c,zs[k]?=some v->bs[k]?=some c->Rep Φ w v c)->∀ (k:Nat) v c,((zs.drop f.offset).take i.size)[k]?=some v->((bs.drop f.offset).take i.size)[k]?=some c->Rep Φ w v c:=by
    intro zs bs hz k v c q x
    rw[G2a]at q x
    split at q
    ·rename_i hk
     rw[if_pos hk]at x
     rw[G2e]at q x
     exact hz _ v c q x
    cases q
   obtain⟨M,rfl⟩:∃M,N=M+1:=⟨N-1,by omega⟩
   have s1:=ad (xs:=(xs.drop f.offset).take i.size) (ys:=(ys.drop f.offset).take i.size) (cs:=(cs.drop f.offset).take i.size) (ds:=(ds.drop f.offset).take i.size) (by simp[m]) (by simp[p]) (T g) (T l) M (by omega) F (by rw[G2u,G2u,hs];exact e1)
   have s2:=ae m p g l (M+1) (by omega) r2 I
   have U:P.fieldsOf f.type=sub:=by unfold Program.fieldsOf;rw[hd]
   have D:(Op.equalIn (M+1+1) f.type (.agg ⟨(xs.drop f.offset).take i.size⟩) (.agg ⟨(ys.drop f.offset).take i.size⟩)).run P w=.ok F w:=by
    rw[run_equalIn_struct w (M+1) f.type _ _ (by rw[U];exact hd) hh,U]
    exact s1
   simp only[Op.eqFields,if_pos y,bind,G1n,A,C,D,G1b]
   subst e3
   cases F with
   | true=>simpa using s2
   | false=>rfl
theorem X7p{t:TypeId}{ks:List EK}(p:E.eqT t=some ks){op:BinOp}{x y:Operand}{v u:Value}{a b r:AV}(e:ARel γ H Φ w v a)(f:ARel γ H Φ w u b)(h:qeq ks op a b=some r):
 ∃z,(do eqGuard op t x y v u;binOp op t v u:Sem Value).run E.P w=.ok z w/\ARel γ H Φ w z r:=by
 obtain⟨fields,i,q,A,n,L,C⟩:=(E.hEq t ks p).ex
 unfold qeq at h
 split at h
 ·rename_i cs ds
  have e:=Q0p e
  have f:=Q0p f
  cases e with
  | agg vs _ D _ F=>
    cases f with
    | agg us _ I _ J=>
      have j:E.P.fieldsOf t=fields:=by unfold Program.fieldsOf;rw[i]
      have l:∀r,Q2l ks cs ds=some r->(Op.equalIn 10000 t (.agg ⟨vs⟩) (.agg ⟨us⟩)).run E.P w=.ok r w:=λr K=>by
       rw[run_equalIn_agg w 9999 t ⟨vs⟩ ⟨us⟩ (by rw[j];exact i) q,j]
       exact X9p C D I F J 9998 (by omega) r (by simpa using K)
      have m:=run_eqGuard_agg (P:=E.P) w op t x y ⟨vs⟩ ⟨us⟩ A
      split at h
      ·obtain⟨d,g,rfl⟩:=G0k.1 h
       refine⟨.bool d,?_,.pv (.bool d)⟩
       simp only[bind,G1n,m,G1b,run_eql_struct,l d g]
      ·obtain⟨d,g,rfl⟩:=G0k.1 h
       refine⟨.bool !d,?_,.pv (.bool !d)⟩
       simp only[bind,G1n,m,G1b,run_neq_struct,l d g]
      cases h
 cases h
theorem J5e{i:Nat}{f:FuncId}{cs:List Value}{args:Array Operand}{b:Array TypeId}(d:o.op=.call ⟨.value (.tmp i),args,b⟩)(e:a.tmps.getD i undef=.func (.func f) #[] ⟨cs⟩){fn:Func}(g:E.P.funcs[f]?=some fn)(hb:fn.body.isSome=true)(j:(fn.name=="runtime.NumGoroutine")=false):
 (execOp a.eval o).run E.P w=.ok (.enter f (args.map a.eval++⟨cs⟩)) w:=by
 have l:fn.body≠none:=λh=>by simp[h]at hb
 have m:fn.name≠"runtime.NumGoroutine":=by simpa using j
 unfold execOp
 simp only[d]
 have n:a.eval (.tmp i)=.func (.func f) #[] ⟨cs⟩:=e
 simp[resolve,n,Deferred.ofValue,invoke,callFunc,g,m,l]
theorem K0q(hS:Q2d E O)(n:OInv E γ σ.h Φ w)(hs:Slots γ σ.h Φ w a σ.t)(h:aop E O σ o=some (r,H')){K:Act->World->Prop}{Q:Exit->Act->World->Prop}
 (C:∀u w' z Φ',Ok E γ σ.h Φ w z H' Φ' w'->ARel z H' Φ' w' u r->K (a.put o.dst u) w'):o.wp E.P a w K Q:=by
 have one:∀ {s:Sem Value},(∀W:World,(do pure (Next.value (<- s)):Sem Next).run E.P W=(execOp a.eval o).run E.P W)->(∃u w',s.run E.P w=.ok u w'/\Q8j E γ σ.h Φ w r H' u w')->o.wp E.P a w K Q:=by
  rintro s d ⟨u,w',m,z,Φ',D,F⟩
  exact Q2m (by rw[<-d];exact Q0w m) (C u w' z Φ' D F)
 have al:∀ {s:Sem Unit} {H1:List AObj},some (AV.any,H1)=some (r,H')->(∀W:World,(do s;pure .skip:Sem Next).run E.P W=(execOp a.eval o).run E.P W)->(∃w',s.run E.P w=.ok () w'/\∃z Φ',Ok E γ σ.h Φ w z H1 Φ' w')->o.wp E.P a w K Q:=by
  rintro s H1 ad d ⟨w',m,z,Φ',D⟩
  simp only[G0c,G1k]at ad
  obtain⟨rfl,rfl⟩:=ad
  exact K2s (by rw[<-d];exact X7b m) (C undef w' z Φ' D (.any _))
 have aa:(qval E.T σ.t σ.h o.op).map (λr=>(r,σ.h))=some (r,H')->o.wp E.P a w K Q:=by
  intro h
  obtain⟨J,q,d⟩:=G0k.1 h
  simp only[G1k]at d
  obtain⟨rfl,rfl⟩:=d
  obtain⟨u,m,A⟩:=K9y n hs q
  exact Q2m m (C u w γ Φ (.refl n) A)
 unfold aop at h
 split at h
 ·rename_i L g
  exact one (λW=>by unfold execOp;simp only[g]<;>rfl) (J6n n h)
 ·rename_i L x g
  exact one (λW=>by unfold execOp;simp only[g]<;>rfl) (X5d n (Q0u hs x) h)
 ·rename_i L len Q0l g
  split at h
  ·exact one (s:=Instr.buildSlice L len (Q0l.map λ(p:Nat×Operand)=>(p.1,a.eval p.2))) (λW=>by unfold execOp;simp only[g]<;>rfl) (Z8q n (by simp) (Z7z hs Q0l) h)
  exact one (s:=Instr.buildSlice L len (Q0l.map λ(p:Nat×Operand)=>(p.1,a.eval p.2))) (λW=>by unfold execOp;simp only[g]<;>rfl) (Z4c n (by simp) (Z7z hs Q0l) h)
 ·rename_i L p x g
  obtain⟨H1,am,d⟩:=G0k.1 h
  exact al (G4e some d) (λW=>by unfold execOp;simp only[g]<;>rfl) (J6k n (Q0u hs p) (Q0u hs x) am)
 ·rename_i L x y g
  exact one (λW=>by unfold execOp;simp only[g]<;>rfl) (Z6e n (Q0u hs x) (Q0u hs y) h)
 ·rename_i args I g
  split at h
  ·rename_i x y t1 t2 U X
   split at h
   ·rename_i aq
    subst aq
    have P:args=#[x,y]:=by rw[<-G3t (xs:=args),U]
    have hat:I=#[t1,t1]:=by rw[<-G3t (xs:=I),X]
    subst P;subst hat
    obtain⟨u,w',m,z,Φ',D,F⟩:=J3s (t:=o.type) n (Q0u hs x) (Q0u hs y) h
    refine Q2m ?_ (C u w' z Φ' D F)
    unfold execOp
    simp only[g,resolve,bind,G1n]
    simp only[pure,G5t,G1b,invoke,builtin]
    exact Q0w (by simpa using m)
   have P:args=#[x,y]:=by rw[<-G3t (xs:=args),U]
   have hat:I=#[t1,t2]:=by rw[<-G3t (xs:=I),X]
   subst P;subst hat
   obtain⟨u,w',m,z,Φ',D,F⟩:=J0g (t:=o.type) n (Q0u hs x) (Q0u hs y) h
   refine Q2m ?_ (C u w' z Φ' D F)
   unfold execOp
   simp only[g,resolve,bind,G1n]
   simp only[pure,G5t,G1b,invoke,builtin]
   exact Q0w (by simpa using m)
  cases h
 ·rename_i args I g
  split at h
  ·rename_i x U
   obtain⟨J,q,d⟩:=G0k.1 h
   simp only[G1k]at d
   obtain⟨rfl,rfl⟩:=d
   have P:args=#[x]:=by rw[<-G3t (xs:=args),U]
   subst P
   obtain⟨u,m,A⟩:=J5i (E:=E) (ts:=I) (t:=o.type) n (Q0u hs x) q
   refine Q2m ?_ (C u w γ Φ (.refl n) A)
   unfold execOp
   simp only[g,resolve,bind,G1n]
   simp only[pure,G5t,G1b,invoke,builtin]
   exact Q0w (by simpa using m)
  cases h
 ·rename_i args I g
  split at h
  ·rename_i x y pt it U X
   obtain⟨J,q,d⟩:=G0k.1 h
   simp only[G1k]at d
   obtain⟨rfl,rfl⟩:=d
   have P:args=#[x,y]:=by rw[<-G3t (xs:=args),U]
   have hat:I=#[pt,it]:=by rw[<-G3t (xs:=I),X]
   subst P;subst hat
   obtain⟨u,w',m,z,Φ',D,F⟩:=J7t (it:=it) (t:=o.type) n (Q0u hs x) (Q0u hs y) q
   refine Q2m ?_ (C u w' z Φ' D F)
   unfold execOp
   simp only[g,resolve,bind,G1n]
   simp only[pure,G5t,G1b,invoke,builtin]
   exact Q0w (by simpa using m)
  cases h
 ·rename_i f args I g
  have Y:(args.toList.map a.eval).length=(args.toList.map (ev σ.t)).length:=by simp
  have N:(⟨args.toList.map a.eval⟩:Array Value)=args.map a.eval:=by
   apply G6h
   simp
  split at h
  ·obtain⟨J,q,d⟩:=G0k.1 h
   simp only[G1k]at d
   obtain⟨rfl,rfl⟩:=d
   obtain⟨⟨fn,S,hb,T⟩,M⟩:=Z7r hS n Y (Q8e hs args) q
   unfold Oper.wp
   rw[Z6k g S hb T]
   rw[N]at M
   refine M.mono ?_
   rintro e w' ⟨u,z,Φ',rfl,D,F⟩
   exact C u w' z Φ' D F
  obtain⟨⟨fn,S,hb,T⟩,M⟩:=Z8p hS n Y (Q8e hs args) h
  unfold Oper.wp
  rw[Z6k g S hb T]
  rw[N]at M
  refine M.mono ?_
  rintro e w' ⟨u,z,Φ',rfl,D,F⟩
  exact C u w' z Φ' D F
 ·rename_i i args I g
  split at h
  ·rename_i f ae au
   have A:=hs i
   rw[au]at A
   generalize af:a.tmps.getD i undef=vi at A
   cases A with
   | fn _ cs _ Y av=>
     have ag:(args.toList.map a.eval++cs).length=(args.toList.map (ev σ.t)++ae.map λl=>AV.ref l 0).length:=by simp[Y]
     have N:(⟨args.toList.map a.eval++cs⟩:Array Value)=args.map a.eval++⟨cs⟩:=by
      apply G6h
      simp
     have ah:∀ (j:Nat) v b,(args.toList.map a.eval++cs)[j]?=some v->(args.toList.map (ev σ.t)++ae.map λl=>AV.ref l 0)[j]?=some b->ARel γ σ.h Φ w v b:=by
      intro j v b V hb
      by_cases hj:j<args.toList.length
      ·rw[G0q (by simpa using hj)]at V hb
       exact Q8e hs args j v b V hb
      rw[G0w (by simpa using hj)]at V hb
      simp only[G1h]at V hb
      rw[G1i]at hb
      obtain⟨l,hl,rfl⟩:=G0k.1 hb
      obtain⟨b',rfl,hg⟩:=av _ v l V hl
      exact .ref b' l 0 hg
     split at h
     ·obtain⟨J,q,d⟩:=G0k.1 h
      simp only[G1k]at d
      obtain⟨rfl,rfl⟩:=d
      obtain⟨⟨fn,S,hb,T⟩,M⟩:=Z7r hS n ag ah q
      unfold Oper.wp
      rw[J5e g af S hb T]
      rw[N]at M
      refine M.mono ?_
      rintro e w' ⟨u,z,Φ',rfl,D,F⟩
      exact C u w' z Φ' D F
     obtain⟨⟨fn,S,hb,T⟩,M⟩:=Z8p hS n ag ah h
     unfold Oper.wp
     rw[J5e g af S hb T]
     rw[N]at M
     refine M.mono ?_
     rintro e w' ⟨u,z,Φ',rfl,D,F⟩
     exact C u w' z Φ' D F
  cases h
 ·rename_i args I g
  obtain⟨J,q,d⟩:=G0k.1 h
  simp only[G1k]at d
  obtain⟨rfl,rfl⟩:=d
  obtain⟨u,m,A⟩:=J5m (E:=E) false (vs:=args.toList.map a.eval) (by simp) (Q8e hs args) q I o.type
  have N:(⟨args.toList.map a.eval⟩:Array Value)=args.map a.eval:=by
   apply G6h
   simp
  rw[N]at m
  refine Q2m ?_ (C u w γ Φ (.refl n) A)
  unfold execOp
  simp only[g,resolve,bind,G1n]
  simp only[pure,G5t,G1b,invoke,builtin]
  exact Q0w (by simpa using m)
 ·rename_i args I g
  obtain⟨J,q,d⟩:=G0k.1 h
  simp only[G1k]at d
  obtain⟨rfl,rfl⟩:=d
  obtain⟨u,m,A⟩:=J5m (E:=E) true (vs:=args.toList.map a.eval) (by simp) (Q8e hs args) q I o.type
  have N:(⟨args.toList.map a.eval⟩:Array Value)=args.map a.eval:=by
   apply G6h
   simp
  rw[N]at m
  refine Q2m ?_ (C u w γ Φ (.refl n) A)
  unfold execOp
  simp only[g,resolve,bind,G1n]
  simp only[pure,G5t,G1b,invoke,builtin]
  exact Q0w (by simpa using m)
 ·rename_i L ps g
  split at h
  ·obtain⟨J,q,d⟩:=G0k.1 h
   simp only[G1k]at d
   obtain⟨rfl,rfl⟩:=d
   obtain⟨u,m,A⟩:=J2z (γ:=γ) (H:=σ.h) (Φ:=Φ) (w:=w) (vparts:=ps.map λ(p:Nat×Operand)=>(p.1,a.eval p.2)) (by simp) (Z7z hs ps) q
   refine Q2m ?_ (C u w γ Φ (.refl n) A)
   unfold execOp
   simp only[g]
   exact Q0w m
  refine aa ?_
  rw[g]
  exact h
 ·rename_i L x f g
  obtain⟨J,q,d⟩:=G0k.1 h
  simp only[G1k]at d
  obtain⟨rfl,rfl⟩:=d
  obtain⟨u,m,A⟩:=J5o (Q0u hs x) q
  refine Q2m ?_ (C u w γ Φ (.refl n) A)
  unfold execOp
  simp only[g]
  exact Q0w m
 ·rename_i L x g
  obtain⟨J,q,d⟩:=G0k.1 h
  simp only[G1k]at d
  obtain⟨rfl,rfl⟩:=d
  obtain⟨m,A⟩:=X4j (Q0u hs x) q
  refine Q2m ?_ (C _ w γ Φ (.refl n) A)
  unfold execOp
  simp only[g]
  exact Q0w m
 ·rename_i op L x y yt g
  split at h
  ·rename_i hy
   obtain⟨J,q,d⟩:=G0k.1 h
   simp only[G1k]at d
   obtain⟨rfl,rfl⟩:=d
   have aA:=K4f hy
   subst aA
   obtain⟨u,m,A⟩:=J7w op L x (Q0u hs x) q
   refine Q2m ?_ (C u w γ Φ (.refl n) A)
   unfold execOp
   simp only[g]
   exact Q0w m
  split at h
  ·rename_i ks aB
   obtain⟨J,q,d⟩:=G0k.1 h
   simp only[G1k]at d
   obtain⟨rfl,rfl⟩:=d
   obtain⟨u,m,A⟩:=X7p (x:=x) (y:=y) aB (Q0u hs x) (Q0u hs y) q
   refine Q2m ?_ (C u w γ Φ (.refl n) A)
   unfold execOp
   simp only[g]
   exact Q0w m
  refine aa ?_
  rw[g]
  exact h
 exact aa h
end
section
variable {E:Env}{O:Orc}{γ₀:List Gh}{H₀:List AObj}{Φ₀:Nat->Nat->Prop}{w₀:World}{σ σ':St}{a:Act}{w:World}
theorem X3p{γ:List Gh}{H:List AObj}{Φ:Nat->Nat->Prop}{t:Nat->AV}(hs:Slots γ H Φ w a t){ops:Array Oper}{j g:Nat}{b:Bool}(i:(ops[j]?).bind (·.dst)=some g)(hb:t g=.pv (.bool b)):yielded ops a.tmps j=some b:=by
 have h:=hs g
 rw[hb]at h
 have d:=Z0a (Q0p h)
 have f:g<a.tmps.size:=by
  rcases G6r g a.tmps.size with e|e
  ·exact e
  rw[G2w,G8k e]at d
  simp[undef]at d
 have l:a.tmps[g]?=some (.bool b):=by
  rw[G2w,G3i f]at d
  rw[G3i f]
  exact G4e some d
 unfold yielded
 rw[i]
 simp[l]
theorem J4u{γ:List Gh}{H:List AObj}{Φ:Nat->Nat->Prop}:ARel γ H Φ w undef (.tup []):=.tup [] [] rfl (λk v c b=>by simp at b)
theorem X5k{γ:List Gh}{H:List AObj}{Φ:Nat->Nat->Prop}{v:Value}(h:ARel γ H Φ w v (.tup [])):v=undef:=by
 cases h with
 | tup ws vs b _=>
   have:ws=[]:=G0u b
   subst this
   rfl
theorem J2j{γ:List Gh}{H:List AObj}{Φ:Nat->Nat->Prop}{t:Nat->AV}(hs:Slots γ H Φ w a t){ops:Array Oper}{j g:Nat}(e:(ops[j]?).bind (·.dst)=some g)(hb:t g=.tup []):yielded ops a.tmps j=none:=by
 have h:=hs g
 rw[hb]at h
 have d:=X5k h
 unfold yielded
 rw[e]
 simp only[G0a]
 split
 ·rename_i b hb
  rw[G2w,hb]at d
  simp[undef]at d
 rfl
theorem Q8d(hS:Q2d E O){ops:Array Oper}{o:Oper}(h:Q9i E O ops σ o=some σ')(x:Rel E γ₀ H₀ Φ₀ w₀ σ a w){K:Act->World->Prop}{Q:Exit->Act->World->Prop}(i:∀p w',Rel E γ₀ H₀ Φ₀ w₀ σ' p w'->K p w'):
 if Region.wanted o (yielded ops a.tmps)=true then o.wp E.P a w K Q else K (a.put o.dst undef) w:=by
 obtain⟨⟨γ,Φ,d,hs⟩,l,hd,m⟩:=x
 have q:((aop E O σ o).bind λr=>put σ o.dst r.1 r.2)=some σ'->o.wp E.P a w K Q:=by
  intro h
  obtain⟨⟨r,H'⟩,y,z⟩:=G1x.1 h
  exact K0q hS d.inv hs y (λu w' C Φ' hk A=>i _ _ (J2t d hs l hd m hk (.inr A) z))
 unfold Q9i at h
 split at h
 ·rename_i e
  rw[if_pos (by simp[Region.wanted,e])]
  exact q h
 rename_i j D e
 split at h
 ·rename_i g t
  split at h
  ·rename_i b hb
   have f:=X3p hs t hb
   split at h
   ·rename_i n
    rw[if_pos (by simp[Region.wanted,e,f,n])]
    exact q h
   rename_i n
   rw[if_neg (by simp[Region.wanted,e,f,n])]
   exact i _ _ (J2t d hs l hd m (.refl d.inv) (.inr J4u) h)
  ·rename_i hb
   have f:=J2j hs t hb
   rw[if_neg (by simp[Region.wanted,e,f])]
   exact i _ _ (J2t d hs l hd m (.refl d.inv) (.inr J4u) h)
  cases h
 cases h
theorem J1p(hS:Q2d E O){ops:Array Oper}{Q:Exit->Act->World->Prop}:∀ (l:List Oper) (σ:St) (a:Act) (w:World),arun E O ops l σ=some σ'->Rel E γ₀ H₀ Φ₀ w₀ σ a w->
 (∀b w',Rel E γ₀ H₀ Φ₀ w₀ σ' b w'->Q .normal b w')->wpList E.P ops Q l a w
 | [],σ,a,w,h,d,e=>by
   simp only[arun,G0c]at h
   subst h
   exact e a w d
 | o::l,σ,a,w,h,d,e=>by
   obtain⟨f,g,i⟩:=G1x.1 h
   exact G7o λK j=>Q8d hS g d (λb w' m=>j b w' (J1p hS l f b w' i m e))
def AW(E:Env)(k:Nat)(c:Code)(Q:Exit->St->Prop)(σ:St):Prop:=
 ∀γ₀ H₀ Φ₀ w₀ a w,H₀.length=k->Rel E γ₀ H₀ Φ₀ w₀ σ a w->c.wp E.P (λe b w'=>∃σ',Rel E γ₀ H₀ Φ₀ w₀ σ' b w'/\Q e σ') a w
def Z2e(next:St->Prop)(Q:Exit->St->Prop):Exit->St->Prop
 | .normal,σ=>next σ
 | e,σ=>Q e σ
def K7w(id:Nat)(Q:Exit->St->Prop):Exit->St->Prop
 | .exit b,σ=>if b=id then Q .normal σ else Q (.exit b) σ
 | e,σ=>Q e σ
variable {Q:Exit->St->Prop}{k:Nat}
theorem AW.mono{c:Code}{b:Exit->St->Prop}(h:AW E k c Q σ)(hq:∀e σ,Q e σ->b e σ):AW E k c b σ:=
 λγ₀ H₀ Φ₀ w₀ a w d f=>wp_mono (h γ₀ H₀ Φ₀ w₀ a w d f) (λe _ _ ⟨σ',g,i⟩=>⟨σ',g,hq e σ' i⟩)
theorem AW.region(hS:Q2d E O){id:Nat}{ops:Array Oper}(h:arun E O ops ops.toList σ=some σ')(b:Q .normal σ'):AW E k (.region id ops false) Q σ:=
 λ_ _ _ _ a w _ d=>G8b (J1p hS ops.toList σ a w h d (λ_ _ e=>⟨σ',e,b⟩))
theorem AW.seq{x y:Code}(h:AW E k x (Z2e (AW E k y Q) Q) σ):AW E k (.seq x y) Q σ:=by
 intro γ₀ H₀ Φ₀ w₀ a w b g
 refine wp_seq (wp_mono (h γ₀ H₀ Φ₀ w₀ a w b g) (λe i w' ⟨σ',d,f⟩=>?_))
 cases e with
 | normal=>exact f γ₀ H₀ Φ₀ w₀ i w' b d
 | _=>exact⟨σ',d,f⟩
theorem AW.cond{c:Operand}{x y:Code}{b:Bool}(f:ev σ.t c=.pv (.bool b))(g:b=true->AW E k x Q σ)(i:b=false->AW E k y Q σ):AW E k (.cond c x y) Q σ:=by
 intro γ₀ H₀ Φ₀ w₀ a w e d
 have j:=d
 obtain⟨⟨γ,Φ,l,hs⟩,_,_,_⟩:=j
 have h:=Q0u hs c
 rw[f]at h
 exact wp_cond_split (Z0a (Q0p h)) (λhb=>g hb γ₀ H₀ Φ₀ w₀ a w e d) (λhb=>i hb γ₀ H₀ Φ₀ w₀ a w e d)
theorem AW.skip(h:Q .normal σ):AW E k .skip Q σ:=λ_ _ _ _ _ _ _ b=>wp_skip ⟨σ,b,h⟩
theorem AW.ret(h:Q .ret σ):AW E k .ret Q σ:=λ_ _ _ _ _ _ _ b=>wp_ret ⟨σ,b,h⟩
theorem AW.exit{id:Nat}(h:Q (.exit id) σ):AW E k (.exit id) Q σ:=λ_ _ _ _ _ _ _ b=>wp_exit ⟨σ,b,h⟩
theorem AW.block{id:Nat}{c:Code}(h:AW E k c (K7w id Q) σ):AW E k (.block id c) Q σ:=by
 intro γ₀ H₀ Φ₀ w₀ a w g i
 refine wp_block (wp_mono (h γ₀ H₀ Φ₀ w₀ a w g i) (λe j w' ⟨σ',d,b⟩=>?_))
 cases e with
 | exit l=>
   simp only[K7w]at b
   simp only[Exit.inBlock]
   split
   ·rename_i f
    rw[if_pos f]at b
    exact⟨σ',d,b⟩
   rename_i f
   rw[if_neg f]at b
   exact⟨σ',d,b⟩
 | _=>exact⟨σ',d,b⟩
def Weak(E:Env)(k:Nat)(σ σ':St):Prop:=∀γ₀ H₀ Φ₀ w₀ a w,H₀.length=k->Rel E γ₀ H₀ Φ₀ w₀ σ a w->Rel E γ₀ H₀ Φ₀ w₀ σ' a w
theorem Weak.refl(σ:St):Weak E k σ σ:=λ_ _ _ _ _ _ _ h=>h
theorem Weak.trans{b d σ₃:St}(h:Weak E k b d)(h':Weak E k d σ₃):Weak E k b σ₃:=λ_ _ _ _ _ _ e f=>h' _ _ _ _ _ _ e (h _ _ _ _ _ _ e f)
theorem AW.weak{c:Code}(d:Weak E k σ σ')(h:AW E k c Q σ'):AW E k c Q σ:=λγ₀ H₀ Φ₀ w₀ a w b e=>h γ₀ H₀ Φ₀ w₀ a w b (d γ₀ H₀ Φ₀ w₀ a w b e)
theorem K4b(p:Nat->Prop)(h:∃n,p n):∃n,p n/\∀m,p m->n<=m:=by
 obtain⟨n,f⟩:=h
 induction n using Nat.strongRecOn with
 | _ n g=>
   by_cases e:∃m,m<n/\p m
   ·obtain⟨m,b,d⟩:=e
    exact g m b d
   exact⟨n,f,λm d=>Nat.le_of_not_lt λb=>e ⟨m,b,d⟩⟩
open Classical in
theorem AW.loop{c:Code}(I:St->Prop)(b:St->Nat)(u:I σ)(x:∀σ,I σ->AW E k c (Z2e (λσ'=>∃σ'',Weak E k σ' σ''/\I σ''/\b σ''<b σ) Q) σ):AW E k (.loop c) Q σ:=by
 intro γ₀ H₀ Φ₀ w₀ a w f y
 let p:Act->World->Nat->Prop:=λa w n=>∃σ,Rel E γ₀ H₀ Φ₀ w₀ σ a w/\I σ/\b σ=n
 let m:Act->World->Nat:=λa w=>if h:∃n,p a w n then Classical.choose (K4b (p a w) h)else 0
 have g:∀a w,(∃n,p a w n)->p a w (m a w)/\∀n,p a w n->m a w<=n:=by
  intro a w h
  have:=G6e (K4b (p a w) h)
  simp only[m,dif_pos h]
  exact this
 refine wp_loop (λa w=>∃n,p a w n) m ⟨b σ,σ,y,u,rfl⟩ (λa w z=>?_)
 obtain⟨⟨A,C,D,J⟩,K⟩:=g a w z
 refine wp_mono (x A D γ₀ H₀ Φ₀ w₀ a w f C) (λe d w' ⟨σ',i,j⟩=>?_)
 cases e with
 | normal=>
   obtain⟨σ'',F,l,L⟩:=j
   have q:=F γ₀ H₀ Φ₀ w₀ d w' f i
   have t:∃n,p d w' n:=⟨b σ'',σ'',q,l,rfl⟩
   exact⟨t,by have:=(g d w' t).2 (b σ'') ⟨σ'',q,l,rfl⟩;omega⟩
 | _=>exact⟨σ',i,j⟩
end
end Go.Abs
