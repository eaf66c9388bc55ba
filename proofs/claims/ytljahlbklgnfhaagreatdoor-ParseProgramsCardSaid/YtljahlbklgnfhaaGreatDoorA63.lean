import Derived.Test.YtljahlbklgnfhaaGreatDoorA59
import Derived.Test.YtljahlbklgnfhaaGreatDoorA17
import Derived.Test.YtljahlbklgnfhaaGreatDoorA45
import Derived.Defers
import Derived.Recover
set_option linter.unusedVariables false
set_option linter.unusedSimpArgs false
set_option linter.defProp false
namespace Go.Abs
open Go Go.RowKit
section
variable {E:Env}{σ:St}{k:Nat}
theorem Weak.explode(l:Nat){e1 e2:TypeId}{s:List UInt8}{sz:Nat}{xs:List PV}(hl:σ.h[l]?=some (.prn e1 s e2 sz xs)):
 Weak E k σ ⟨σ.t,σ.n,σ.h.set l (.var [.selfp l,.vec σ.h.length s.length,.vec (σ.h.length+1) xs.length])++[.brow e1 s,.row e2 sz xs true]⟩:=by
 intro γ₀ H₀ Φ₀ w₀ a' w _ hR
 obtain⟨⟨γ,Φ,hok,hs⟩,hn,hd,hl0⟩:=hR
 have hI:=hok.inv
 obtain⟨g,hg,hO⟩:=hI.gh hl
 obtain⟨b,v0,v1,v2,hv,hgo,hnd,hb,h0,hnΦ,hown1,hn1,hR2⟩:=hO
 have hlγ:l<γ.length:=(List.getElem?_eq_some_iff.1 hg).1
 have hlH:l<σ.h.length:=(List.getElem?_eq_some_iff.1 hl).1
 have hlen:=hI.len
 have G0:(γ.set l ⟨g.v,[b]⟩++[⟨v1,v1.ownBlock.toList⟩,⟨v2,v2.ownBlock.toList⟩])[l]?=some ⟨g.v,[b]⟩:=by
  rw[List.getElem?_append_left (by simpa using hlγ),List.getElem?_set_self hlγ]
 have G1:(γ.set l ⟨g.v,[b]⟩++[⟨v1,v1.ownBlock.toList⟩,⟨v2,v2.ownBlock.toList⟩]:List Gh)[γ.length]?=some ⟨v1,v1.ownBlock.toList⟩:=by
  rw[List.getElem?_append_right (by simp)]
  simp
 have G2:(γ.set l ⟨g.v,[b]⟩++[⟨v1,v1.ownBlock.toList⟩,⟨v2,v2.ownBlock.toList⟩]:List Gh)[γ.length+1]?=some ⟨v2,v2.ownBlock.toList⟩:=by
  rw[List.getElem?_append_right (by simp)]
  simp
 have O0:(σ.h.set l (.var [.selfp l,.vec σ.h.length s.length,.vec (σ.h.length+1) xs.length])++[.brow e1 s,.row e2 sz xs true])[l]?=some (.var [.selfp l,.vec σ.h.length s.length,.vec (σ.h.length+1) xs.length]):=by
  rw[List.getElem?_append_left (by simpa using hlH),List.getElem?_set_self hlH]
 have O1:(σ.h.set l (.var [.selfp l,.vec σ.h.length s.length,.vec (σ.h.length+1) xs.length])++[.brow e1 s,.row e2 sz xs true]:List AObj)[σ.h.length]?=some (.brow e1 s):=by
  rw[List.getElem?_append_right (by simp)]
  simp
 have O2:(σ.h.set l (.var [.selfp l,.vec σ.h.length s.length,.vec (σ.h.length+1) xs.length])++[.brow e1 s,.row e2 sz xs true]:List AObj)[σ.h.length+1]?=some (.row e2 sz xs true):=by
  rw[List.getElem?_append_right (by simp)]
  simp
 have at2:∀ {q:Nat} {gq:Gh},γ.length≤q→(γ.set l ⟨g.v,[b]⟩++[⟨v1,v1.ownBlock.toList⟩,⟨v2,v2.ownBlock.toList⟩]:List Gh)[q]?=some gq→(q=γ.length∧gq=⟨v1,v1.ownBlock.toList⟩)∨(q=γ.length+1∧gq=⟨v2,v2.ownBlock.toList⟩):=by
  intro q gq hq hgq
  have h1:=(List.getElem?_eq_some_iff.1 hgq).1
  simp only[List.length_append,List.length_set,List.length_cons,List.length_nil]at h1
  rcases(by omega:q=γ.length∨q=γ.length+1)with rfl|rfl
  ·rw[G1]at hgq
   injection hgq with hgq
   exact .inl ⟨rfl,hgq.symm⟩
  rw[G2]at hgq
  injection hgq with hgq
  exact .inr ⟨rfl,hgq.symm⟩
 have m0:b∈g.own:=by rw[hgo];simp
 have m1:∀c∈v1.ownBlock.toList,c∈g.own:=fun c hc=>by rw[hgo];exact List.mem_cons_of_mem _ (List.mem_append_left _ hc)
 have m2:∀c∈v2.ownBlock.toList,c∈g.own:=fun c hc=>by rw[hgo];exact List.mem_cons_of_mem _ (List.mem_append_right _ hc)
 have hnd2:=hnd
 rw[hgo]at hnd2
 obtain⟨nb,hnd3⟩:=List.nodup_cons.1 hnd2
 obtain⟨_,_,n12⟩:=List.nodup_append.1 hnd3
 have nb1:b∉v1.ownBlock.toList:=fun h=>nb (List.mem_append_left _ h)
 have nb2:b∉v2.ownBlock.toList:=fun h=>nb (List.mem_append_right _ h)
 have hk:Ok E γ σ.h Φ w (γ.set l ⟨g.v,[b]⟩++[⟨v1,v1.ownBlock.toList⟩,⟨v2,v2.ownBlock.toList⟩]) (σ.h.set l (.var [.selfp l,.vec σ.h.length s.length,.vec (σ.h.length+1) xs.length])++[.brow e1 s,.row e2 sz xs true]) Φ w:=by
  refine Ok.of hI (fun q=>q=l∨γ.length≤q) (by simp[hlen]) (by simp) (fun q hq=>.inr hq) (fun q hq=>?_) (fun c=>c∈g.own) (fun c=>⟨fun hc=>⟨l,g,.inl rfl,hg,hc⟩,fun hc=>?_⟩)
   (fun _ _ _=>rfl) (Nat.le_refl _) rfl rfl rfl (fun _ _ h=>h) (fun b q h _ hn=>h) (fun b q h=>hI.phi b q h) (fun _ _ _ _=>rfl) (fun q gq hq hgq c hc=>?_) (fun p q gp gq hp hq hgp hgq hpq c hc=>?_) (fun q u hq hu=>?_) (fun q e1 sz1 n1 hq hr=>?_) (fun hE q oq gq hq hoq hgq=>?_)
  ·simp only[not_or,Nat.not_le]at hq
   exact⟨by rw[List.getElem?_append_left (by simpa using hq.2),List.getElem?_set_ne (Ne.symm hq.1)],by rw[List.getElem?_append_left (by simp;omega),List.getElem?_set_ne (Ne.symm hq.1)]⟩
  ·obtain⟨q,gq,hq,hgq,hcq⟩:=hc
   rcases hq with rfl|hq
   ·rw[hg]at hgq;injection hgq with hgq;subst hgq;exact hcq
   rw[List.getElem?_eq_none hq]at hgq;cases hgq
  ·have hcg:c∈g.own:=by
    rcases hq with rfl|hq
    ·rw[G0]at hgq
     injection hgq with hgq
     subst hgq
     rw[List.mem_singleton.1 hc]
     exact m0
    rcases at2 hq hgq with⟨_,rfl⟩|⟨_,rfl⟩
    ·exact m1 c hc
    exact m2 c hc
   exact⟨.inl hcg,(hI.own l g hg c hcg).2⟩
  ·intro hc2
   rcases hp with rfl|hp<;>rcases hq with rfl|hq
   ·exact hpq rfl
   ·rw[G0]at hgp
    injection hgp with hgp
    subst hgp
    rw[List.mem_singleton.1 hc]at hc2
    rcases at2 hq hgq with⟨_,rfl⟩|⟨_,rfl⟩
    ·exact nb1 hc2
    exact nb2 hc2
   ·rw[G0]at hgq
    injection hgq with hgq
    subst hgq
    rw[List.mem_singleton.1 hc2]at hc
    rcases at2 hp hgp with⟨_,rfl⟩|⟨_,rfl⟩
    ·exact nb1 hc
    exact nb2 hc
   rcases at2 hp hgp with⟨rfl,rfl⟩|⟨rfl,rfl⟩<;>rcases at2 hq hgq with⟨rfl,rfl⟩|⟨rfl,rfl⟩
   ·exact hpq rfl
   ·exact n12 c hc c hc2 rfl
   ·exact n12 c hc2 c hc rfl
   exact hpq rfl
  ·refine .inl ?_
   rcases hq with rfl|hq
   ·unfold gv at hu ⊢;rw[G0];rw[hg]at hu;exact hu
   unfold gv at hu;rw[List.getElem?_eq_none hq]at hu;cases hu
  ·rcases hq with rfl|hq
   ·unfold rowAt at hr
    rw[hl]at hr
    cases hr
   have:=Q6i hr
   omega
  rcases hq with rfl|hq
  ·rw[O0]at hoq
   injection hoq with hoq
   subst hoq
   rw[G0]at hgq
   injection hgq with hgq
   subst hgq
   have G1':=G1
   have G2':=G2
   rw[hlen]at G1' G2'
   obtain⟨A1,c1,hv1,hA1⟩:=Q3i hown1
   obtain⟨cells2,q1,_⟩:=hR2
   obtain⟨A2,c2,hv2,hA2⟩:=Q3v q1
   have hv2':v2=.slice A2 xs.length c2:=hv2
   subst hv1 hv2'
   refine⟨b,_,[v0,_,_],hv,rfl,hb,rfl,fun i v c hvi hc=>?_,hnΦ,fun _ _ _=>rfl⟩
   rcases i with _|_|_|i
   ·simp only[List.getElem?_cons_zero,Option.some.injEq]at hvi hc
    subst hvi hc
    rcases h0 with rfl|rfl
    ·exact⟨rfl,.selfp none q (fun a e=>by cases e)⟩
    refine⟨rfl,.selfp _ q (fun a e=>?_)⟩
    injection e with e
    subst e
    unfold gv
    rw[G0,←hv]
    rfl
   ·simp only[List.getElem?_cons_zero,List.getElem?_cons_succ,Option.some.injEq]at hvi hc
    subst hvi hc
    refine⟨rfl,.vec A1 _ _ c1 e1 1 s.length (by unfold rowAt;rw[O1];rfl) (Nat.le_refl _) hA1 (fun _=>?_)⟩
    unfold gv
    rw[G1']
    rfl
   ·simp only[List.getElem?_cons_zero,List.getElem?_cons_succ,Option.some.injEq]at hvi hc
    subst hvi hc
    refine⟨rfl,.vec A2 _ _ c2 e2 sz xs.length (Q2a (fz:=true) O2) (Nat.le_refl _) hA2 (fun _=>?_)⟩
    unfold gv
    rw[G2']
    rfl
   simp at hvi
  rcases at2 hq hgq with⟨rfl,rfl⟩|⟨rfl,rfl⟩
  ·rw[hlen,O1]at hoq
   injection hoq with hoq
   subst hoq
   exact⟨hown1,rfl,hn1⟩
  rw[hlen,O2]at hoq
  injection hoq with hoq
  subst hoq
  obtain⟨cells2,q1,q2,q3,q4,q5,q6,q7,q8⟩:=hR2
  exact⟨cells2,q1,q2,fun z v c hv hc=>(q3 z v c hv hc).mono hE.phi hE.cell,q4,q5,q6,q7,q8⟩
 exact⟨⟨_,_,hok.trans hk,fun i=>(hs i).mono hk.evo⟩,hn,hd,hl0⟩
theorem Weak.implode(l i j:Nat){e1 e2:TypeId}{s:List UInt8}{sz m1 m2:Nat}{xs:List PV}(hl:σ.h[l]?=some (.var [.selfp l,.vec i m1,.vec j m2]))
 (hi:σ.h[i]?=some (.brow e1 s)) (hj:σ.h[j]?=some (.row e2 sz xs true)) (hm1:s.length=m1) (hm2:xs.length=m2):
 Weak E k σ ⟨σ.t,σ.n,((σ.h.set l (.prn e1 s e2 sz xs)).set i (.moved e1 1 s.length)).set j (.moved e2 sz xs.length)⟩:=by
 intro γ₀ H₀ Φ₀ w₀ a' w _ hR
 obtain⟨⟨γ,Φ,hok,hs⟩,hn,hd,hl0⟩:=hR
 have hI:=hok.inv
 obtain⟨g,hg,hO⟩:=hI.gh hl
 obtain⟨gi,hgi,hOi⟩:=hI.gh hi
 obtain⟨gj,hgj,hOj⟩:=hI.gh hj
 have hli:l≠i:=fun e=>by subst e;rw[hl]at hi;cases hi
 have hlj:l≠j:=fun e=>by subst e;rw[hl]at hj;cases hj
 have hij:i≠j:=fun e=>by subst e;rw[hi]at hj;cases hj
 obtain⟨b,T,vs,hv,hgo,hb,hvl,hrel,hnΦ⟩:=hO
 obtain⟨v0,v1,v2,rfl⟩:∃v0 v1 v2,vs=[v0,v1,v2]:=by
  rcases vs with _|⟨v0,_|⟨v1,_|⟨v2,_|⟨v3,r⟩⟩⟩⟩<;>simp at hvl
  exact⟨v0,v1,v2,rfl⟩
 have r0:=(hrel 0 v0 (.selfp l) rfl rfl).2
 obtain rfl:T=E.pT.getD 0:=hnΦ.2 (.selfp l) (by simp) rfl
 have r1:v1=gi.v:=by
  cases(hrel 1 v1 _ rfl rfl).2 with
  | vec A _ _ cap e sz' len hrow hn hA hcur=>
    have hre:rowAt σ.h i=some (e1,1,s.length):=by unfold rowAt;rw[hi];rfl
    rw[hrow]at hre
    injection hre with hre
    injection hre with _ hre
    injection hre with _ hre
    have:=hcur (by omega)
    unfold gv at this
    rw[hgi]at this
    injection this with this
    exact this.symm
 have r2:v2=gj.v:=by
  cases(hrel 2 v2 _ rfl rfl).2 with
  | vec A _ _ cap e sz' len hrow hn hA hcur=>
    have hre:=Q2a hj
    rw[hrow]at hre
    injection hre with hre
    injection hre with _ hre
    injection hre with _ hre
    have:=hcur (by omega)
    unfold gv at this
    rw[hgj]at this
    injection this with this
    exact this.symm
 subst r1 r2
 obtain⟨hown1,ho1,hn1⟩:=hOi
 have ho2:gj.own=gj.v.ownBlock.toList:=by
  obtain⟨_,_,_,_,_,_,h,_⟩:=hOj
  exact h
 have hlγ:l<γ.length:=(List.getElem?_eq_some_iff.1 hg).1
 have hiγ:i<γ.length:=(List.getElem?_eq_some_iff.1 hgi).1
 have hjγ:j<γ.length:=(List.getElem?_eq_some_iff.1 hgj).1
 have hlen:=hI.len
 have get:∀ {α:Type} (X:List α) (x y z:α) (q:Nat),X.length=γ.length→(((X.set l x).set i y).set j z)[q]?=if q=l then some x else if q=i then some y else if q=j then some z else X[q]?:=by
  intro α X x y z q hX
  by_cases h1:q=l
  ·subst h1
   rw[if_pos rfl,List.getElem?_set_ne (Ne.symm hlj),List.getElem?_set_ne (Ne.symm hli),List.getElem?_set_self (by omega)]
  rw[if_neg h1]
  by_cases h2:q=i
  ·subst h2
   rw[if_pos rfl,List.getElem?_set_ne (Ne.symm hij),List.getElem?_set_self (by simp;omega)]
  rw[if_neg h2]
  by_cases h3:q=j
  ·subst h3
   rw[if_pos rfl,List.getElem?_set_self (by simp;omega)]
  rw[if_neg h3,List.getElem?_set_ne (Ne.symm h3),List.getElem?_set_ne (Ne.symm h2),List.getElem?_set_ne (Ne.symm h1)]
 have GG:=fun q=>get γ ⟨g.v,b::(gi.v.ownBlock.toList++gj.v.ownBlock.toList)⟩ ⟨gi.v,[]⟩ ⟨gj.v,[]⟩ q rfl
 have HH:=fun q=>get σ.h (.prn e1 s e2 sz xs) (.moved e1 1 s.length) (.moved e2 sz xs.length) q hlen.symm
 have d1:=hI.disj l i g gi hg hgi hli
 have d2:=hI.disj l j g gj hg hgj hlj
 have d3:=hI.disj i j gi gj hgi hgj hij
 rw[hgo,ho1]at d1
 rw[hgo,ho2]at d2
 rw[ho1,ho2]at d3
 have nd:∀v:Value,v.ownBlock.toList.Nodup:=fun v=>by cases v.ownBlock<;>simp
 have hnd:(b::(gi.v.ownBlock.toList++gj.v.ownBlock.toList)).Nodup:=by
  refine List.nodup_cons.2 ⟨fun h=>?_,List.nodup_append.2 ⟨nd _,nd _,fun x hx y hy e=>d3 x hx (e▸hy)⟩⟩
  rcases List.mem_append.1 h with h|h
  ·exact d1 b (by simp) h
  exact d2 b (by simp) h
 have hk:Ok E γ σ.h Φ w (((γ.set l ⟨g.v,b::(gi.v.ownBlock.toList++gj.v.ownBlock.toList)⟩).set i ⟨gi.v,[]⟩).set j ⟨gj.v,[]⟩) (((σ.h.set l (.prn e1 s e2 sz xs)).set i (.moved e1 1 s.length)).set j (.moved e2 sz xs.length)) Φ w:=by
  refine Ok.of hI (fun q=>q=l∨q=i∨q=j∨γ.length≤q) (by simp[hlen]) (by simp) (fun q hq=>.inr (.inr (.inr hq))) (fun q hq=>?_) (fun c=>c∈g.own∨c∈gi.own∨c∈gj.own) (fun c=>⟨fun hc=>?_,fun hc=>?_⟩)
   (fun _ _ _=>rfl) (Nat.le_refl _) rfl rfl rfl (fun _ _ h=>h) (fun b q h _ hn=>h) (fun b q h=>hI.phi b q h) (fun _ _ _ _=>rfl) (fun q gq hq hgq c hc=>?_) (fun p q gp gq hp hq hgp hgq hpq c hc=>?_) (fun q u hq hu=>?_) (fun q e1 sz1 n1 hq hr=>?_) (fun hE q oq gq hq hoq hgq=>?_)
  ·simp only[not_or]at hq
   rw[GG,HH,if_neg hq.1,if_neg hq.2.1,if_neg hq.2.2.1,if_neg hq.1,if_neg hq.2.1,if_neg hq.2.2.1]
   exact⟨rfl,rfl⟩
  ·rcases hc with hc|hc|hc
   ·exact⟨l,g,.inl rfl,hg,hc⟩
   ·exact⟨i,gi,.inr (.inl rfl),hgi,hc⟩
   exact⟨j,gj,.inr (.inr (.inl rfl)),hgj,hc⟩
  ·obtain⟨q,gq,hq,hgq,hcq⟩:=hc
   rcases hq with rfl|rfl|rfl|hq
   ·rw[hg]at hgq;injection hgq with hgq;subst hgq;exact .inl hcq
   ·rw[hgi]at hgq;injection hgq with hgq;subst hgq;exact .inr (.inl hcq)
   ·rw[hgj]at hgq;injection hgq with hgq;subst hgq;exact .inr (.inr hcq)
   rw[List.getElem?_eq_none hq]at hgq;cases hgq
  ·rw[GG]at hgq
   split at hgq
   ·injection hgq with hgq
    subst hgq
    rcases List.mem_cons.1 hc with rfl|hc
    ·exact⟨.inl (.inl (by rw[hgo];simp)),(hI.own l g hg c (by rw[hgo];simp)).2⟩
    rcases List.mem_append.1 hc with hc|hc
    ·exact⟨.inl (.inr (.inl (by rw[ho1];exact hc))),(hI.own i gi hgi c (by rw[ho1];exact hc)).2⟩
    exact⟨.inl (.inr (.inr (by rw[ho2];exact hc))),(hI.own j gj hgj c (by rw[ho2];exact hc)).2⟩
   split at hgq
   ·injection hgq with hgq;subst hgq;cases hc
   split at hgq
   ·injection hgq with hgq;subst hgq;cases hc
   rcases hq with h|h|h|h
   ·contradiction
   ·contradiction
   ·contradiction
   rw[List.getElem?_eq_none h]at hgq;cases hgq
  ·rw[GG]at hgp hgq
   intro hc2
   split at hgp
   ·split at hgq
    ·rename_i h1 h2
     exact hpq (h1.trans h2.symm)
    split at hgq
    ·injection hgq with hgq;subst hgq;cases hc2
    split at hgq
    ·injection hgq with hgq;subst hgq;cases hc2
    rcases hq with h|h|h|h
    ·contradiction
    ·contradiction
    ·contradiction
    rw[List.getElem?_eq_none h]at hgq;cases hgq
   split at hgp
   ·injection hgp with hgp;subst hgp;cases hc
   split at hgp
   ·injection hgp with hgp;subst hgp;cases hc
   rcases hp with h|h|h|h
   ·contradiction
   ·contradiction
   ·contradiction
   rw[List.getElem?_eq_none h]at hgp;cases hgp
  ·refine .inl ?_
   unfold gv at hu ⊢
   rw[GG]
   split
   ·rename_i h;subst h;rw[hg]at hu;exact hu
   split
   ·rename_i h;subst h;rw[hgi]at hu;exact hu
   split
   ·rename_i h;subst h;rw[hgj]at hu;exact hu
   exact hu
  ·have same:gv (((γ.set l ⟨g.v,b::(gi.v.ownBlock.toList++gj.v.ownBlock.toList)⟩).set i ⟨gi.v,[]⟩).set j ⟨gj.v,[]⟩) q=gv γ q:=by
    unfold gv
    rw[GG]
    split
    ·rename_i h;subst h;rw[hg];rfl
    split
    ·rename_i h;subst h;rw[hgi];rfl
    split
    ·rename_i h;subst h;rw[hgj];rfl
    rfl
   refine⟨n1,?_,Nat.le_refl _,fun _=>same⟩
   unfold rowAt at hr ⊢
   rw[HH]
   split
   ·rename_i h;subst h;rw[hl]at hr;cases hr
   split
   ·rename_i h;subst h;rw[hi]at hr;exact hr
   split
   ·rename_i h;subst h;rw[hj]at hr;exact hr
   exact hr
  rw[GG]at hgq
  rw[HH]at hoq
  split at hgq
  ·rename_i h
   rw[if_pos h]at hoq
   injection hgq with hgq
   injection hoq with hoq
   subst hgq hoq
   refine⟨b,v0,gi.v,gj.v,hv,rfl,hnd,hb,?_,hnΦ.1,hown1,hn1,?_⟩
   ·cases r0 with
    | selfp A _ h=>
      cases A with
      | none=>exact .inl rfl
      | some a=>
        have:=h a rfl
        unfold gv at this
        rw[hg,Option.map_some,hv]at this
        injection this with this
        exact .inr this.symm
   obtain⟨cells2,q1,q2,q3,q4,q5,q6,q7,q8⟩:=hOj
   exact⟨cells2,q1,q2,fun z v c hv hc=>(q3 z v c hv hc).mono hE.phi hE.cell,q4,q5,rfl,q7,q8⟩
  rename_i h1
  rw[if_neg h1]at hoq
  split at hgq
  ·rename_i h2
   rw[if_pos h2]at hoq
   injection hoq with hoq
   subst hoq
   trivial
  rename_i h2
  rw[if_neg h2]at hoq
  split at hgq
  ·rename_i h3
   rw[if_pos h3]at hoq
   injection hoq with hoq
   subst hoq
   trivial
  rcases hq with h|h|h|h
  ·contradiction
  ·contradiction
  ·contradiction
  rw[List.getElem?_eq_none h]at hgq;cases hgq
 exact⟨⟨_,_,hok.trans hk,fun i=>(hs i).mono hk.evo⟩,hn,hd,hl0⟩
end
def apS(b s:List UInt8):Option (List UInt8):=if b.length+s.length≤140737488355328 then some (b++s)else none
theorem V9x{b s v:List UInt8}(h:apS b s=some v):v=b++s:=by
 unfold apS at h
 split at h
 ·injection h with h
  exact h.symm
 cases h
theorem J7g{E:Env}{H:List AObj}{t1 t2 e:TypeId}{l sz1 b1 sz2 b2:Nat}{z1 z2:Option (List PV)}{b s v:List UInt8}(h1:E.T t1=some ⟨.slice e,sz1,b1,z1⟩)(h2:E.T t2=some ⟨.str,sz2,b2,z2⟩)(h3:E.T e=some ⟨.int .u8,1,1,some [.int .u8 0]⟩)
 {H':List AObj} (hl:H[l]?=some (.brow e b)) (hH:H.set l (.brow e v)=H') (h:apS b s=some v):Q5d E H t1 t2 (.vec l b.length) (.pv (.str s))=some (.vec l v.length,H'):=by
 unfold apS at h
 split at h
 ·rename_i hle
  injection h with h
  subst h
  simp only[Q5d,h1,h2,h3,hl]
  rw[if_pos ⟨trivial,trivial,hle⟩,List.length_append,hH]
 cases h
end Go.Abs
namespace Go.Abs
open Go Go.RowKit
def Env.wd(E:Env)(D:List Deferred):Env:={ E with dfs:=D }
section
variable {E:Env}{D:List Deferred}{γ γ₀:List Gh}{H H₀:List AObj}{Φ Φ₀:Nat→Nat→Prop}{w w₀:World}
theorem ObjRel.wd{o:AObj}{g:Gh}:ObjRel (E.wd D) γ H Φ w o g↔ObjRel E γ H Φ w o g:=by
 cases o<;>exact Iff.rfl
theorem OInv.wd:OInv (E.wd D) γ H Φ w↔OInv E γ H Φ w:=
 ⟨fun h=>⟨h.len,fun l o g ho hg=>ObjRel.wd.1 (h.obj l o g ho hg),h.disj,h.own,h.phi,h.gi,h.gn⟩,
  fun h=>⟨h.len,fun l o g ho hg=>ObjRel.wd.2 (h.obj l o g ho hg),h.disj,h.own,h.phi,h.gi,h.gn⟩⟩
theorem Ok.wd:Ok (E.wd D) γ₀ H₀ Φ₀ w₀ γ H Φ w↔Ok E γ₀ H₀ Φ₀ w₀ γ H Φ w:=
 ⟨fun h=>⟨OInv.wd.1 h.inv,h.evo,h.since⟩,fun h=>⟨OInv.wd.2 h.inv,h.evo,h.since⟩⟩
theorem Good.wd{f:FuncId}{args:List AV}{rs:List AV}{H':List AObj}(h:Good E f args H rs H'):Good (E.wd D) f args H rs H':=by
 intro w Φ γ cargs hI hl hr
 refine(h w Φ γ cargs (OInv.wd.1 hI) hl hr).mono ?_
 rintro e w' ⟨vs,γ',Φ',h1,h2,h3,h4⟩
 exact⟨vs,γ',Φ',h1,Ok.wd.2 h2,h3,h4⟩
theorem Z8v.wd{f:FuncId}{args:List AV}{v:Value}(h:Z8v E f args H v):Z8v (E.wd D) f args H v:=by
 intro w Φ γ cargs hI hl hr
 refine(h w Φ γ cargs (OInv.wd.1 hI) hl hr).mono ?_
 rintro e w' ⟨γ',Φ',h1,h2⟩
 exact⟨γ',Φ',h1,Ok.wd.2 h2⟩
theorem Q0a.wd{S:Spec}(h:Q0a E S):Q0a (E.wd D) S:=by
 refine⟨fun x r hr=>?_,h.2⟩
 have:=h.1 x r hr
 generalize S.R x r=o at this
 cases o with
 | ret rs H'=>exact Good.wd this
 | boom v=>exact Z8v.wd this
theorem AllG.wd:∀ {L:List Spec},AllG E L→AllG (E.wd D) L
 | [],_=>trivial
 | _::_,h=>⟨h.1.wd,AllG.wd h.2⟩
theorem J8x(hI:OInv E γ H Φ w){args:List AV}{cargs:List Value}(hl:cargs.length=args.length)(hr:∀ (i:Nat) v a,cargs[i]?=some v→args[i]?=some a→ARel γ H Φ w v a){N:Nat}(hn:args.length≤N)(hd0:E.dfs=[]):
 Rel E γ H Φ w ⟨Z2e args,N,H⟩ { tmps:=(⟨cargs⟩:Array Value)++Array.replicate (N-(⟨cargs⟩:Array Value).size) undef,defers:=[] } w:=by
 refine⟨⟨γ,Φ,.refl hI,fun i=>?_⟩,?_,hd0.symm,hI.len⟩
 ·show ARel γ H Φ w _ (args.getD i .any)
  rw[List.getD_eq_getElem?_getD]
  by_cases hi:i<args.length
  ·rw[List.getElem?_eq_getElem hi]
   have hi':i<cargs.length:=by omega
   refine hr i _ _ ?_ (List.getElem?_eq_getElem hi)
   rw[List.getElem?_eq_getElem hi']
   simp[Array.getD_eq_getD_getElem?,Array.getElem?_append,hi']
  rw[List.getElem?_eq_none (by omega)]
  exact .any _
 show((⟨cargs⟩:Array Value)++Array.replicate (N-(⟨cargs⟩:Array Value).size) undef).size=N
 simp
 omega
theorem J8e{O:Orc}{X:XO}{σ:St}{a:Act}(hX:Q6c E X){ops:Array Oper}{o:Oper}{v:Value}{H':List AObj}{Q:Exit→Act→World→Prop}(hs:Q6b X o σ.t σ.h v H')(hR:Rel E γ₀ H₀ Φ₀ w₀ σ a w)
 (hQ:∀a' w',Rel E γ₀ H₀ Φ₀ w₀ ⟨σ.t,σ.n,H'⟩ a' w'→Q (.panic [{ v:=v,recovered:=false }]) a' w') (K:Act→World→Prop):Region.wanted o (yielded ops a.tmps)=true∧o.wp E.P a w K Q:=by
 obtain⟨hg,hs⟩:=hs
 refine⟨by simp[Region.wanted,hg],?_⟩
 obtain⟨⟨γ,Φ,hok,hsl⟩,hsz,hd,hl0⟩:=hR
 rcases hs with⟨f,args,ats,ho,hx⟩|⟨x,ty,kk,m,ho,hx,rfl,rfl⟩
 ·have hcl:(args.toList.map a.eval).length=(args.toList.map (ev σ.t)).length:=by simp
  have harr:(⟨args.toList.map a.eval⟩:Array Value)=args.map a.eval:=by
   apply Array.ext'
   simp
  obtain⟨⟨fn,hf,hb,hnm⟩,hcalls⟩:=Z3h hX hok.inv hcl (Q6s hsl args) hx
  unfold Oper.wp
  rw[Z2x ho hf hb hnm]
  rw[harr]at hcalls
  refine hcalls.mono ?_
  rintro e w'' ⟨γ',Φ',rfl,hok'⟩
  exact hQ _ _ ⟨⟨γ',Φ',hok.trans hok',fun i=>(hsl i).mono hok'.evo⟩,hsz,hd,hl0⟩
 have hr:=Q0q hsl x
 rw[hx]at hr
 have he:a.eval x=.iface ty (.int kk m):=by
  generalize a.eval x=u at hr
  cases hr with
  | ifc t u p hp=>
    cases hp
    rfl
 unfold Oper.wp execOp
 simp only[ho,he,Instr.panic]
 exact hQ _ _ ⟨⟨γ,Φ,hok,hsl⟩,hsz,hd,hl0⟩
def J4s(X:XO)(o:Oper)(ks:List Nat)(L:List (Nat×AV))(v:Value)(H':List AObj):Option St→Prop
 | some σ=>Q6b X o σ.t σ.h v H'∧pick ks σ.t=L
 | none=>False
theorem Z0h{X:XO}(o:Oper)(ks:List Nat)(L:List (Nat×AV))(v:Value)(H':List AObj)(σ:St):J4s X o ks L v H' (some σ)=(Q6b X o σ.t σ.h v H'∧pick ks σ.t=L):=rfl
theorem AW.regSk{O:Orc}{X:XO}{k:Nat}{Q:Exit→St→Prop}(hS:Q1m E O)(hX:Q6c E X){id n:Nat}{t:Nat→AV}{h:List AObj}{ops:Array Oper}(i:Nat)(ks:List Nat){o:Oper}{post:List Oper}{v:Value}{H':List AObj}{L:List (Nat×AV)}(hops:ops.toList.drop i=o::post)
 (hr:J4s X o ks L v H' (arun E O ops (ops.toList.take i) ⟨t,n,h⟩)) (hQ:Q (.panic [{ v:=v,recovered:=false }]) ⟨sl L,n,H'⟩):AW E k (.region id ops false) Q ⟨t,n,h⟩:=by
 generalize hx:arun E O ops (ops.toList.take i) ⟨t,n,h⟩=x at hr
 cases x with
 | none=>exact hr.elim
 | some σ'=>
   obtain⟨hr,rfl⟩:=hr
   have hn:=Z6v hx
   intro γ₀ H₀ Φ₀ w₀ a w hl hR
   refine wp_region_list ?_
   rw[←List.take_append_drop i ops.toList]
   refine Q9h hS _ _ a w hx hR (fun a' w' hR'=>?_)
   rw[hops]
   refine wpList_step fun K hK=>?_
   obtain⟨h1,h2⟩:=J8e (O:=O) (Q:=fun e a' w'=>∃σ',Rel E γ₀ H₀ Φ₀ w₀ σ' a' w'∧Q e σ') hX hr (ops:=ops) hR' (fun a2 w2 hR2=>⟨_,Weak.slots (k:=k) (Q8i ks) γ₀ H₀ Φ₀ w₀ a2 w2 hl hR2,by rw[hn];exact hQ⟩) K
   rw[if_pos h1]
   exact h2
theorem OInv.setVar(hI:OInv E γ H Φ w){l:Nat}{x y:AV}(hl:H[l]?=some (.var [x])){b:Nat}(hv:gv γ l=some (.pointer (some ⟨b,0,none⟩))){v:Value}(hone:v.oneCell'=true)(hns:y.isS=false)
 (hy:∀γ' H' Φ' w',Evo γ H Φ w γ' H' Φ' w'→ARel γ' H' Φ' w' v y):Ok E γ H Φ w γ (H.set l (.var [y])) Φ (w.setCell ⟨b,0,none⟩ v)∧w.frozen? ⟨b,0,none⟩=false∧∃u,w.cell? ⟨b,0,none⟩=some u:=by
 obtain⟨g,hg,hO⟩:=hI.gh hl
 obtain⟨b',T,vs,hgv,ho,hb,hvl,hr,hn⟩:=hO
 obtain⟨g2,hg2,hv2⟩:=Z1c hv
 rw[hg]at hg2
 cases hg2
 rw[hgv]at hv2
 injection hv2 with hv2
 injection hv2 with hv2
 injection hv2 with hv2
 subst hv2
 obtain⟨u,rfl⟩:∃u,vs=[u]:=by
  rcases vs with _|⟨u,_|⟨_,_⟩⟩<;>simp at hvl
  exact⟨u,rfl⟩
 have hset:γ.set l g=γ:=by
  refine List.ext_getElem? fun i=>?_
  by_cases hi:i=l
  ·subst hi
   rw[List.getElem?_set_self (List.getElem?_eq_some_iff.1 hg).1,hg]
  rw[List.getElem?_set_ne (Ne.symm hi)]
 have hother:∀k,k≠b'→(w.setCell ⟨b',0,none⟩ v).heap[k]?=w.heap[k]?:=fun k hk=>Below.heap_setCell _ _ _ _ (fun e=>hk e)
 have hsz:(w.setCell ⟨b',0,none⟩ v).heap.size=w.heap.size:=by simp[World.setCell]
 have hhere:(w.setCell ⟨b',0,none⟩ v).heap[b']?=some (.cells ⟨[v]⟩ T (0,0)):=by
  simp[World.setCell,Array.getElem?_modify,hb]
 refine⟨?_,by simp[World.frozen?,hb],u,by simp[World.cell?,hb]⟩
 have:=hI.setObj (o':=.var [y]) (g':=g) (w':=w.setCell ⟨b',0,none⟩ v) (Φ':=Φ) hl hg (fun c hc hn'=>hother c (fun e=>hn' (by rw[ho,e];simp))) (by rw[hsz];exact Nat.le_refl _) rfl rfl rfl (fun _ _ h=>h) (fun _ _ h _ _=>h) (fun c k h=>by rw[hsz];exact hI.phi c k h)
  (fun c k hΦ hc=>by rw[ho]at hc;simp at hc;subst hc;exact absurd hΦ (hn.1 k)) (fun c hc=>⟨.inl hc,by rw[hsz];exact(hI.own l g hg c hc).2⟩) (.inl rfl) (fun _ _ _ h=>by cases h)
  (fun hE=>⟨b',T,[v],hgv,ho,hhere,rfl,fun k u c hu hc=>by
    match k,hu,hc with
    | 0,hu,hc=>
      cases hu
      cases hc
      exact⟨hone,hy _ _ _ _ hE⟩,hn.1,fun c hc hs=>by rw[List.mem_singleton.1 hc,hns]at hs;cases hs⟩)
 rwa [hset]at this
end
end Go.Abs
namespace Go.Abs
open Go.RowKit
def Q3n:List AV→Option (List AV)
 | []=>some []
 | .pv p::r=>(Q3n r).map (.pv p::·)
 | .nils::r=>(Q3n r).map (.pv (.slice [])::·)
 | .full xs::r=>(Q3n r).map (.pv (.slice xs)::·)
 | .fn g []::r=>(Q3n r).map (.fn g []::·)
 | _=>none
theorem pu0:Q3n []=some []:=rfl
theorem pu1(p:PV)(r:List AV):Q3n (.pv p::r)=(Q3n r).map (.pv p::·):=rfl
theorem pu2(r:List AV):Q3n (.nils::r)=(Q3n r).map (.pv (.slice [])::·):=rfl
theorem pu3(xs:List PV)(r:List AV):Q3n (.full xs::r)=(Q3n r).map (.pv (.slice xs)::·):=rfl
theorem pu4(g:FuncId)(r:List AV):Q3n (.fn g []::r)=(Q3n r).map (.fn g []::·):=rfl
def PU:=And.intro pu0 (And.intro @pu1 (And.intro @pu2 (And.intro @pu3 @pu4)))
theorem Q5v{H:List AObj}{f:Nat→Option Nat}:∀ {az bs:List AV},Q3n az=some bs→Q1i H az=[]∧Q0s H f az=some bs
 | [],bs,h=>by
   cases h
   exact⟨rfl,rfl⟩
 | a::r,bs,h=>by
   have key:∀ (x:AV),Q3n (a::r)=(Q3n r).map (x::·)→(∀s,Q0s H f r=some s→Q0s H f (a::r)=some (x::s))→(Q1i H (a::r)=Q1i H r)→Q1i H (a::r)=[]∧Q0s H f (a::r)=some bs:=by
    intro x e1 e2 e3
    rw[e1]at h
    obtain⟨cs,hc,rfl⟩:=Option.map_eq_some_iff.1 h
    obtain⟨g1,g2⟩:=Q5v (H:=H) (f:=f) hc
    exact⟨by rw[e3,g1],e2 _ g2⟩
   cases a with
   | pv p=>exact key (.pv p) rfl (fun s hs=>by simp[Q0s,toPV,AV.ren,renN,hs]) (by simp[Q1i,toPV])
   | nils=>exact key (.pv (.slice [])) rfl (fun s hs=>by simp[Q0s,toPV,AV.ren,renN,hs]) (by simp[Q1i,toPV])
   | full xs=>exact key (.pv (.slice xs)) rfl (fun s hs=>by simp[Q0s,toPV,AV.ren,renN,hs]) (by simp[Q1i,toPV])
   | fn g caps=>
     cases caps with
     | nil=>exact key (.fn g []) rfl (fun s hs=>by simp[Q0s,toPV,AV.ren,renN,hs]) (by simp[Q1i,toPV])
     | cons c cs=>simp[Q3n]at h
   | _=>simp[Q3n]at h
def obj1:AObj→Bool
 | .var cs=>Q8o cs
 | .hrow _ _ _ _ _ _ _=>false
 | _=>true
theorem Z2z{f:Nat→Option Nat}{o:AObj}(h:obj1 o=true):o.ren f=some o:=by
 cases o with
 | var cs=>simp only[AObj.ren,Z0x (az:=cs) h,Option.map_some]
 | hrow=>cases h
 | _=>rfl
theorem Z3a{f:Nat→Nat}{o:AObj}(h:obj1 o=true):o.mapL f=o:=by
 cases o with
 | var cs=>simp only[AObj.mapL,Q4h (az:=cs) h]
 | hrow=>cases h
 | _=>rfl
theorem J6v{o:AObj}{rest:List AObj}(h:obj1 o=true):Q1h (o::rest) [0]=[]:=by
 cases o with
 | var cs=>simp only[Q1h,List.getElem?_cons_zero,Q6j (az:=cs) h,List.append_nil]
 | hrow=>cases h
 | _=>rfl
theorem V9v{o o':AObj}{rest:List AObj}(h:obj1 o'=true):Q0n (o::rest) [0] [o']=o'::rest:=by
 unfold Q0n
 rw[show List.drop [0].length [o']=[] from rfl,List.map_nil,List.append_nil]
 refine List.ext_getElem (by simp) fun k h1 h2=>?_
 rw[List.getElem_map,List.getElem_range]
 cases k with
 | zero=>exact Z3a h
 | succ k=>
   have:idx [0] (k+1)=none:=by
    simp[idx]
   rw[this]
   have hk:k<rest.length:=by simpa using h2
   simp[hk]
theorem ecp{O:Orc}{f:FuncId}{az:List AV}{rs:List AV}(h:O.C f az []=some (rs,[]))(hr:Q8o rs=true)(H:List AObj)(args:List AV)(ha:Q3n args=some az):Q0v O H f args=some (Q1a rs,H):=by
 obtain⟨h1,h2⟩:=Q5v (H:=H) (f:=idx []) ha
 have h3:Q0n H [] []=H:=by
  unfold Q0n
  simp only[List.length_nil,List.drop_zero,List.map_nil,List.append_nil]
  refine List.ext_getElem (by simp) fun k h1 h2=>?_
  rw[List.getElem_map,List.getElem_range]
  simp[idx,h2]
 unfold Q0v
 simp only[h1,Q1h,List.append_nil]
 have hd:Q4w []=[]:=rfl
 simp only[hd,Q0y,h2,h,List.length_nil,Nat.le_refl,if_true,h3,Q4h hr]
theorem ec1{O:Orc}{f:FuncId}{k:Nat}{az:List AV}{o o':AObj}{rs:List AV}(h:O.C f (.ref 0 k::az) [o]=some (rs,[o']))(ho:obj1 o=true)(hr:Q8o rs=true)(ho':obj1 o'=true)(rest:List AObj)(args:List AV)(ha:Q3n args=some az):Q0v O (o::rest) f (.ref 0 k::args)=some (Q1a rs,o'::rest):=by
 obtain⟨g1,g2⟩:=Q5v (H:=o::rest) (f:=idx [0]) ha
 have h1:Q1i (o::rest) (.ref 0 k::args)=[0]:=by
  simp only[Q1i,toPV]
  rw[g1]
  rfl
 have h4:Q0s (o::rest) (idx [0]) (.ref 0 k::args)=some (.ref 0 k::az):=by
  rw[show Q0s (o::rest) (idx [0]) (.ref 0 k::args)=(match (some (AV.ref 0 k):Option AV),Q0s (o::rest) (idx [0]) args with|some b,some s=>some (b::s)|_,_=>none) from rfl,g2]
 have h5:Q0y (o::rest) (idx [0]) [0]=some [o]:=by
  simp only[Q0y,List.getElem?_cons_zero,Option.bind_some,Z2z ho]
 unfold Q0v
 simp only[h1,J6v ho,List.append_nil]
 have h2:Q4w [0]=[0]:=rfl
 simp only[h2,h4,h5,h,List.length_cons,List.length_nil,Nat.le_refl,if_true,V9v ho',Q4h hr]
def in12:List AV→Bool
 | []=>true
 | .pv _::r=>in12 r
 | .nils::r=>in12 r
 | .vec 1 _::r=>in12 r
 | .vec 2 _::r=>in12 r
 | _=>false
theorem Z0i:∀ {cs:List AV},in12 cs=true→renL (idx [0,1,2]) cs=some cs
 | [],_=>rfl
 | .pv p::r,h=>by
   simp only[renL,AV.ren]
   rw[Z0i (cs:=r) h]
 | .nils::r,h=>by
   simp only[renL,AV.ren]
   rw[Z0i (cs:=r) h]
 | .vec 1 n::r,h=>by
   rw[renL,Z0i (cs:=r) h]
   rfl
 | .vec 2 n::r,h=>by
   rw[renL,Z0i (cs:=r) h]
   rfl
theorem Z0j{m:Nat}:∀ {cs:List AV},in12 cs=true→cs.map (AV.mapL (Q5o m [0,1,2]))=cs
 | [],_=>rfl
 | .pv p::r,h=>by
   rw[List.map_cons,Z0j (cs:=r) h]
   rfl
 | .nils::r,h=>by
   rw[List.map_cons,Z0j (cs:=r) h]
   rfl
 | .vec 1 n::r,h=>by
   rw[List.map_cons,Z0j (cs:=r) h]
   rfl
 | .vec 2 n::r,h=>by
   rw[List.map_cons,Z0j (cs:=r) h]
   rfl
theorem V9u{a b c a' b' c':AObj}{rest:List AObj}(ha:a'.mapL (Q5o (rest.length+3) [0,1,2])=a')(hb:obj1 b'=true)(hc:obj1 c'=true):Q0n (a::b::c::rest) [0,1,2] [a',b',c']=a'::b'::c'::rest:=by
 unfold Q0n
 rw[show List.drop [0,1,2].length [a',b',c']=[] from rfl,List.map_nil,List.append_nil]
 refine List.ext_getElem (by simp) fun k h1 h2=>?_
 rw[List.getElem_map,List.getElem_range]
 match k,h1,h2 with
 | 0,_,_=>exact ha
 | 1,_,_=>exact Z3a hb
 | 2,_,_=>exact Z3a hc
 | k+3,h1,h2=>
   have:idx [0,1,2] (k+3)=none:=by
    simp[idx]
   rw[this]
   have hk:k<rest.length:=by simpa using h2
   simp[hk]
theorem ec3{O:Orc}{f:FuncId}{k:Nat}{az:List AV}{cs cs':List AV}{b c b' c':AObj}{rs:List AV}(h:O.C f (.ref 0 k::az) [.var cs,b,c]=some (rs,[.var cs',b',c']))(ho:(in12 cs&&decide (Q3x cs=[1,2]))=true)(hb:obj1 b=true)(hc:obj1 c=true)(hr:Q8o rs=true)(ho':in12 cs'=true)(hb':obj1 b'=true)(hc':obj1 c'=true)(rest:List AObj)(args:List AV)(ha:Q3n args=some az):
 Q0v O (.var cs::b::c::rest) f (.ref 0 k::args)=some (Q1a rs,.var cs'::b'::c'::rest):=by
 rw[Bool.and_eq_true,decide_eq_true_eq]at ho
 obtain⟨g1,g2⟩:=Q5v (H:=.var cs::b::c::rest) (f:=idx [0,1,2]) ha
 have h1:Q1i (.var cs::b::c::rest) (.ref 0 k::args)=[0]:=by
  simp only[Q1i,toPV]
  rw[g1]
  rfl
 have hi:Q1h (.var cs::b::c::rest) [0]=[1,2]:=by
  simp only[Q1h,List.getElem?_cons_zero,ho.2,List.append_nil]
 have h4:Q0s (.var cs::b::c::rest) (idx [0,1,2]) (.ref 0 k::args)=some (.ref 0 k::az):=by
  rw[show Q0s (.var cs::b::c::rest) (idx [0,1,2]) (.ref 0 k::args)=(match (some (AV.ref 0 k):Option AV),Q0s (.var cs::b::c::rest) (idx [0,1,2]) args with|some b,some s=>some (b::s)|_,_=>none) from rfl,g2]
 have h5:Q0y (.var cs::b::c::rest) (idx [0,1,2]) [0,1,2]=some [.var cs,b,c]:=by
  have hv:(AObj.var cs).ren (idx [0,1,2])=some (.var cs):=by simp only[AObj.ren,Z0i ho.1,Option.map_some]
  simp only[Q0y,List.getElem?_cons_zero,List.getElem?_cons_succ,Option.bind_some,hv,Z2z hb,Z2z hc]
 have h6:AObj.mapL (Q5o (rest.length+3) [0,1,2]) (.var cs')=.var cs':=by
  simp only[AObj.mapL,Z0j ho']
 unfold Q0v
 simp only[h1,hi]
 have h2:Q4w ([0]++[1,2])=[0,1,2]:=rfl
 simp only[h2,h4,h5,h,List.length_cons,List.length_nil,Nat.le_refl,if_true,V9u h6 hb' hc',Q4h hr]
end Go.Abs
