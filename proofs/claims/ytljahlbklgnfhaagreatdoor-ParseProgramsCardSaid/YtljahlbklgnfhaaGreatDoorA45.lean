import Derived.Test.YtljahlbklgnfhaaGreatDoorA28
import Derived.Test.YtljahlbklgnfhaaGreatDoorA39
set_option linter.unusedVariables false
set_option linter.unusedSimpArgs false
set_option linter.defProp false
namespace Go.Abs
open Go.RowKit
abbrev ai(n:Int):AV:=.pv (.int .i64 n)
abbrev as_(s:List UInt8):AV:=.pv (.str s)
abbrev ab(b:Bool):AV:=.pv (.bool b)
def dstOf(ops:Array Oper)(j:Nat):Option Nat:=(ops[j]?).bind (·.dst)
def mayAt(A:List (List Nat))(eff:List Nat)(j p:Nat):Bool:=
 ((eff.take p).all fun e=>e != j&&!(A.getD e []).contains j)&&((eff.drop p).all fun e=>!(A.getD j []).contains e)
def chained(A:List (List Nat)):List Nat→Bool
 | []=>true
 | e::r=>(r.all fun x=>(A.getD x []).contains e)&&chained A r
def J0d(ops:Array Oper)(n:Nat)(eff:List Nat)(F:List (Nat×Nat)):Bool:=
 let A:=ancs ops ops.size
 let R:=List.range ops.size
 (R.all fun j=>((direct ops j).all fun i=>decide (i<j))&&(match dstOf ops j with
   | some d=>decide (d<n)&&R.all fun k=>match ops[k]? with
     | some o=>!(o.looksAt ops).contains d||(A.getD k []).contains j
     | none=>true
   | none=>true)&&((List.range j).all fun i=>dstOf ops i==none||dstOf ops i != dstOf ops j) &&
   ((List.range (eff.length+1)).all fun p=>!mayAt A eff j p||F.contains (j,p))) &&
 chained A eff&&eff.all fun e=>decide (e<ops.size)
def Q3p(ops:Array Oper)(val:List AV):List (Nat×AV):=(List.range ops.size).filterMap fun j=>(dstOf ops j).map fun d=>(d,val.getD j .any)
def Q3z(E:Env)(O:Orc)(ops:Array Oper)(t:Nat→AV)(n:Nat)(val:List AV)(hs:List (List AObj))(eff:List Nat):List (Nat×Nat)→Prop
 | []=>True
 | (j,p)::r=>(∀o,ops[j]?=some o→Q1w E O ops ⟨t,n,hs.getD p []⟩ o=some (val.getD j .any,hs.getD (if eff.contains j then p+1 else p) []))∧Q3z E O ops t n val hs eff r
section
variable {E:Env}{O:Orc}{γ₀:List Gh}{H₀:List AObj}{Φ₀:Nat→Nat→Prop}{w₀:World}
theorem Q3z.at{ops:Array Oper}{t:Nat→AV}{n:Nat}{val:List AV}{hs:List (List AObj)}{eff:List Nat}:∀ {F:List (Nat×Nat)},Q3z E O ops t n val hs eff F→∀ {j p:Nat},(j,p)∈F→∀ {o:Oper},ops[j]?=some o→
 Q1w E O ops ⟨t,n,hs.getD p []⟩ o=some (val.getD j .any,hs.getD (if eff.contains j then p+1 else p) [])
 | [],_,_,_,h=>by cases h
 | (j',p')::r,⟨h1,h2⟩,j,p,h=>by
   rcases List.mem_cons.1 h with h|h
   ·injection h with e1 e2
    subst e1 e2
    exact fun ho=>h1 _ ho
   exact fun ho=>h2.at h ho
theorem Z2h{ops:Array Oper}{o:Oper}{t t':Nat→AV}{n:Nat}{X:List AObj}(h:∀d∈o.looksAt ops,t d=t' d):Q1w E O ops ⟨t,n,X⟩ o=Q1w E O ops ⟨t',n,X⟩ o:=by
 have h1:aop E O ⟨t,n,X⟩ o=aop E O ⟨t',n,X⟩ o:=J0z o (fun x hx=>by
  cases x with
  | tmp d=>exact h d (List.mem_append_left _ (List.mem_filterMap.2 ⟨.tmp d,by simpa using hx,rfl⟩))
  | _=>rfl)
 have h2:gdec ops t o=gdec ops t' o:=by
  unfold gdec
  cases hg:o.guard with
  | none=>rfl
  | some p=>
    obtain⟨j,want⟩:=p
    simp only
    cases hd:(ops[j]?).bind (·.dst)with
    | none=>rfl
    | some g=>
      simp only
      rw[h g (by simp[Oper.looksAt,hg,hd])]
 unfold Q1w
 simp only[h1,h2]
theorem Z1h{A:List (List Nat)}:∀ {eff:List Nat},chained A eff=true→∀ {p:Nat} {e x:Nat},eff[p]?=some e→x∈eff.drop (p+1)→e∈A.getD x []
 | [],_,p,e,x,h,_=>by simp at h
 | e'::r,hc,p,e,x,h,hx=>by
   simp only[chained,Bool.and_eq_true]at hc
   cases p with
   | zero=>
     simp only[List.getElem?_cons_zero,Option.some.injEq]at h
     subst h
     have:=List.all_eq_true.1 hc.1 x (by simpa using hx)
     simpa using this
   | succ p=>exact Z1h hc.2 (by simpa using h) (by simpa using hx)
theorem Z3m(L:List (Nat×AV)):∀ (P:List (Nat×AV)) (i:Nat),(∀v,(i,v)∉P)→sl (P++L) i=sl L i
 | [],i,_=>rfl
 | (j,v)::P,i,h=>by
   show(if i=j then v else sl (P++L) i)=_
   rw[if_neg (fun e=>h v (by rw[e];simp)),Z3m L P i fun u hu=>h u (List.mem_cons_of_mem _ hu)]
theorem J8l(L:List (Nat×AV)):∀ (P:List (Nat×AV)) (i:Nat) (v:AV),(i,v)∈P→(∀u,(i,u)∈P→u=v)→sl (P++L) i=v
 | [],i,v,h,_=>by cases h
 | (j,u)::P,i,v,h,hu=>by
   show(if i=j then u else sl (P++L) i)=v
   by_cases hij:i=j
   ·rw[if_pos hij]
    exact hu u (by rw[hij];simp)
   rw[if_neg hij]
   refine J8l L P i v ?_ fun x hx=>hu x (List.mem_cons_of_mem _ hx)
   rcases List.mem_cons.1 h with h|h
   ·injection h with e1 e2
    exact absurd e1 hij
   exact h
structure Planned(ops:Array Oper)(n:Nat)(eff:List Nat)(F:List (Nat×Nat)):Prop where
 lt:∀ {i j:Nat},j<ops.size→i∈direct ops j→i<j
 dst:∀ {j d:Nat},dstOf ops j=some d→d<n∧∀ {k:Nat} {o:Oper},ops[k]?=some o→d∈o.looksAt ops→j∈(ancs ops ops.size).getD k []
 one:∀ {i j d:Nat},dstOf ops i=some d→dstOf ops j=some d→i=j
 may:∀ {j p:Nat},j<ops.size→p≤eff.length→mayAt (ancs ops ops.size) eff j p=true→(j,p)∈F
 chain:chained (ancs ops ops.size) eff=true
 effs:∀ {e:Nat},e∈eff→e<ops.size
theorem Q5e{ops:Array Oper}{j d:Nat}(h:dstOf ops j=some d):j<ops.size:=by
 unfold dstOf at h
 obtain⟨o,ho,_⟩:=Option.bind_eq_some_iff.1 h
 exact(Array.getElem?_eq_some_iff.1 ho).1
theorem Z3w{ops:Array Oper}{n:Nat}{eff:List Nat}{F:List (Nat×Nat)}(h:J0d ops n eff F=true):Planned ops n eff F:=by
 unfold J0d at h
 simp only[Bool.and_eq_true]at h
 obtain⟨⟨h1,h2⟩,h3⟩:=h
 have hj:=fun j (hj:j<ops.size)=>List.all_eq_true.1 h1 j (List.mem_range.2 hj)
 simp only[Bool.and_eq_true]at hj
 have lt1:∀ {i j d:Nat},i<j→dstOf ops i=some d→dstOf ops j=some d→False:=by
  intro i j d hij hi hj'
  have:=List.all_eq_true.1 (hj j (Q5e hj')).1.2 i (List.mem_range.2 hij)
  rw[hi,hj']at this
  simp at this
 refine⟨fun {i j} hjs hi=>by simpa using List.all_eq_true.1 (hj j hjs).1.1.1 i hi,fun {j d} hd=>?_,fun {i j d} hi hj'=>?_,fun {j p} hjs hp hm=>?_,h2,fun {e} he=>by simpa using List.all_eq_true.1 h3 e he⟩
 ·have:=(hj j (Q5e hd)).1.1.2
  rw[hd]at this
  simp only[Bool.and_eq_true,decide_eq_true_eq]at this
  refine⟨this.1,fun {k o} ho hl=>?_⟩
  have hk:=List.all_eq_true.1 this.2 k (List.mem_range.2 (Array.getElem?_eq_some_iff.1 ho).1)
  simp only[ho]at hk
  rcases Bool.or_eq_true _ _▸hk with hk|hk
  ·simp[hl]at hk
  simpa using hk
 ·rcases Nat.lt_trichotomy i j with h|h|h
  ·exact(lt1 h hi hj').elim
  ·exact h
  exact(lt1 h hj' hi).elim
 have:=List.all_eq_true.1 (hj j hjs).2 p (List.mem_range.2 (by omega))
 rcases Bool.or_eq_true _ _▸this with h|h
 ·rw[hm]at h
  cases h
 simpa using h
theorem Z2f(hS:Q1m E O){ops:Array Oper}{n:Nat}{eff:List Nat}{F:List (Nat×Nat)}(hok:Planned ops n eff F){val:List AV}{hs:List (List AObj)}{L0:List (Nat×AV)}
 (px:Nat→Bool) (hf:∀ (j p:Nat) (o:Oper),px j=false→(∀x,px x=true→x∉(ancs ops ops.size).getD j [])→(j,p)∈F→ops[j]?=some o→Q1w E O ops ⟨sl (Q3p ops val++L0),n,hs.getD p []⟩ o=some (val.getD j .any,hs.getD (if eff.contains j then p+1 else p) [])) {Q:Exit→Act→World→Prop}
 (hX:∀ (j:Nat) (o:Oper),px j=true→ops[j]?=some o→∀ (σ:St) (a:Act) (w:World) (K:Act→World→Prop),σ.n=n→σ.h=hs.getD eff.length []→(∀d∈o.looksAt ops,σ.t d=sl (Q3p ops val++L0) d)→Rel E γ₀ H₀ Φ₀ w₀ σ a w→Region.wanted o (yielded ops a.tmps)=true∧o.wp E.P a w K Q)
 (hXe:∀ (j e:Nat),px j=true→e∈eff→e∈(ancs ops ops.size).getD j [])
 (hQ:(∀j,j<ops.size→px j=false)→∀a' w',Rel E γ₀ H₀ Φ₀ w₀ ⟨sl (Q3p ops val++L0),n,hs.getD eff.length []⟩ a' w'→Q .normal a' w'):
 ∀ (fuel:Nat) (listed:Array Bool) (σ:St) (a:Act) (w:World) (p:Nat),listed.size=ops.size→(todo ops listed).length≤fuel→(∀j,listed.getD j false=true→∀i∈direct ops j,listed.getD i false=true)→
  p≤eff.length→(∀e∈eff.take p,listed.getD e false=true)→(∀e∈eff.drop p,listed.getD e false=false)→σ.h=hs.getD p []→σ.n=n→
  (∀j d,listed.getD j false=true→dstOf ops j=some d→σ.t d=val.getD j .any)→(∀i,(∀j,listed.getD j false=true→dstOf ops j≠some i)→σ.t i=sl L0 i)→
  (∀j,px j=true→listed.getD j false=false)→Rel E γ₀ H₀ Φ₀ w₀ σ a w→wpAny E.P .any ops Q fuel listed a w:=by
 have tF:∀j d,dstOf ops j=some d→sl (Q3p ops val++L0) d=val.getD j .any:=by
  intro j d hd
  refine J8l L0 _ d _ (List.mem_filterMap.2 ⟨j,List.mem_range.2 (Q5e hd),by rw[hd];rfl⟩) fun u hu=>?_
  obtain⟨k,hk,he⟩:=List.mem_filterMap.1 hu
  obtain⟨d',hd',he'⟩:=Option.map_eq_some_iff.1 he
  injection he' with e1 e2
  subst e1
  rw[←e2,hok.one hd' hd]
 have tF0:∀i,(∀j,dstOf ops j≠some i)→sl (Q3p ops val++L0) i=sl L0 i:=by
  intro i hi
  refine Z3m L0 _ i fun v hv=>?_
  obtain⟨k,hk,he⟩:=List.mem_filterMap.1 hv
  obtain⟨d',hd',he'⟩:=Option.map_eq_some_iff.1 he
  injection he' with e1 e2
  subst e1
  exact hi k hd'
 have gt:∀ (listed:Array Bool) (j:Nat),listed.size=ops.size→j<ops.size→(listed.getD j true=listed.getD j false):=by
  intro listed j hsz hj
  have:j<listed.size:=by omega
  simp[this]
 have last:∀ (listed:Array Bool) (σ:St) (p:Nat),listed.size=ops.size→todo ops listed=[]→p≤eff.length→(∀e∈eff.drop p,listed.getD e false=false)→σ.h=hs.getD p []→σ.n=n→
  (∀j d,listed.getD j false=true→dstOf ops j=some d→σ.t d=val.getD j .any)→(∀i,(∀j,listed.getD j false=true→dstOf ops j≠some i)→σ.t i=sl L0 i)→σ=⟨sl (Q3p ops val++L0),n,hs.getD eff.length []⟩:=by
  intro listed σ p hsz h0 hp hd hh hn ha hb
  have hall:∀j,j<ops.size→listed.getD j false=true:=by
   intro j hj
   cases hb:listed.getD j false with
   | true=>rfl
   | false=>
     have:j∈todo ops listed:=List.mem_filter.2 ⟨List.mem_range.2 hj,by rw[gt listed j hsz hj,hb];rfl⟩
     rw[h0]at this
     cases this
  have hpe:p=eff.length:=by
   rcases Nat.lt_or_ge p eff.length with h|h
   ·have hm:eff[p]∈eff.drop p:=by
     rw[List.drop_eq_getElem_cons h]
     exact List.mem_cons_self
    have h1:=hd _ hm
    rw[hall _ (hok.effs (List.getElem_mem h))]at h1
    cases h1
   omega
  obtain⟨t,m,hh'⟩:=σ
  simp only at hh hn ha hb
  subst hn hpe
  rw[hh]
  congr 1
  funext i
  by_cases hi:∃j,dstOf ops j=some i
  ·obtain⟨j,hj⟩:=hi
   rw[ha j i (hall j (Q5e hj)) hj,tF j i hj]
  rw[tF0 i fun j hj=>hi ⟨j,hj⟩,hb i fun j _ hj=>hi ⟨j,hj⟩]
 have nopx:∀ (listed:Array Bool),listed.size=ops.size→todo ops listed=[]→(∀j,px j=true→listed.getD j false=false)→∀j,j<ops.size→px j=false:=by
  intro listed hsz h0 hpx j hj
  cases hb:px j with
  | false=>rfl
  | true=>
    have:j∈todo ops listed:=List.mem_filter.2 ⟨List.mem_range.2 hj,by rw[gt listed j hsz hj,hpx j hb];rfl⟩
    rw[h0]at this
    cases this
 have none_left:∀ (listed:Array Bool),listed.size=ops.size→todo ops listed=[]→Region.ready .any ops listed=[]:=by
  intro listed hsz h
  refine List.eq_nil_iff_forall_not_mem.2 fun j hj=>?_
  obtain⟨h1,o,ho,_⟩:=mem_ready.1 hj
  have:j∈todo ops listed:=List.mem_filter.2 ⟨List.mem_range.2 (Array.getElem?_eq_some_iff.1 ho).1,by simp[h1]⟩
  rw[h]at this
  cases this
 have ready_left:∀ (listed:Array Bool),listed.size=ops.size→todo ops listed≠[]→Region.ready .any ops listed≠[]:=by
  intro listed hsz hne hnone
  obtain⟨j,rest,hjr⟩:=List.exists_cons_of_ne_nil hne
  have hj:j∈todo ops listed:=by rw[hjr];simp
  obtain⟨hjs,hun⟩:=List.mem_filter.1 hj
  have hjs':=List.mem_range.1 hjs
  have hsort:(todo ops listed).Pairwise (·<·):=(List.pairwise_lt_range (n:=ops.size)).filter _
  rw[hjr]at hsort
  have hready:j∈Region.ready .any ops listed:=by
   refine mem_ready.2 ⟨by simpa using hun,ops[j],Array.getElem?_eq_getElem hjs',fun e he hb=>?_⟩
   have hd:e.on∈direct ops j:=by
    simp only[direct,Array.getElem?_eq_getElem hjs']
    exact List.mem_map.2 ⟨e,List.mem_filter.2 ⟨by simpa using he,hb⟩,rfl⟩
   have hlt:=hok.lt hjs' hd
   have his:e.on<listed.size:=by omega
   cases hb2:listed.getD e.on true with
   | true=>
     simp[his]at hb2 ⊢
     exact hb2
   | false=>
     exfalso
     have hm:e.on∈todo ops listed:=List.mem_filter.2 ⟨List.mem_range.2 (by omega),by simpa using hb2⟩
     rw[hjr]at hm
     rcases List.mem_cons.1 hm with h|h
     ·omega
     have:=(List.pairwise_cons.1 hsort).1 e.on h
     omega
  rw[hnone]at hready
  cases hready
 intro fuel
 induction fuel with
 | zero=>
   intro listed σ a w p hsz hl hdown hp hep hed hh hn ha hb hpx hR
   have h0:todo ops listed=[]:=List.eq_nil_of_length_eq_zero (by omega)
   have:=last listed σ p hsz h0 hp hed hh hn ha hb
   subst this
   exact⟨none_left listed hsz h0,hQ (nopx listed hsz h0 hpx) a w hR⟩
 | succ fuel ih=>
   intro listed σ a w p hsz hl hdown hp hep hed hh hn ha hb hpx hR
   refine⟨fun hnone=>?_,fun j hj=>?_⟩
   ·by_cases h0:todo ops listed=[]
    ·have:=last listed σ p hsz h0 hp hed hh hn ha hb
     subst this
     exact hQ (nopx listed hsz h0 hpx) a w hR
    exact absurd hnone (ready_left listed hsz h0)
   obtain⟨h1,o,ho,hbound⟩:=mem_ready.1 hj
   have hjs:j<ops.size:=(Array.getElem?_eq_some_iff.1 ho).1
   have hjt:j∈todo ops listed:=List.mem_filter.2 ⟨List.mem_range.2 hjs,by simp[h1]⟩
   have hjun:listed.getD j false=false:=by
    have:=(List.mem_filter.1 hjt).2
    rw[gt listed j hsz hjs]at this
    simpa using this
   obtain⟨l,r,e1,e2,hl1⟩:=Z0v hjt
   have hdir:∀i∈direct ops j,listed.getD i false=true:=by
    intro i hi
    simp only[direct,ho]at hi
    obtain⟨e,he,rfl⟩:=List.mem_map.1 hi
    have he':=List.mem_filter.1 he
    exact hbound e (by simpa using he'.1) he'.2
   have hanc:=Q2p (ops:=ops) (L:=fun i=>listed.getD i false=true) hdown ops.size j hdir
   have hmay:mayAt (ancs ops ops.size) eff j p=true:=by
    unfold mayAt
    rw[Bool.and_eq_true]
    refine⟨List.all_eq_true.2 fun e he=>?_,List.all_eq_true.2 fun e he=>?_⟩
    ·have hel:=hep e he
     rw[Bool.and_eq_true]
     refine⟨?_,?_⟩
     ·simp only[bne_iff_ne,ne_eq]
      intro e'
      rw[e',hjun]at hel
      cases hel
     cases hc:((ancs ops ops.size).getD e []).contains j with
     | false=>rfl
     | true=>
       have:=Q2p (ops:=ops) (L:=fun i=>listed.getD i false=true) hdown ops.size e (hdown e hel) j (by simpa using hc)
       rw[hjun]at this
       cases this
    have hel:=hed e he
    cases hc:((ancs ops ops.size).getD j []).contains e with
    | false=>rfl
    | true=>
      have:=hanc e (by simpa using hc)
      rw[hel]at this
      cases this
   have hsame:∀d∈o.looksAt ops,σ.t d=sl (Q3p ops val++L0) d:=by
    intro d hd
    by_cases hk:∃k,dstOf ops k=some d
    ·obtain⟨k,hk⟩:=hk
     rw[tF k d hk]
     exact ha k d (hanc k ((hok.dst hk).2 ho hd)) hk
    rw[tF0 d fun k hk'=>hk ⟨k,hk'⟩]
    exact hb d fun k _ hk'=>hk ⟨k,hk'⟩
   cases hpj:px j with
   | true=>
     have hpe:p=eff.length:=by
      rcases Nat.lt_or_ge p eff.length with h|h
      ·have hm:eff[p]∈eff.drop p:=by
        rw[List.drop_eq_getElem_cons h]
        exact List.mem_cons_self
       have h1:=hed _ hm
       rw[hanc _ (hXe j _ hpj (List.getElem_mem h))]at h1
       cases h1
      omega
     subst hpe
     obtain⟨hw,hwp⟩:=hX j o hpj ho σ a w (wpAny E.P .any ops Q fuel (listed.setIfInBounds j true)) hn hh hsame hR
     unfold wpOp
     rw[ho]
     simp only[hw,if_true]
     exact .inl hwp
   | false=>
   have hfact:=hf j p o hpj (fun x hx hxa=>by have h1:=hpx x hx;rw[hanc x hxa]at h1;cases h1) (hok.may hjs hp hmay) ho
   have hdoes:Q1w E O ops σ o=some (val.getD j .any,hs.getD (if eff.contains j then p+1 else p) []):=by
    obtain⟨t,m,hh'⟩:=σ
    simp only at hh hn hsame
    subst hh hn
    rw[Z2h hsame]
    exact hfact
   have hdst:o.dst=dstOf ops j:=by simp[dstOf,ho]
   have hput:put σ o.dst (val.getD j .any) (hs.getD (if eff.contains j then p+1 else p) [])=some ⟨putT σ.t (val.getD j .any) o.dst,n,hs.getD (if eff.contains j then p+1 else p) []⟩:=by
    unfold put putT
    cases hd:o.dst with
    | none=>simp only[hn]
    | some d=>
      have hdn:=(hok.dst (by rw[←hdst,hd]:dstOf ops j=some d)).1
      simp only[hn,if_pos hdn]
   have hs1:Q7a E O ops σ o=some ⟨putT σ.t (val.getD j .any) o.dst,n,hs.getD (if eff.contains j then p+1 else p) []⟩:=by
    rw[Q4d,hdoes]
    exact hput
   have hset:∀i,(listed.setIfInBounds j true).getD i false=true→i=j∨listed.getD i false=true:=by
    intro i hi
    by_cases hij:j=i
    ·exact .inl hij.symm
    rw[getD_set_ne false hij]at hi
    exact .inr hi
   have hsetj:(listed.setIfInBounds j true).getD j false=true:=by
    have:j<listed.size:=by omega
    simp[this]
   have hseto:∀i,listed.getD i false=true→(listed.setIfInBounds j true).getD i false=true:=fun i hi=>getD_set_true hi
   have hstep:=Q4k hS hs1 hR (K:=wpAny E.P .any ops Q fuel (listed.setIfInBounds j true)) (Q:=Q) (fun a' w' hR'=>by
    have common:∀p',p'≤eff.length→(∀e∈eff.take p',(listed.setIfInBounds j true).getD e false=true)→(∀e∈eff.drop p',(listed.setIfInBounds j true).getD e false=false)→(if eff.contains j then p+1 else p)=p'→
     wpAny E.P .any ops Q fuel (listed.setIfInBounds j true) a' w':=by
     intro p' hp' hep' hed' hpp
     refine ih (listed.setIfInBounds j true) _ a' w' p' (by simpa using hsz) ?_ ?_ hp' hep' hed' (by rw[hpp]) rfl ?_ ?_ (fun i hi=>?_) hR'
     ·rw[e2]
      rw[e1]at hl
      simp only[List.length_append,List.length_cons]at hl ⊢
      omega
     ·intro k hk i hi
      rcases hset k hk with rfl|hk
      ·exact hseto _ (hdir i hi)
      exact hseto _ (hdown k hk i hi)
     ·intro k d hk hd
      show putT σ.t (val.getD j .any) o.dst d=_
      by_cases hkj:k=j
      ·subst hkj
       rw[hdst,hd]
       show upd σ.t d _ d=_
       simp[upd]
      rcases hset k hk with h|hk
      ·exact absurd h hkj
      rw[hdst]
      cases hjd:dstOf ops j with
      | none=>exact ha k d hk hd
      | some d'=>
        show upd σ.t d' _ d=_
        unfold upd
        rw[if_neg (fun e=>hkj (hok.one hd (by rw[hjd,e])))]
        exact ha k d hk hd
     ·intro i hi
      show putT σ.t (val.getD j .any) o.dst i=_
      rw[hdst]
      have hold:=hb i fun k hk=>hi k (hseto k hk)
      cases hjd:dstOf ops j with
      | none=>exact hold
      | some d'=>
        show upd σ.t d' _ i=_
        unfold upd
        rw[if_neg (fun e=>hi j hsetj (by rw[hjd,e]))]
        exact hold
     rw[getD_set_ne false (fun e=>by rw[e,hi]at hpj;cases hpj)]
     exact hpx i hi
    by_cases hje:j∈eff
    ·
     have hjd:j∈eff.drop p:=by
      rcases List.mem_append.1 (by rw[List.take_append_drop];exact hje:j∈eff.take p++eff.drop p)with h|h
      ·have:=hep j h
       rw[hjun]at this
       cases this
      exact h
     have hpl:p<eff.length:=by
      rcases Nat.lt_or_ge p eff.length with h|h
      ·exact h
      rw[List.drop_eq_nil_of_le h]at hjd
      cases hjd
     have hat:eff[p]=j:=by
      rw[List.drop_eq_getElem_cons hpl]at hjd
      rcases List.mem_cons.1 hjd with h|h
      ·exact h.symm
      have hanc1:=Z1h hok.chain (List.getElem?_eq_getElem hpl) h
      have h2:=hanc _ hanc1
      have h3:=hed eff[p] (by rw[List.drop_eq_getElem_cons hpl];exact List.mem_cons_self)
      rw[h2]at h3
      cases h3
     refine common (p+1) (by omega) (fun e he=>?_) (fun e he=>?_) (by rw[if_pos (by simpa using hje)])
     ·rw[List.take_add_one,List.getElem?_eq_getElem hpl,hat]at he
      rcases List.mem_append.1 he with h|h
      ·exact hseto e (hep e h)
      simp only[Option.toList_some,List.mem_singleton]at h
      rw[h]
      exact hsetj
     have hed1:=hed e (by rw[List.drop_eq_getElem_cons hpl];exact List.mem_cons_of_mem _ he)
     have hne:j≠e:=by
      intro e'
      subst e'
      have hanc1:=Z1h hok.chain (List.getElem?_eq_getElem hpl) he
      rw[hat]at hanc1
      have:=hanc _ hanc1
      rw[hjun]at this
      cases this
     rw[getD_set_ne false hne]
     exact hed1
    refine common p hp (fun e he=>hseto e (hep e he)) (fun e he=>?_) (by rw[if_neg (by simpa using hje)])
    have hne:j≠e:=fun e'=>hje (by rw[e'];exact List.mem_of_mem_drop he)
    rw[getD_set_ne false hne]
    exact hed e he)
   unfold wpOp
   rw[ho]
   simp only
   split
   ·rename_i hw
    rw[if_pos hw]at hstep
    exact .inl hstep
   rename_i hw
   rw[if_neg hw]at hstep
   exact hstep
theorem AW.dregV(hP:E.P.follows .mixedOrders=true)(hS:Q1m E O){k id n:Nat}{L0:List (Nat×AV)}{h:List AObj}{ops:Array Oper}{Q:Exit→St→Prop}(eff:List Nat)(F:List (Nat×Nat))(val:List AV)(hs:List (List AObj))(LF:List (Nat×AV))
 (hLF:Q3p ops val++L0=LF) (hok:J0d ops n eff F=true) (h0:hs.getD 0 []=h) (hf:Q3z E O ops (sl LF) n val hs eff F) (L:List (Nat×AV)) (h':List AObj) (hL:Q7k (sl LF) L) (hh:hs.getD eff.length []=h') (hQ:Q .normal ⟨sl L,n,h'⟩):
 AW E k (.region id ops true) Q ⟨sl L0,n,h⟩:=by
 subst hLF
 intro γ₀ H₀ Φ₀ w₀ a w hl hR
 refine wp_region_any hP ?_
 have htodo:todo ops (Array.replicate ops.size false)=List.range ops.size:=by
  refine List.filter_eq_self.2 fun i hi=>?_
  simp[List.mem_range.1 hi]
 have hnone:∀i,(Array.replicate ops.size false).getD i false=false:=by
  intro i
  by_cases hi:i<ops.size
  ·simp[hi]
  simp[hi]
 refine Z2f hS (Z3w hok) (fun _=>false) (fun j p o _ _ hm ho=>hf.at hm ho) (γ₀:=γ₀) (H₀:=H₀) (Φ₀:=Φ₀) (w₀:=w₀) (fun j o h=>by cases h) (fun j e h=>by cases h) (fun _ a' w' hR'=>?_) ops.size _ ⟨sl L0,n,h⟩ a _ 0 (by simp) (by rw[htodo];simp) (fun j hj=>by rw[hnone]at hj;cases hj) (Nat.zero_le _) (fun e he=>by simp at he) (fun e _=>hnone e) h0.symm rfl
  (fun j d hj=>by rw[hnone]at hj;cases hj) (fun i _=>rfl) (fun j h=>by cases h) ?_
 ·have hw:Weak E k ⟨sl (Q3p ops val++L0),n,hs.getD eff.length []⟩ ⟨sl L,n,hs.getD eff.length []⟩:=Weak.forget (Q3w hL)
  have hR3:=hw γ₀ H₀ Φ₀ w₀ a' w' hl hR'
  rw[hh]at hR3
  exact⟨_,hR3,hQ⟩
 obtain⟨⟨γ,Φ,hok',hs'⟩,hsz,hd,h0'⟩:=hR
 have hk:Ok E γ h Φ w γ h Φ { w with drawn:=w.drawn+1 }:=hok'.inv.grow (fun _ _=>rfl) (Nat.le_refl _) rfl rfl rfl (fun _ _ h=>h) (fun _ _ h _=>h) hok'.inv.phi
 exact⟨⟨γ,Φ,hok'.trans hk,fun i=>(hs' i).mono hk.evo⟩,hsz,hd,h0'⟩
theorem Q3z.nil{ops:Array Oper}{t:Nat→AV}{n:Nat}{val:List AV}{hs:List (List AObj)}{eff:List Nat}:Q3z E O ops t n val hs eff []:=trivial
theorem Q3z.cons{ops:Array Oper}{t:Nat→AV}{n:Nat}{val:List AV}{hs:List (List AObj)}{eff:List Nat}{j p:Nat}{F:List (Nat×Nat)}{v:AV}{h1 h2:List AObj}(hv:val.getD j .any=v)(e1:hs.getD p []=h1)(e2:hs.getD (if eff.contains j then p+1 else p) []=h2)
 (h:((ops[j]?).bind fun o=>Q1w E O ops ⟨t,n,h1⟩ o)=some (v,h2)) (hr:Q3z E O ops t n val hs eff F):Q3z E O ops t n val hs eff ((j,p)::F):=
 ⟨fun o' ho'=>by
  rw[ho',Option.bind_some]at h
  rw[e1,e2,hv]
  exact h,hr⟩
end
theorem J3w{T:Nat→Option TI}{s d a b a' b':Nat}{k k':IntKind}{z z':Option (List PV)}(h:T s=some ⟨.int k,a,b,z⟩)(h':T d=some ⟨.int k',a',b',z'⟩)(k2:IntKind)(n:Int):J6n T s d (.pv (.int k2 n))=some (.pv (.int k' (k'.wrap n))):=by
 simp only[J6n,h,h']
end Go.Abs
namespace Go.Abs
open Go.RowKit
section
variable {E:Env}{σ:St}{k:Nat}
theorem Weak.cellPV(l j:Nat){cs:List AV}{a:AV}{p:PV}(hl:σ.h[l]?=some (.var cs))(hj:cs[j]?=some a)(hp:toPV σ.h a=some p):Weak E k σ ⟨σ.t,σ.n,σ.h.set l (.var (cs.set j (.pv p)))⟩:=by
 intro γ₀ H₀ Φ₀ w₀ a' w _ hR
 obtain⟨⟨γ,Φ,hok,hs⟩,hn,hd,hl0⟩:=hR
 obtain⟨g,hg,hO⟩:=hok.inv.gh hl
 obtain⟨b,T,vs,hv,hown,hb,hvl,hrel,hnΦ⟩:=hO
 have hk:=hok.inv.setObj (o':=.var (cs.set j (.pv p))) (g':=g) (w':=w) (Φ':=Φ) hl hg (fun _ _ _=>rfl) (Nat.le_refl _) rfl rfl rfl (fun _ _ h=>h) (fun _ _ h _ _=>h) (fun b k h=>hok.inv.phi b k h) (fun _ _ _ _=>rfl)
  (fun b hb=>⟨.inl hb,(hok.inv.own l g hg b hb).2⟩) (.inl rfl) (fun e1 sz1 n1 h=>by cases h)
  (fun hE=>⟨b,T,vs,hv,hown,hb,by simpa using hvl,fun i v c hvi hc=>by
    by_cases hij:i=j
    ·subst hij
     rw[List.getElem?_set_self (List.getElem?_eq_some_iff.1 hj).1]at hc
     injection hc with hc
     subst hc
     obtain⟨h1,h2⟩:=hrel i v _ hvi hj
     exact⟨h1,.pv ((Q1n hok.inv h2 hp).mono hE.phi hE.cell)⟩
    ·rw[List.getElem?_set_ne (Ne.symm hij)]at hc
     obtain⟨h1,h2⟩:=hrel i v c hvi hc
     exact⟨h1,h2.mono hE⟩,hnΦ.1,fun c hc hs=>by
    rcases List.mem_or_eq_of_mem_set hc with hc|rfl
    ·exact hnΦ.2 c hc hs
    cases hs⟩)
 exact⟨⟨_,_,hok.trans hk,fun i=>(hs i).mono hk.evo⟩,hn,hd,hl0⟩
end
end Go.Abs
namespace Go.Abs
open Go.RowKit
def mkO(b:Nat)(n:Int):Option Unit:=if 0≤n∧n.toNat * b≤140737488355328 then some ()else none
theorem K2b{b:Nat}{n:Int}{u:Unit}(h:mkO b n=some u):(0≤n)=True∧(n.toNat * b≤140737488355328)=True:=by
 unfold mkO at h
 split at h
 ·rename_i hc
  exact⟨eq_true hc.1,eq_true hc.2⟩
 cases h
end Go.Abs
