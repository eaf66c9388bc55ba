import Derived.Test.YtkfcehagblhjaaaGreatDoorA28
import Derived.Test.YtkfcehagblhjaaaGreatDoorA39
set_option linter.unusedVariables false
set_option linter.unusedSimpArgs false
set_option linter.defProp false
namespace Go.Abs
open Go.RowKit
def dstOf(ops:Array Oper)(j:Nat):Option Nat:=(ops[j]?).bind (·.dst)
def mayAt(A:List (List Nat))(eff:List Nat)(j p:Nat):Bool:=
 ((eff.take p).all fun e=>e != j&&!(A.getD e []).contains j)&&((eff.drop p).all fun e=>!(A.getD j []).contains e)
def chained(A:List (List Nat)):List Nat→Bool
 | []=>true
 | e::r=>(r.all fun x=>(A.getD x []).contains e)&&chained A r
def planOK(ops:Array Oper)(n:Nat)(eff:List Nat)(F:List (Nat×Nat)):Bool:=
 let A:=ancs ops ops.size
 let R:=List.range ops.size
 (R.all fun j=>((direct ops j).all fun i=>decide (i<j))&&(match dstOf ops j with
   | some d=>decide (d<n)&&R.all fun k=>match ops[k]? with
     | some o=>!(o.looksAt ops).contains d||(A.getD k []).contains j
     | none=>true
   | none=>true)&&((List.range j).all fun i=>dstOf ops i==none||dstOf ops i != dstOf ops j) &&
   ((List.range (eff.length+1)).all fun p=>!mayAt A eff j p||F.contains (j,p))) &&
 chained A eff&&eff.all fun e=>decide (e<ops.size)
def pairs(ops:Array Oper)(val:List AV):List (Nat×AV):=(List.range ops.size).filterMap fun j=>(dstOf ops j).map fun d=>(d,val.getD j .any)
def Facts(E:Env)(O:Orc)(ops:Array Oper)(t:Nat→AV)(n:Nat)(val:List AV)(hs:List (List AObj))(eff:List Nat):List (Nat×Nat)→Prop
 | []=>True
 | (j,p)::r=>(∀o,ops[j]?=some o→adoes E O ops ⟨t,n,hs.getD p []⟩ o=some (val.getD j .any,hs.getD (if eff.contains j then p+1 else p) []))∧Facts E O ops t n val hs eff r
section
variable {E:Env}{O:Orc}{γ₀:List Gh}{H₀:List AObj}{Φ₀:Nat→Nat→Prop}{w₀:World}
theorem Facts.at{ops:Array Oper}{t:Nat→AV}{n:Nat}{val:List AV}{hs:List (List AObj)}{eff:List Nat}:∀ {F:List (Nat×Nat)},Facts E O ops t n val hs eff F→∀ {j p:Nat},(j,p)∈F→∀ {o:Oper},ops[j]?=some o→
 adoes E O ops ⟨t,n,hs.getD p []⟩ o=some (val.getD j .any,hs.getD (if eff.contains j then p+1 else p) [])
 | [],_,_,_,h=>by cases h
 | (j',p')::r,⟨h1,h2⟩,j,p,h=>by
   rcases List.mem_cons.1 h with h|h
   ·injection h with e1 e2
    subst e1 e2
    exact fun ho=>h1 _ ho
   exact fun ho=>h2.at h ho
theorem adoes_congr2{ops:Array Oper}{o:Oper}{t t':Nat→AV}{n:Nat}{X:List AObj}(h:∀d∈o.looksAt ops,t d=t' d):adoes E O ops ⟨t,n,X⟩ o=adoes E O ops ⟨t',n,X⟩ o:=by
 have h1:aop E O ⟨t,n,X⟩ o=aop E O ⟨t',n,X⟩ o:=aop_congr o (fun x hx=>by
  cases x with
  | tmp d=>exact h d (List.mem_append_left _ (List.mem_filterMap.2 ⟨.tmp d,by simpa using hx,rfl⟩))
  | _=>rfl)
 have h2:gdec ops t o=gdec ops t' o:=by
  unfold gdec
  cases hg:o.guard with
  | none=>rfl
  | some p=>
    obtain⟨j,want⟩:=p
    simp only
    cases hd:(ops[j]?).bind (·.dst)with
    | none=>rfl
    | some g=>
      simp only
      rw[h g (by simp[Oper.looksAt,hg,hd])]
 unfold adoes
 simp only[h1,h2]
theorem chained_at{A:List (List Nat)}:∀ {eff:List Nat},chained A eff=true→∀ {p:Nat} {e x:Nat},eff[p]?=some e→x∈eff.drop (p+1)→e∈A.getD x []
 | [],_,p,e,x,h,_=>by simp at h
 | e'::r,hc,p,e,x,h,hx=>by
   simp only[chained,Bool.and_eq_true]at hc
   cases p with
   | zero=>
     simp only[List.getElem?_cons_zero,Option.some.injEq]at h
     subst h
     have:=List.all_eq_true.1 hc.1 x (by simpa using hx)
     simpa using this
   | succ p=>exact chained_at hc.2 (by simpa using h) (by simpa using hx)
theorem sl_append(L:List (Nat×AV)):∀ (P:List (Nat×AV)) (i:Nat),(∀v,(i,v)∉P)→sl (P++L) i=sl L i
 | [],i,_=>rfl
 | (j,v)::P,i,h=>by
   show(if i=j then v else sl (P++L) i)=_
   rw[if_neg (fun e=>h v (by rw[e];simp)),sl_append L P i fun u hu=>h u (List.mem_cons_of_mem _ hu)]
theorem sl_mem(L:List (Nat×AV)):∀ (P:List (Nat×AV)) (i:Nat) (v:AV),(i,v)∈P→(∀u,(i,u)∈P→u=v)→sl (P++L) i=v
 | [],i,v,h,_=>by cases h
 | (j,u)::P,i,v,h,hu=>by
   show(if i=j then u else sl (P++L) i)=v
   by_cases hij:i=j
   ·rw[if_pos hij]
    exact hu u (by rw[hij];simp)
   rw[if_neg hij]
   refine sl_mem L P i v ?_ fun x hx=>hu x (List.mem_cons_of_mem _ hx)
   rcases List.mem_cons.1 h with h|h
   ·injection h with e1 e2
    exact absurd e1 hij
   exact h
structure Planned(ops:Array Oper)(n:Nat)(eff:List Nat)(F:List (Nat×Nat)):Prop where
 lt:∀ {i j:Nat},j<ops.size→i∈direct ops j→i<j
 dst:∀ {j d:Nat},dstOf ops j=some d→d<n∧∀ {k:Nat} {o:Oper},ops[k]?=some o→d∈o.looksAt ops→j∈(ancs ops ops.size).getD k []
 one:∀ {i j d:Nat},dstOf ops i=some d→dstOf ops j=some d→i=j
 may:∀ {j p:Nat},j<ops.size→p≤eff.length→mayAt (ancs ops ops.size) eff j p=true→(j,p)∈F
 chain:chained (ancs ops ops.size) eff=true
 effs:∀ {e:Nat},e∈eff→e<ops.size
theorem dstOf_lt{ops:Array Oper}{j d:Nat}(h:dstOf ops j=some d):j<ops.size:=by
 unfold dstOf at h
 obtain⟨o,ho,_⟩:=Option.bind_eq_some_iff.1 h
 exact(Array.getElem?_eq_some_iff.1 ho).1
theorem planOK_spec{ops:Array Oper}{n:Nat}{eff:List Nat}{F:List (Nat×Nat)}(h:planOK ops n eff F=true):Planned ops n eff F:=by
 unfold planOK at h
 simp only[Bool.and_eq_true]at h
 obtain⟨⟨h1,h2⟩,h3⟩:=h
 have hj:=fun j (hj:j<ops.size)=>List.all_eq_true.1 h1 j (List.mem_range.2 hj)
 simp only[Bool.and_eq_true]at hj
 have lt1:∀ {i j d:Nat},i<j→dstOf ops i=some d→dstOf ops j=some d→False:=by
  intro i j d hij hi hj'
  have:=List.all_eq_true.1 (hj j (dstOf_lt hj')).1.2 i (List.mem_range.2 hij)
  rw[hi,hj']at this
  simp at this
 refine⟨fun {i j} hjs hi=>by simpa using List.all_eq_true.1 (hj j hjs).1.1.1 i hi,fun {j d} hd=>?_,fun {i j d} hi hj'=>?_,fun {j p} hjs hp hm=>?_,h2,fun {e} he=>by simpa using List.all_eq_true.1 h3 e he⟩
 ·have:=(hj j (dstOf_lt hd)).1.1.2
  rw[hd]at this
  simp only[Bool.and_eq_true,decide_eq_true_eq]at this
  refine⟨this.1,fun {k o} ho hl=>?_⟩
  have hk:=List.all_eq_true.1 this.2 k (List.mem_range.2 (Array.getElem?_eq_some_iff.1 ho).1)
  simp only[ho]at hk
  rcases Bool.or_eq_true _ _▸hk with hk|hk
  ·simp[hl]at hk
  simpa using hk
 ·rcases Nat.lt_trichotomy i j with h|h|h
  ·exact(lt1 h hi hj').elim
  ·exact h
  exact(lt1 h hj' hi).elim
 have:=List.all_eq_true.1 (hj j hjs).2 p (List.mem_range.2 (by omega))
 rcases Bool.or_eq_true _ _▸this with h|h
 ·rw[hm]at h
  cases h
 simpa using h
theorem drawnV_sound(hS:Sound E O){ops:Array Oper}{n:Nat}{eff:List Nat}{F:List (Nat×Nat)}(hok:Planned ops n eff F){val:List AV}{hs:List (List AObj)}{L0:List (Nat×AV)}
 (px:Nat→Bool) (hf:∀ (j p:Nat) (o:Oper),px j=false→(∀x,px x=true→x∉(ancs ops ops.size).getD j [])→(j,p)∈F→ops[j]?=some o→adoes E O ops ⟨sl (pairs ops val++L0),n,hs.getD p []⟩ o=some (val.getD j .any,hs.getD (if eff.contains j then p+1 else p) [])) {Q:Exit→Act→World→Prop}
 (hX:∀ (j:Nat) (o:Oper),px j=true→ops[j]?=some o→∀ (σ:St) (a:Act) (w:World) (K:Act→World→Prop),σ.n=n→σ.h=hs.getD eff.length []→(∀d∈o.looksAt ops,σ.t d=sl (pairs ops val++L0) d)→Rel E γ₀ H₀ Φ₀ w₀ σ a w→Region.wanted o (yielded ops a.tmps)=true∧o.wp E.P a w K Q)
 (hXe:∀ (j e:Nat),px j=true→e∈eff→e∈(ancs ops ops.size).getD j [])
 (hQ:(∀j,j<ops.size→px j=false)→∀a' w',Rel E γ₀ H₀ Φ₀ w₀ ⟨sl (pairs ops val++L0),n,hs.getD eff.length []⟩ a' w'→Q .normal a' w'):
 ∀ (fuel:Nat) (listed:Array Bool) (σ:St) (a:Act) (w:World) (p:Nat),listed.size=ops.size→(todo ops listed).length≤fuel→(∀j,listed.getD j false=true→∀i∈direct ops j,listed.getD i false=true)→
  p≤eff.length→(∀e∈eff.take p,listed.getD e false=true)→(∀e∈eff.drop p,listed.getD e false=false)→σ.h=hs.getD p []→σ.n=n→
  (∀j d,listed.getD j false=true→dstOf ops j=some d→σ.t d=val.getD j .any)→(∀i,(∀j,listed.getD j false=true→dstOf ops j≠some i)→σ.t i=sl L0 i)→
  (∀j,px j=true→listed.getD j false=false)→Rel E γ₀ H₀ Φ₀ w₀ σ a w→wpAny E.P .any ops Q fuel listed a w:=by
 have tF:∀j d,dstOf ops j=some d→sl (pairs ops val++L0) d=val.getD j .any:=by
  intro j d hd
  refine sl_mem L0 _ d _ (List.mem_filterMap.2 ⟨j,List.mem_range.2 (dstOf_lt hd),by rw[hd];rfl⟩) fun u hu=>?_
  obtain⟨k,hk,he⟩:=List.mem_filterMap.1 hu
  obtain⟨d',hd',he'⟩:=Option.map_eq_some_iff.1 he
  injection he' with e1 e2
  subst e1
  rw[←e2,hok.one hd' hd]
 have tF0:∀i,(∀j,dstOf ops j≠some i)→sl (pairs ops val++L0) i=sl L0 i:=by
  intro i hi
  refine sl_append L0 _ i fun v hv=>?_
  obtain⟨k,hk,he⟩:=List.mem_filterMap.1 hv
  obtain⟨d',hd',he'⟩:=Option.map_eq_some_iff.1 he
  injection he' with e1 e2
  subst e1
  exact hi k hd'
 have gt:∀ (listed:Array Bool) (j:Nat),listed.size=ops.size→j<ops.size→(listed.getD j true=listed.getD j false):=by
  intro listed j hsz hj
  have:j<listed.size:=by omega
  simp[this]
 have last:∀ (listed:Array Bool) (σ:St) (p:Nat),listed.size=ops.size→todo ops listed=[]→p≤eff.length→(∀e∈eff.drop p,listed.getD e false=false)→σ.h=hs.getD p []→σ.n=n→
  (∀j d,listed.getD j false=true→dstOf ops j=some d→σ.t d=val.getD j .any)→(∀i,(∀j,listed.getD j false=true→dstOf ops j≠some i)→σ.t i=sl L0 i)→σ=⟨sl (pairs ops val++L0),n,hs.getD eff.length []⟩:=by
  intro listed σ p hsz h0 hp hd hh hn ha hb
  have hall:∀j,j<ops.size→listed.getD j false=true:=by
   intro j hj
   cases hb:listed.getD j false with
   | true=>rfl
   | false=>
     have:j∈todo ops listed:=List.mem_filter.2 ⟨List.mem_range.2 hj,by rw[gt listed j hsz hj,hb];rfl⟩
     rw[h0]at this
     cases this
  have hpe:p=eff.length:=by
   rcases Nat.lt_or_ge p eff.length with h|h
   ·have hm:eff[p]∈eff.drop p:=by
     rw[List.drop_eq_getElem_cons h]
     exact List.mem_cons_self
    have h1:=hd _ hm
    rw[hall _ (hok.effs (List.getElem_mem h))]at h1
    cases h1
   omega
  obtain⟨t,m,hh'⟩:=σ
  simp only at hh hn ha hb
  subst hn hpe
  rw[hh]
  congr 1
  funext i
  by_cases hi:∃j,dstOf ops j=some i
  ·obtain⟨j,hj⟩:=hi
   rw[ha j i (hall j (dstOf_lt hj)) hj,tF j i hj]
  rw[tF0 i fun j hj=>hi ⟨j,hj⟩,hb i fun j _ hj=>hi ⟨j,hj⟩]
 have nopx:∀ (listed:Array Bool),listed.size=ops.size→todo ops listed=[]→(∀j,px j=true→listed.getD j false=false)→∀j,j<ops.size→px j=false:=by
  intro listed hsz h0 hpx j hj
  cases hb:px j with
  | false=>rfl
  | true=>
    have:j∈todo ops listed:=List.mem_filter.2 ⟨List.mem_range.2 hj,by rw[gt listed j hsz hj,hpx j hb];rfl⟩
    rw[h0]at this
    cases this
 have none_left:∀ (listed:Array Bool),listed.size=ops.size→todo ops listed=[]→Region.ready .any ops listed=[]:=by
  intro listed hsz h
  refine List.eq_nil_iff_forall_not_mem.2 fun j hj=>?_
  obtain⟨h1,o,ho,_⟩:=mem_ready.1 hj
  have:j∈todo ops listed:=List.mem_filter.2 ⟨List.mem_range.2 (Array.getElem?_eq_some_iff.1 ho).1,by simp[h1]⟩
  rw[h]at this
  cases this
 have ready_left:∀ (listed:Array Bool),listed.size=ops.size→todo ops listed≠[]→Region.ready .any ops listed≠[]:=by
  intro listed hsz hne hnone
  obtain⟨j,rest,hjr⟩:=List.exists_cons_of_ne_nil hne
  have hj:j∈todo ops listed:=by rw[hjr];simp
  obtain⟨hjs,hun⟩:=List.mem_filter.1 hj
  have hjs':=List.mem_range.1 hjs
  have hsort:(todo ops listed).Pairwise (·<·):=(List.pairwise_lt_range (n:=ops.size)).filter _
  rw[hjr]at hsort
  have hready:j∈Region.ready .any ops listed:=by
   refine mem_ready.2 ⟨by simpa using hun,ops[j],Array.getElem?_eq_getElem hjs',fun e he hb=>?_⟩
   have hd:e.on∈direct ops j:=by
    simp only[direct,Array.getElem?_eq_getElem hjs']
    exact List.mem_map.2 ⟨e,List.mem_filter.2 ⟨by simpa using he,hb⟩,rfl⟩
   have hlt:=hok.lt hjs' hd
   have his:e.on<listed.size:=by omega
   cases hb2:listed.getD e.on true with
   | true=>
     simp[his]at hb2 ⊢
     exact hb2
   | false=>
     exfalso
     have hm:e.on∈todo ops listed:=List.mem_filter.2 ⟨List.mem_range.2 (by omega),by simpa using hb2⟩
     rw[hjr]at hm
     rcases List.mem_cons.1 hm with h|h
     ·omega
     have:=(List.pairwise_cons.1 hsort).1 e.on h
     omega
  rw[hnone]at hready
  cases hready
 intro fuel
 induction fuel with
 | zero=>
   intro listed σ a w p hsz hl hdown hp hep hed hh hn ha hb hpx hR
   have h0:todo ops listed=[]:=List.eq_nil_of_length_eq_zero (by omega)
   have:=last listed σ p hsz h0 hp hed hh hn ha hb
   subst this
   exact⟨none_left listed hsz h0,hQ (nopx listed hsz h0 hpx) a w hR⟩
 | succ fuel ih=>
   intro listed σ a w p hsz hl hdown hp hep hed hh hn ha hb hpx hR
   refine⟨fun hnone=>?_,fun j hj=>?_⟩
   ·by_cases h0:todo ops listed=[]
    ·have:=last listed σ p hsz h0 hp hed hh hn ha hb
     subst this
     exact hQ (nopx listed hsz h0 hpx) a w hR
    exact absurd hnone (ready_left listed hsz h0)
   obtain⟨h1,o,ho,hbound⟩:=mem_ready.1 hj
   have hjs:j<ops.size:=(Array.getElem?_eq_some_iff.1 ho).1
   have hjt:j∈todo ops listed:=List.mem_filter.2 ⟨List.mem_range.2 hjs,by simp[h1]⟩
   have hjun:listed.getD j false=false:=by
    have:=(List.mem_filter.1 hjt).2
    rw[gt listed j hsz hjs]at this
    simpa using this
   obtain⟨l,r,e1,e2,hl1⟩:=todo_front hjt
   have hdir:∀i∈direct ops j,listed.getD i false=true:=by
    intro i hi
    simp only[direct,ho]at hi
    obtain⟨e,he,rfl⟩:=List.mem_map.1 hi
    have he':=List.mem_filter.1 he
    exact hbound e (by simpa using he'.1) he'.2
   have hanc:=ancs_listed (ops:=ops) (L:=fun i=>listed.getD i false=true) hdown ops.size j hdir
   have hmay:mayAt (ancs ops ops.size) eff j p=true:=by
    unfold mayAt
    rw[Bool.and_eq_true]
    refine⟨List.all_eq_true.2 fun e he=>?_,List.all_eq_true.2 fun e he=>?_⟩
    ·have hel:=hep e he
     rw[Bool.and_eq_true]
     refine⟨?_,?_⟩
     ·simp only[bne_iff_ne,ne_eq]
      intro e'
      rw[e',hjun]at hel
      cases hel
     cases hc:((ancs ops ops.size).getD e []).contains j with
     | false=>rfl
     | true=>
       have:=ancs_listed (ops:=ops) (L:=fun i=>listed.getD i false=true) hdown ops.size e (hdown e hel) j (by simpa using hc)
       rw[hjun]at this
       cases this
    have hel:=hed e he
    cases hc:((ancs ops ops.size).getD j []).contains e with
    | false=>rfl
    | true=>
      have:=hanc e (by simpa using hc)
      rw[hel]at this
      cases this
   have hsame:∀d∈o.looksAt ops,σ.t d=sl (pairs ops val++L0) d:=by
    intro d hd
    by_cases hk:∃k,dstOf ops k=some d
    ·obtain⟨k,hk⟩:=hk
     rw[tF k d hk]
     exact ha k d (hanc k ((hok.dst hk).2 ho hd)) hk
    rw[tF0 d fun k hk'=>hk ⟨k,hk'⟩]
    exact hb d fun k _ hk'=>hk ⟨k,hk'⟩
   cases hpj:px j with
   | true=>
     have hpe:p=eff.length:=by
      rcases Nat.lt_or_ge p eff.length with h|h
      ·have hm:eff[p]∈eff.drop p:=by
        rw[List.drop_eq_getElem_cons h]
        exact List.mem_cons_self
       have h1:=hed _ hm
       rw[hanc _ (hXe j _ hpj (List.getElem_mem h))]at h1
       cases h1
      omega
     subst hpe
     obtain⟨hw,hwp⟩:=hX j o hpj ho σ a w (wpAny E.P .any ops Q fuel (listed.setIfInBounds j true)) hn hh hsame hR
     unfold wpOp
     rw[ho]
     simp only[hw,if_true]
     exact .inl hwp
   | false=>
   have hfact:=hf j p o hpj (fun x hx hxa=>by have h1:=hpx x hx;rw[hanc x hxa]at h1;cases h1) (hok.may hjs hp hmay) ho
   have hdoes:adoes E O ops σ o=some (val.getD j .any,hs.getD (if eff.contains j then p+1 else p) []):=by
    obtain⟨t,m,hh'⟩:=σ
    simp only at hh hn hsame
    subst hh hn
    rw[adoes_congr2 hsame]
    exact hfact
   have hdst:o.dst=dstOf ops j:=by simp[dstOf,ho]
   have hput:put σ o.dst (val.getD j .any) (hs.getD (if eff.contains j then p+1 else p) [])=some ⟨putT σ.t (val.getD j .any) o.dst,n,hs.getD (if eff.contains j then p+1 else p) []⟩:=by
    unfold put putT
    cases hd:o.dst with
    | none=>simp only[hn]
    | some d=>
      have hdn:=(hok.dst (by rw[←hdst,hd]:dstOf ops j=some d)).1
      simp only[hn,if_pos hdn]
   have hs1:astep E O ops σ o=some ⟨putT σ.t (val.getD j .any) o.dst,n,hs.getD (if eff.contains j then p+1 else p) []⟩:=by
    rw[astep_does,hdoes]
    exact hput
   have hset:∀i,(listed.setIfInBounds j true).getD i false=true→i=j∨listed.getD i false=true:=by
    intro i hi
    by_cases hij:j=i
    ·exact .inl hij.symm
    rw[getD_set_ne false hij]at hi
    exact .inr hi
   have hsetj:(listed.setIfInBounds j true).getD j false=true:=by
    have:j<listed.size:=by omega
    simp[this]
   have hseto:∀i,listed.getD i false=true→(listed.setIfInBounds j true).getD i false=true:=fun i hi=>getD_set_true hi
   have hstep:=astep_sound hS hs1 hR (K:=wpAny E.P .any ops Q fuel (listed.setIfInBounds j true)) (Q:=Q) (fun a' w' hR'=>by
    have common:∀p',p'≤eff.length→(∀e∈eff.take p',(listed.setIfInBounds j true).getD e false=true)→(∀e∈eff.drop p',(listed.setIfInBounds j true).getD e false=false)→(if eff.contains j then p+1 else p)=p'→
     wpAny E.P .any ops Q fuel (listed.setIfInBounds j true) a' w':=by
     intro p' hp' hep' hed' hpp
     refine ih (listed.setIfInBounds j true) _ a' w' p' (by simpa using hsz) ?_ ?_ hp' hep' hed' (by rw[hpp]) rfl ?_ ?_ (fun i hi=>?_) hR'
     ·rw[e2]
      rw[e1]at hl
      simp only[List.length_append,List.length_cons]at hl ⊢
      omega
     ·intro k hk i hi
      rcases hset k hk with rfl|hk
      ·exact hseto _ (hdir i hi)
      exact hseto _ (hdown k hk i hi)
     ·intro k d hk hd
      show putT σ.t (val.getD j .any) o.dst d=_
      by_cases hkj:k=j
      ·subst hkj
       rw[hdst,hd]
       show upd σ.t d _ d=_
       simp[upd]
      rcases hset k hk with h|hk
      ·exact absurd h hkj
      rw[hdst]
      cases hjd:dstOf ops j with
      | none=>exact ha k d hk hd
      | some d'=>
        show upd σ.t d' _ d=_
        unfold upd
        rw[if_neg (fun e=>hkj (hok.one hd (by rw[hjd,e])))]
        exact ha k d hk hd
     ·intro i hi
      show putT σ.t (val.getD j .any) o.dst i=_
      rw[hdst]
      have hold:=hb i fun k hk=>hi k (hseto k hk)
      cases hjd:dstOf ops j with
      | none=>exact hold
      | some d'=>
        show upd σ.t d' _ i=_
        unfold upd
        rw[if_neg (fun e=>hi j hsetj (by rw[hjd,e]))]
        exact hold
     rw[getD_set_ne false (fun e=>by rw[e,hi]at hpj;cases hpj)]
     exact hpx i hi
    by_cases hje:j∈eff
    ·
     have hjd:j∈eff.drop p:=by
      rcases List.mem_append.1 (by rw[List.take_append_drop];exact hje:j∈eff.take p++eff.drop p)with h|h
      ·have:=hep j h
       rw[hjun]at this
       cases this
      exact h
     have hpl:p<eff.length:=by
      rcases Nat.lt_or_ge p eff.length with h|h
      ·exact h
      rw[List.drop_eq_nil_of_le h]at hjd
      cases hjd
     have hat:eff[p]=j:=by
      rw[List.drop_eq_getElem_cons hpl]at hjd
      rcases List.mem_cons.1 hjd with h|h
      ·exact h.symm
      have hanc1:=chained_at hok.chain (List.getElem?_eq_getElem hpl) h
      have h2:=hanc _ hanc1
      have h3:=hed eff[p] (by rw[List.drop_eq_getElem_cons hpl];exact List.mem_cons_self)
      rw[h2]at h3
      cases h3
     refine common (p+1) (by omega) (fun e he=>?_) (fun e he=>?_) (by rw[if_pos (by simpa using hje)])
     ·rw[List.take_add_one,List.getElem?_eq_getElem hpl,hat]at he
      rcases List.mem_append.1 he with h|h
      ·exact hseto e (hep e h)
      simp only[Option.toList_some,List.mem_singleton]at h
      rw[h]
      exact hsetj
     have hed1:=hed e (by rw[List.drop_eq_getElem_cons hpl];exact List.mem_cons_of_mem _ he)
     have hne:j≠e:=by
      intro e'
      subst e'
      have hanc1:=chained_at hok.chain (List.getElem?_eq_getElem hpl) he
      rw[hat]at hanc1
      have:=hanc _ hanc1
      rw[hjun]at this
      cases this
     rw[getD_set_ne false hne]
     exact hed1
    refine common p hp (fun e he=>hseto e (hep e he)) (fun e he=>?_) (by rw[if_neg (by simpa using hje)])
    have hne:j≠e:=fun e'=>hje (by rw[e'];exact List.mem_of_mem_drop he)
    rw[getD_set_ne false hne]
    exact hed e he)
   unfold wpOp
   rw[ho]
   simp only
   split
   ·rename_i hw
    rw[if_pos hw]at hstep
    exact .inl hstep
   rename_i hw
   rw[if_neg hw]at hstep
   exact hstep
theorem AW.dregV(hP:E.P.follows .mixedOrders=true)(hS:Sound E O){k id n:Nat}{L0:List (Nat×AV)}{h:List AObj}{ops:Array Oper}{Q:Exit→St→Prop}(eff:List Nat)(F:List (Nat×Nat))(val:List AV)(hs:List (List AObj))(LF:List (Nat×AV))
 (hLF:pairs ops val++L0=LF) (hok:planOK ops n eff F=true) (h0:hs.getD 0 []=h) (hf:Facts E O ops (sl LF) n val hs eff F) (L:List (Nat×AV)) (h':List AObj) (hL:keeps (sl LF) L) (hh:hs.getD eff.length []=h') (hQ:Q .normal ⟨sl L,n,h'⟩):
 AW E k (.region id ops true) Q ⟨sl L0,n,h⟩:=by
 subst hLF
 intro γ₀ H₀ Φ₀ w₀ a w hl hR
 refine wp_region_any hP ?_
 have htodo:todo ops (Array.replicate ops.size false)=List.range ops.size:=by
  refine List.filter_eq_self.2 fun i hi=>?_
  simp[List.mem_range.1 hi]
 have hnone:∀i,(Array.replicate ops.size false).getD i false=false:=by
  intro i
  by_cases hi:i<ops.size
  ·simp[hi]
  simp[hi]
 refine drawnV_sound hS (planOK_spec hok) (fun _=>false) (fun j p o _ _ hm ho=>hf.at hm ho) (γ₀:=γ₀) (H₀:=H₀) (Φ₀:=Φ₀) (w₀:=w₀) (fun j o h=>by cases h) (fun j e h=>by cases h) (fun _ a' w' hR'=>?_) ops.size _ ⟨sl L0,n,h⟩ a _ 0 (by simp) (by rw[htodo];simp) (fun j hj=>by rw[hnone]at hj;cases hj) (Nat.zero_le _) (fun e he=>by simp at he) (fun e _=>hnone e) h0.symm rfl
  (fun j d hj=>by rw[hnone]at hj;cases hj) (fun i _=>rfl) (fun j h=>by cases h) ?_
 ·have hw:Weak E k ⟨sl (pairs ops val++L0),n,hs.getD eff.length []⟩ ⟨sl L,n,hs.getD eff.length []⟩:=Weak.forget (keeps_sl hL)
  have hR3:=hw γ₀ H₀ Φ₀ w₀ a' w' hl hR'
  rw[hh]at hR3
  exact⟨_,hR3,hQ⟩
 obtain⟨⟨γ,Φ,hok',hs'⟩,hsz,hd,h0'⟩:=hR
 have hk:Ok E γ h Φ w γ h Φ { w with drawn:=w.drawn+1 }:=hok'.inv.grow (fun _ _=>rfl) (Nat.le_refl _) rfl rfl rfl (fun _ _ h=>h) (fun _ _ h _=>h) hok'.inv.phi
 exact⟨⟨γ,Φ,hok'.trans hk,fun i=>(hs' i).mono hk.evo⟩,hsz,hd,h0'⟩
theorem Facts.nil{ops:Array Oper}{t:Nat→AV}{n:Nat}{val:List AV}{hs:List (List AObj)}{eff:List Nat}:Facts E O ops t n val hs eff []:=trivial
theorem Facts.cons{ops:Array Oper}{t:Nat→AV}{n:Nat}{val:List AV}{hs:List (List AObj)}{eff:List Nat}{j p:Nat}{F:List (Nat×Nat)}{v:AV}{h1 h2:List AObj}(hv:val.getD j .any=v)(e1:hs.getD p []=h1)(e2:hs.getD (if eff.contains j then p+1 else p) []=h2)
 (h:((ops[j]?).bind fun o=>adoes E O ops ⟨t,n,h1⟩ o)=some (v,h2)) (hr:Facts E O ops t n val hs eff F):Facts E O ops t n val hs eff ((j,p)::F):=
 ⟨fun o' ho'=>by
  rw[ho',Option.bind_some]at h
  rw[e1,e2,hv]
  exact h,hr⟩
end
theorem qconv_ii{T:Nat→Option TI}{s d a b a' b':Nat}{k k':IntKind}{z z':Option (List PV)}(h:T s=some ⟨.int k,a,b,z⟩)(h':T d=some ⟨.int k',a',b',z'⟩)(k2:IntKind)(n:Int):qconv T s d (.pv (.int k2 n))=some (.pv (.int k' (k'.wrap n))):=by
 simp only[qconv,h,h']
end Go.Abs
namespace Go.Abs
open Go.RowKit
section
variable {E:Env}{σ:St}{k:Nat}
theorem Weak.cellPV(l j:Nat){cs:List AV}{a:AV}{p:PV}(hl:σ.h[l]?=some (.var cs))(hj:cs[j]?=some a)(hp:toPV σ.h a=some p):Weak E k σ ⟨σ.t,σ.n,σ.h.set l (.var (cs.set j (.pv p)))⟩:=by
 intro γ₀ H₀ Φ₀ w₀ a' w _ hR
 obtain⟨⟨γ,Φ,hok,hs⟩,hn,hd,hl0⟩:=hR
 obtain⟨g,hg,hO⟩:=hok.inv.gh hl
 obtain⟨b,T,vs,hv,hown,hb,hvl,hrel,hnΦ⟩:=hO
 have hk:=hok.inv.setObj (o':=.var (cs.set j (.pv p))) (g':=g) (w':=w) (Φ':=Φ) hl hg (fun _ _ _=>rfl) (Nat.le_refl _) rfl rfl rfl (fun _ _ h=>h) (fun _ _ h _ _=>h) (fun b k h=>hok.inv.phi b k h) (fun _ _ _ _=>rfl)
  (fun b hb=>⟨.inl hb,(hok.inv.own l g hg b hb).2⟩) (.inl rfl) (fun e1 sz1 n1 h=>by cases h)
  (fun hE=>⟨b,T,vs,hv,hown,hb,by simpa using hvl,fun i v c hvi hc=>by
    by_cases hij:i=j
    ·subst hij
     rw[List.getElem?_set_self (List.getElem?_eq_some_iff.1 hj).1]at hc
     injection hc with hc
     subst hc
     obtain⟨h1,h2⟩:=hrel i v _ hvi hj
     exact⟨h1,.pv ((toPV_rep hok.inv h2 hp).mono hE.phi hE.cell)⟩
    ·rw[List.getElem?_set_ne (Ne.symm hij)]at hc
     obtain⟨h1,h2⟩:=hrel i v c hvi hc
     exact⟨h1,h2.mono hE⟩,hnΦ.1,fun c hc hs=>by
    rcases List.mem_or_eq_of_mem_set hc with hc|rfl
    ·exact hnΦ.2 c hc hs
    cases hs⟩)
 exact⟨⟨_,_,hok.trans hk,fun i=>(hs i).mono hk.evo⟩,hn,hd,hl0⟩
end
end Go.Abs
namespace Go.Abs
open Go.RowKit
def mkO(b:Nat)(n:Int):Option Unit:=if 0≤n∧n.toNat * b≤140737488355328 then some ()else none
theorem mkO_f{b:Nat}{n:Int}{u:Unit}(h:mkO b n=some u):(0≤n)=True∧(n.toNat * b≤140737488355328)=True:=by
 unfold mkO at h
 split at h
 ·rename_i hc
  exact⟨eq_true hc.1,eq_true hc.2⟩
 cases h
theorem emakeSlice_int{E:Env}{H:List AObj}{ty e a b c:Nat}{z:Option (List PV)}{k k1 k2:IntKind}{n:Int}(h1:E.T ty=some ⟨.slice e,a,b,z⟩)(h2:E.T e=some ⟨.int k,1,c,some [.int k 0]⟩)(h0:0≤n)(hb:n.toNat * c≤140737488355328)(hc:c≠0):
 emakeSlice E H ty (.pv (.int k1 n)) (.pv (.int k2 n))=some (.vec H.length n.toNat,H++[.row e 1 (List.replicate n.toNat (.int k 0)) false]):=by
 unfold emakeSlice
 simp only[h1,h2,zeroPV]
 rw[if_pos ⟨h0,Int.le_refl _,hb,hc,by decide,rfl⟩]
theorem ownsRow_zero{w:World}{lo:Nat}{e:TypeId}{sz n:Nat}{v:Value}{cells:List Value}(h:w.ownsRow lo e sz v n cells):w.ownsRow 0 e sz v n cells:=by
 refine⟨h.1,?_⟩
 rcases h.2 with hn|⟨g,cap,cur,hv,_,rest⟩
 ·exact .inl hn
 exact .inr ⟨g,cap,cur,hv,Nat.zero_le _,rest⟩
theorem ownsRow_lo{w:World}{lo:Nat}{e:TypeId}{sz n:Nat}{v:Value}{cells:List Value}(h:w.ownsRow lo e sz v n cells):∀b,v.ownBlock=some b→lo≤b∧b<w.heap.size:=by
 intro b hb
 rcases h.2 with⟨rfl,_⟩|⟨g,cap,cur,rfl,hlo,hg,_⟩
 ·cases hb
 have:g=b:=Option.some.inj hb
 subst this
 exact⟨hlo,(Array.getElem?_eq_some_iff.1 hg).1⟩
theorem Good.cloneRow{E:Env}{f e sz bytes:Nat}(h0:0<sz)
 (hc:∀ (b off n c:Nat) (news:List Value) (w:World),news.length=n * sz→n≤maxLen→n * bytes≤140737488355328→(∀j u,news[j]?=some u→w.cell? ⟨b,off+j,none⟩=some u)→(∀u∈news,u.oneCell'=true)→
   Calls E.P f #[.slice (some ⟨b,off,none⟩) n c] w fun e' w'=>∃v',e'=.returned v'∧w'.ownsRow w.heap.size e sz v' n news∧v'≠.slice none 0 0∧Below w.heap.size w w')
 (hz:∀ (a:Addr) (c:Nat) (w:World),Calls E.P f #[.slice (some a) 0 c] w fun e' w'=>∃v',e'=.returned v'∧w'.ownsRow w.heap.size e sz v' 0 []∧Below w.heap.size w w')
 (hn:∀ (n c:Nat) (w:World),Calls E.P f #[.slice none n c] w fun e' w'=>e'=.returned (.slice none 0 0)∧w'=w)
 (xs:List PV) (hb:xs.length * bytes≤140737488355328) (hsz:∀x∈xs,x.cells.length=sz):Good E f [.pv (.slice xs)] [] [.vec 0 xs.length] [.row e sz xs false]:=by
 intro w Φ γ cargs hI hl hr
 have hγ:γ=[]:=List.eq_nil_of_length_eq_zero hI.len
 subst hγ
 match cargs,hl with
 | [a],_=>
   have fin:∀ (v':Value) (cells:List Value) (w':World),w'.ownsRow w.heap.size e sz v' xs.length cells→Below w.heap.size w w'→cells.length=(flat xs).length→(∀ (k:Nat) u c,cells[k]?=some u→(flat xs)[k]?=some c→Rep Φ w u c)→(∀c∈flat xs,c.one=true)→
    ∃vs γ' Φ',Ending.returned v'=.returned (retV vs)∧Ok E [] [] Φ w γ' [.row e sz xs false] Φ' w'∧vs.length=[AV.vec 0 xs.length].length∧∀ (i:Nat) v a,vs[i]?=some v→[AV.vec 0 xs.length][i]?=some a→ARel γ' [.row e sz xs false] Φ' w' v a:=by
    intro v' cells w' hown hbl hcl hrep h1
    obtain⟨A,c,hvs,hA⟩:=ownsRow_slice (ownsRow_zero hown)
    have hlo:=ownsRow_lo hown
    refine⟨[v'],[⟨v',v'.ownBlock.toList⟩],Φ,rfl,?_,rfl,fun i v b hv hb=>?_⟩
    ·exact hI.pushObj (w':=w') (Φ':=Φ) hbl.block hbl.size hbl.os hbl.tape hbl.output (fun _ _ h=>h) (fun _ _ h _=>h) (fun b k h=>Nat.lt_of_lt_of_le (hI.phi b k h) hbl.size) ⟨v',v'.ownBlock.toList⟩ (.row e sz xs false)
      (fun b hb=>hlo b (by simpa using hb)) (fun hE=>⟨cells,ownsRow_zero hown,hcl,fun k u c hu hc=>(hrep k u c hu hc).mono hE.phi hE.cell,hsz,h1,rfl,h0,fun b hb k=>⟨fun hk=>by
        have:=hI.phi b k hk
        have:=(hlo b hb).1
        omega,fun hf=>by cases hf⟩⟩)
    match i,hv,hb with
    | 0,hv,hb=>
      cases hv
      cases hb
      rw[hvs]
      exact .vec A 0 xs.length c e sz xs.length rfl (Nat.le_refl _) hA (fun _=>by rw[←hvs];rfl)
   have hrep:=arel_pv (hr 0 a _ rfl rfl)
   cases hrep with
   | sliceNil=>
     refine(hn 0 0 w).mono fun e' w' ⟨he,hw⟩=>?_
     subst hw
     rw[he]
     exact fin _ [] w' ⟨by simp,.inl ⟨rfl,rfl⟩⟩ (Below.refl _ _) rfl (fun k u c hu _=>by simp at hu) (fun c hc=>by simp[flat_nil]at hc)
   | sliceAny A cap hm=>
     refine(hz A cap w).mono fun e' w' ⟨v',he,hown,hbl⟩=>?_
     rw[he]
     exact fin v' [] w' hown hbl rfl (fun k u c hu _=>by simp at hu) (fun c hc=>by simp[flat_nil]at hc)
   | slice b o len cap sz' _ vs hlen hcap hm hsz' h1 hcell hrp=>
     subst hlen
     have hfl:=flat_length hsz
     have hnl:((List.range (xs.length * sz)).map vs).length=xs.length * sz:=by simp
     have hget:∀ (j:Nat) u,((List.range (xs.length * sz)).map vs)[j]?=some u→j<xs.length * sz∧u=vs j:=by
      intro j u hu
      have hj:j<xs.length * sz:=by
       have:=(List.getElem?_eq_some_iff.1 hu).1
       omega
      rw[List.getElem?_map,List.getElem?_range hj]at hu
      exact⟨hj,(Option.some.inj hu).symm⟩
     have hone:∀ (j:Nat),j<xs.length * sz→(vs j).oneCell'=true:=fun j hj=>by
      have hjl:j<(flat xs).length:=by omega
      exact(hrp j _ (List.getElem?_eq_getElem hjl)).one (h1 _ (List.getElem_mem hjl))
     refine(hc b o xs.length cap ((List.range (xs.length * sz)).map vs) w hnl (by omega) hb (fun j u hu=>?_) (fun u hu=>?_)).mono fun e' w' ⟨v',he,hown,_,hbl⟩=>?_
     ·obtain⟨hj,rfl⟩:=hget j u hu
      exact(hcell j (by omega)).2
     ·obtain⟨j,hj,hju⟩:=List.getElem_of_mem hu
      obtain⟨hj',rfl⟩:=hget j u (by rw[List.getElem?_eq_getElem hj,hju])
      exact hone j hj'
     rw[he]
     exact fin v' _ w' hown hbl (by rw[hnl,hfl]) (fun k u c hu hc=>by
      obtain⟨_,rfl⟩:=hget k u hu
      exact hrp k c hc) h1
end Go.Abs
namespace Go.Abs
open Go.RowKit
def mayAt2(A:List (List Nat))(eff D:List Nat)(j:Nat):Bool:=
 (D.all fun e=>e != j&&!(A.getD e []).contains j)&&(eff.all fun e=>D.contains e||!(A.getD j []).contains e)
section
variable {E:Env}{O:Orc}{γ₀:List Gh}{H₀:List AObj}{Φ₀:Nat→Nat→Prop}{w₀:World}{σ:St}{k:Nat}
structure Planned2(ops:Array Oper)(n:Nat)(eff:List Nat)(S:List (List Nat))(fin:Nat)(F:List (Nat×Nat×Nat)):Prop where
 lt:∀ {i j:Nat},j<ops.size→i∈direct ops j→i<j
 dst:∀ {j d:Nat},dstOf ops j=some d→d<n∧∀ {k:Nat} {o:Oper},ops[k]?=some o→d∈o.looksAt ops→j∈(ancs ops ops.size).getD k []
 one:∀ {i j d:Nat},dstOf ops i=some d→dstOf ops j=some d→i=j
 may:∀ {j s:Nat},j<ops.size→s<S.length→mayAt2 (ancs ops ops.size) eff (S.getD s []) j=true→∃s',(j,s,s')∈F∧s'<S.length∧(if eff.contains j=true then ∀e∈eff,(S.getD s' []).contains e=(e==j||(S.getD s []).contains e)else s'=s)
 effs:∀ {e:Nat},e∈eff→e<ops.size
 sub:∀ {s e:Nat},e∈S.getD s []→e∈eff
 last:∀ {s:Nat},s<S.length→(∀e∈eff,(S.getD s []).contains e=true)→s=fin
 pos:0<S.length
 first:S.getD 0 []=[]
end
end Go.Abs
namespace Go.Abs
open Go.RowKit
def xg:AObj→AObj
 | .var _=>.gone
 | o=>o
def GoodX(E:Env)(f:FuncId)(args:List AV)(H:List AObj)(v:Value):Prop:=
 ∀ (w:World) (Φ:Nat→Nat→Prop) (γ:List Gh) (cargs:List Value),OInv E γ H Φ w→cargs.length=args.length→(∀ (i:Nat) v a,cargs[i]?=some v→args[i]?=some a→ARel γ H Φ w v a)→
  Calls E.P f ⟨cargs⟩ w fun e w'=>∃γ' Φ',e=.panicked [{ v:=v,recovered:=false }]∧Ok E γ H Φ w γ' (H.map xg) Φ' w'
abbrev XO:=FuncId→List AV→List AObj→Option Value
def SoundX(E:Env)(X:XO):Prop:=∀f args H v,X f args H=some v→GoodX E f args H v∧HasBody E f
section
variable {E:Env}{O:Orc}{X:XO}{γ γ₀:List Gh}{H H₀ H':List AObj}{Φ Φ₀:Nat→Nat→Prop}{w w₀:World}{σ σ':St}{a:Act}{o:Oper}{v:Value}{k:Nat}
theorem rowLike_xg(o:AObj):rowLike (xg o)=rowLike o:=by cases o<;>rfl
theorem rowAt_gone(H:List AObj)(l:Nat):rowAt (H.map xg) l=rowAt H l:=by
 unfold rowAt
 rw[List.getElem?_map]
 cases H[l]? with
 | none=>rfl
 | some o=>exact rowLike_xg o
theorem evo_gone:Evo γ H Φ w γ (H.map xg) Φ w:=
 ⟨fun _ _ h=>h,fun _ _ _=>rfl,fun _ _ h=>.inl h,fun l _ _ n h=>⟨n,(rowAt_gone H l).trans h,Nat.le_refl _,fun _=>rfl⟩⟩
theorem OInv.gone(hI:OInv E γ H Φ w):OInv E γ (H.map xg) Φ w:=by
 refine⟨by rw[List.length_map];exact hI.len,fun l o g ho hg=>?_,hI.disj,hI.own,hI.phi,hI.gi,hI.gn⟩
 rw[List.getElem?_map]at ho
 obtain⟨o',ho',rfl⟩:=Option.map_eq_some_iff.1 ho
 have hO:=hI.obj l o' g ho' hg
 cases o' with
 | var cs=>trivial
 | _=>exact ObjRel.keep evo_gone hO (fun _ _=>rfl) (fun _ _ _ h=>h)
theorem Ok.gone(h:Ok E γ₀ H₀ Φ₀ w₀ γ H Φ w):Ok E γ₀ H₀ Φ₀ w₀ γ (H.map xg) Φ w:=
 h.trans ⟨h.inv.gone,evo_gone,Since.refl _ _ _⟩
variable {Q:Exit→St→Prop}
inductive Out where
 | ret (rs:List AV) (H':List AObj)
 | boom (v:Value)
def GoodB(E:Env)(f:FuncId)(args:List AV)(H:List AObj):Out→Prop
 | .ret rs H'=>Good E f args H rs H'
 | .boom v=>GoodX E f args H v
def retB(E:Env)(fn:Func)(m:Nat)(extra:List Nat)(H:List AObj):Out→Exit→St→Prop
 | .ret rs H',e,σ=>retQ E fn m extra rs H' e σ
 | .boom v,e,σ=>e=.panic [{ v:=v,recovered:=false }]∧(σ.h.map xg).take m=H.map xg∧((σ.h.map xg).take m).all (AObj.ltB m)=true
theorem GoodX.of_body{f:FuncId}{fn:Func}{c:Code}(hf:E.P.funcs[f]?=some fn)(hb:fn.body=some c){args:List AV}{H:List AObj}{v:Value}(hn:args.length≤fn.ntmps)(hd0:E.dfs=[])
 (h:AW E H.length c (retB E fn H.length [] H (.boom v)) ⟨entryT args,fn.ntmps,H⟩):GoodX E f args H v:=by
 intro w Φ γ cargs hI hl hr
 refine calls_of_wp hf hb ?_
 have hR:Rel E γ H Φ w ⟨entryT args,fn.ntmps,H⟩ { tmps:=(⟨cargs⟩:Array Value)++Array.replicate (fn.ntmps-(⟨cargs⟩:Array Value).size) undef,defers:=[] } w:=by
  refine⟨⟨γ,Φ,.refl hI,fun i=>?_⟩,?_,hd0.symm,hI.len⟩
  ·show ARel γ H Φ w _ (args.getD i .any)
   rw[List.getD_eq_getElem?_getD]
   by_cases hi:i<args.length
   ·rw[List.getElem?_eq_getElem hi]
    have hi':i<cargs.length:=by omega
    refine hr i _ _ ?_ (List.getElem?_eq_getElem hi)
    rw[List.getElem?_eq_getElem hi']
    simp[Array.getD_eq_getD_getElem?,Array.getElem?_append,hi']
   rw[List.getElem?_eq_none (by omega)]
   exact .any _
  show((⟨cargs⟩:Array Value)++Array.replicate (fn.ntmps-(⟨cargs⟩:Array Value).size) undef).size=fn.ntmps
  simp
  omega
 refine wp_mono (h γ H Φ w _ w rfl hR) (fun e a' w' ⟨σ',hR',hQ⟩=>?_)
 obtain⟨rfl,h1,h2⟩:=hQ
 obtain⟨⟨γ',Φ',hok,_⟩,_,hd,hl0⟩:=hR'
 have hk:=hok.gone.take (Nat.le_refl _) hl0 h2
 rw[h1]at hk
 exact⟨hd.trans hd0,_,Φ',rfl,hk⟩
def Says(O:Orc)(X:XO)(f:FuncId)(args:List AV)(H:List AObj):Out→Prop
 | .ret rs H'=>O.C f args H=some (rs,H')
 | .boom v=>X f args H=some v
end
end Go.Abs
namespace Go.Abs
open Go.RowKit
structure Spec where
 f:FuncId
 α:Type
 ρ:Type
 F:α→Option ρ
 A:α→List AV×List AObj
 R:α→ρ→Out
 inj:∀x y,A x=A y→x=y
open Classical in
noncomputable def Spec.c(S:Spec)(args:List AV)(H:List AObj):Option Out:=
 if h:∃x,S.A x=(args,H)then(S.F (Classical.choose h)).map (S.R (Classical.choose h))else none
theorem Spec.c_at(S:Spec)(x:S.α):S.c (S.A x).1 (S.A x).2=(S.F x).map (S.R x):=by
 have h:∃y,S.A y=((S.A x).1,(S.A x).2):=⟨x,rfl⟩
 unfold Spec.c
 rw[dif_pos h,S.inj _ x (Classical.choose_spec h)]
theorem Spec.c_some{S:Spec}{args:List AV}{H:List AObj}{o:Out}(h:S.c args H=some o):∃x r,S.F x=some r∧S.A x=(args,H)∧S.R x r=o:=by
 unfold Spec.c at h
 split at h
 ·rename_i hx
  obtain⟨r,hr,ho⟩:=Option.map_eq_some_iff.1 h
  exact⟨_,r,hr,Classical.choose_spec hx,ho⟩
 cases h
abbrev KL:=List (FuncId×(List AV→List AObj→Option Out))
section
variable {E:Env}{K:KL}{pf:FuncId→Bool}
def GoodS(E:Env)(S:Spec):Prop:=∀x r,S.F x=some r→GoodB E S.f (S.A x).1 (S.A x).2 (S.R x r)
theorem GoodS.c{S:Spec}(h:GoodS E S)(args:List AV)(H:List AObj)(o:Out)(hc:S.c args H=some o):GoodB E S.f args H o:=by
 obtain⟨x,r,hr,hA,rfl⟩:=Spec.c_some hc
 have:=h x r hr
 rw[hA]at this
 exact this
end
end Go.Abs
namespace Go.Abs
open Go.RowKit
mutual
def PV.same:PV→PV→Bool
 | .bool a,.bool b=>a==b
 | .int k n,.int k' n'=>decide (k=k')&&decide (n=n')
 | .str s,.str s'=>decide (s=s')
 | .nil,.nil=>true
 | .slice xs,.slice ys=>PV.sames xs ys
 | .agg xs,.agg ys=>PV.sames xs ys
 | .ifc,.ifc=>true
 | .nilp,.nilp=>true
 | .snil,.snil=>true
 | _,_=>false
def PV.sames:List PV→List PV→Bool
 | [],[]=>true
 | x::xs,y::ys=>PV.same x y&&PV.sames xs ys
 | _,_=>false
end
mutual
theorem PV.same_eq:∀ {a b:PV},PV.same a b=true→a=b
 | .bool a,b,h=>by cases b<;>simp_all [PV.same]
 | .int k n,b,h=>by cases b<;>simp_all [PV.same]
 | .str s,b,h=>by cases b<;>simp_all [PV.same]
 | .nil,b,h=>by cases b<;>simp_all [PV.same]
 | .ifc,b,h=>by cases b<;>simp_all [PV.same]
 | .nilp,b,h=>by cases b<;>simp_all [PV.same]
 | .snil,b,h=>by cases b<;>simp_all [PV.same]
 | .slice xs,b,h=>by
   cases b with
   | slice ys=>exact congrArg PV.slice (PV.sames_eq (by simpa only[PV.same]using h))
   | _=>simp[PV.same]at h
 | .agg xs,b,h=>by
   cases b with
   | agg ys=>exact congrArg PV.agg (PV.sames_eq (by simpa only[PV.same]using h))
   | _=>simp[PV.same]at h
theorem PV.sames_eq:∀ {a b:List PV},PV.sames a b=true→a=b
 | [],b,h=>by cases b<;>simp_all [PV.sames]
 | x::xs,b,h=>by
   cases b with
   | nil=>simp[PV.sames]at h
   | cons y ys=>
     simp only[PV.sames,Bool.and_eq_true]at h
     rw[PV.same_eq h.1,PV.sames_eq h.2]
end
mutual
def AV.same:AV→AV→Bool
 | .any,.any=>true
 | .pv p,.pv q=>p.same q
 | .ref l o,.ref l' o'=>l==l'&&o==o'
 | .pptr xs,.pptr ys=>PV.sames xs ys
 | .vec l n,.vec l' n'=>l==l'&&n==n'
 | .vptr l n i o,.vptr l' n' i' o'=>l==l'&&n==n'&&i==i'&&o==o'
 | .mref l,.mref l'=>l==l'
 | .selfp l,.selfp l'=>l==l'
 | .nils,.nils=>true
 | .full xs,.full ys=>PV.sames xs ys
 | .tup xs,.tup ys=>AV.sames xs ys
 | .agg xs,.agg ys=>AV.sames xs ys
 | .fn f cs,.fn f' cs'=>f==f'&&cs==cs'
 | .ifc t p,.ifc t' p'=>t==t'&&p.same p'
 | _,_=>false
def AV.sames:List AV→List AV→Bool
 | [],[]=>true
 | x::xs,y::ys=>AV.same x y&&AV.sames xs ys
 | _,_=>false
end
mutual
theorem AV.same_eq:∀ {a b:AV},AV.same a b=true→a=b
 | .any,b,h=>by cases b<;>simp_all [AV.same]
 | .pv p,b,h=>by
   cases b with
   | pv q=>exact congrArg AV.pv (PV.same_eq (by simpa only[AV.same]using h))
   | _=>simp[AV.same]at h
 | .ref l o,b,h=>by cases b<;>simp_all [AV.same]
 | .pptr xs,b,h=>by
   cases b with
   | pptr q=>exact congrArg AV.pptr (PV.sames_eq (by simpa only[AV.same]using h))
   | _=>simp[AV.same]at h
 | .vec l n,b,h=>by cases b<;>simp_all [AV.same]
 | .vptr l n i o,b,h=>by cases b<;>simp_all [AV.same]
 | .mref l,b,h=>by cases b<;>simp_all [AV.same]
 | .selfp l,b,h=>by cases b<;>simp_all [AV.same]
 | .nils,b,h=>by cases b<;>simp_all [AV.same]
 | .full xs,b,h=>by
   cases b with
   | full q=>exact congrArg AV.full (PV.sames_eq (by simpa only[AV.same]using h))
   | _=>simp[AV.same]at h
 | .tup xs,b,h=>by
   cases b with
   | tup q=>exact congrArg AV.tup (AV.sames_eq (by simpa only[AV.same]using h))
   | _=>simp[AV.same]at h
 | .agg xs,b,h=>by
   cases b with
   | agg q=>exact congrArg AV.agg (AV.sames_eq (by simpa only[AV.same]using h))
   | _=>simp[AV.same]at h
 | .fn f cs,b,h=>by cases b<;>simp_all [AV.same]
 | .ifc t p,b,h=>by
   cases b with
   | ifc t' q=>
     simp only[AV.same,Bool.and_eq_true,beq_iff_eq]at h
     rw[h.1,PV.same_eq h.2]
   | _=>simp[AV.same]at h
theorem AV.sames_eq:∀ {a b:List AV},AV.sames a b=true→a=b
 | [],b,h=>by cases b<;>simp_all [AV.sames]
 | x::xs,b,h=>by
   cases b with
   | nil=>simp[AV.sames]at h
   | cons y ys=>
     simp only[AV.sames,Bool.and_eq_true]at h
     rw[AV.same_eq h.1,AV.sames_eq h.2]
end
end Go.Abs
