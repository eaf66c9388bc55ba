import Derived.Test.YtljahlbklgnfhaaGreatDoorA45
set_option linter.unusedVariables false
set_option linter.unusedSimpArgs false
set_option linter.defProp false
namespace Go.Abs
open Go.RowKit
def mayAt2(A:List (List Nat))(eff D:List Nat)(j:Nat):Bool:=
 (D.all fun e=>e != j&&!(A.getD e []).contains j)&&(eff.all fun e=>D.contains e||!(A.getD j []).contains e)
def J2d(ops:Array Oper)(n:Nat)(eff:List Nat)(S:List (List Nat))(fin:Nat)(F:List (Nat×Nat×Nat)):Bool:=
 let A:=ancs ops ops.size
 let R:=List.range ops.size
 (R.all fun j=>((direct ops j).all fun i=>decide (i<j))&&(match dstOf ops j with
   | some d=>decide (d<n)&&R.all fun k=>match ops[k]? with
     | some o=>!(o.looksAt ops).contains d||(A.getD k []).contains j
     | none=>true
   | none=>true)&&((List.range j).all fun i=>dstOf ops i==none||dstOf ops i != dstOf ops j) &&
   ((List.range S.length).all fun s=>!mayAt2 A eff (S.getD s []) j||F.any fun f=>f.1==j&&f.2.1==s&&decide (f.2.2<S.length) &&
     (if eff.contains j=true then eff.all fun e=>(S.getD f.2.2 []).contains e==(e==j||(S.getD s []).contains e)else f.2.2==s))) &&
 (eff.all fun e=>decide (e<ops.size))&&(S.all fun D=>D.all fun e=>eff.contains e)&&((List.range S.length).all fun s=>s==fin||eff.any fun e=>!(S.getD s []).contains e)&&decide (0<S.length)&&(S.getD 0 []==[])
def V3r(E:Env)(O:Orc)(ops:Array Oper)(σ:St)(o:Oper)(v:AV)(h':List AObj):Prop:=
 Q1w E O ops σ o=some (v,h') ∨
  ∃ty d l ti z,o.op=.alloc ty∧o.guard=none∧o.dst=some d∧E.bT≠some ty∧E.T ty=some ti∧ti.zero=some z∧σ.h[l]?=some (.hold d)∧v=.ref l 0∧h'=σ.h.set l (.var (z.map zAV))
def Q3a(E:Env)(O:Orc)(ops:Array Oper)(t:Nat→AV)(n:Nat)(val:List AV)(hs:List (List AObj)):List (Nat×Nat×Nat)→Prop
 | []=>True
 | (j,s,s')::r=>(∀o,ops[j]?=some o→V3r E O ops ⟨t,n,hs.getD s []⟩ o (val.getD j .any) (hs.getD s' []))∧Q3a E O ops t n val hs r
section
variable {E:Env}{O:Orc}{γ₀:List Gh}{H₀:List AObj}{Φ₀:Nat→Nat→Prop}{w₀:World}{σ:St}{k:Nat}
theorem Weak.hold(d:Nat):Weak E k σ ⟨σ.t,σ.n,σ.h++[.hold d]⟩:=by
 intro γ₀ H₀ Φ₀ w₀ a' w _ hR
 obtain⟨⟨γ,Φ,hok,hs⟩,hn,hd,hl0⟩:=hR
 have hk:=hok.inv.pushObj (w':=w) (Φ':=Φ) (fun _ _=>rfl) (Nat.le_refl _) rfl rfl rfl (fun _ _ h=>h) (fun _ _ h _=>h) (fun b k h=>hok.inv.phi b k h) ⟨.slice none 0 0,[]⟩ (.hold d) (fun b hb=>by cases hb) (fun hE=>⟨rfl,rfl⟩)
 exact⟨⟨_,_,hok.trans hk,fun i=>(hs i).mono hk.evo⟩,hn,hd,hl0⟩
theorem Q3a.at{ops:Array Oper}{t:Nat→AV}{n:Nat}{val:List AV}{hs:List (List AObj)}:∀ {F:List (Nat×Nat×Nat)},Q3a E O ops t n val hs F→∀ {j s s':Nat},(j,s,s')∈F→∀ {o:Oper},ops[j]?=some o→
 V3r E O ops ⟨t,n,hs.getD s []⟩ o (val.getD j .any) (hs.getD s' [])
 | [],_,_,_,_,h=>by cases h
 | (j',p',q')::r,⟨h1,h2⟩,j,s,s',h=>by
   rcases List.mem_cons.1 h with h|h
   ·injection h with e1 e2
    injection e2 with e2 e3
    subst e1 e2 e3
    exact fun ho=>h1 _ ho
   exact fun ho=>h2.at h ho
theorem Z5s{ops:Array Oper}{o:Oper}{a:Act}{w:World}{ty d l:Nat}{ti:TI}{z:List PV}(hop:o.op=.alloc ty)(hg:o.guard=none)(hd:o.dst=some d)(_hb:E.bT≠some ty)(hT:E.T ty=some ti)(hz:ti.zero=some z)(hl:σ.h[l]?=some (.hold d))(hdn:d<σ.n)
 (hR:Rel E γ₀ H₀ Φ₀ w₀ σ a w) {K:Act→World→Prop} {Q:Exit→Act→World→Prop} (hK:∀a' w',Rel E γ₀ H₀ Φ₀ w₀ ⟨upd σ.t d (.ref l 0),σ.n,σ.h.set l (.var (z.map zAV))⟩ a' w'→K a' w'):
 if Region.wanted o (yielded ops a.tmps)=true then o.wp E.P a w K Q else K (a.put o.dst undef) w:=by
 obtain⟨⟨γ,Φ,hok,hs⟩,hsz,hdd,h0⟩:=hR
 rw[if_pos (by simp[Region.wanted,hg])]
 have hI:=hok.inv
 obtain⟨g,hgl,hO⟩:=hI.gh hl
 obtain⟨i,dsc,hi,hsi,_,hdsc,hk,hzz⟩:=(E.hT _ _ hT).info
 obtain⟨zv,hzv,hzl,_,hzr,_⟩:=hzz z hz
 have hzrun:(zeroValue ty).run E.P w=.ok zv w:=by simp[zeroValue,typeInfo,hi,hzv]
 have hnew:(w.alloc (.cells ⟨zv.cells.toList⟩ ty)).heap[w.heap.size]?=some (.cells ⟨zv.cells.toList⟩ ty (0,0)):=heap_alloc_new w _
 have hset:=hI.setObj (o':=.var (z.map zAV)) (g':=⟨.pointer (some ⟨w.heap.size,0,none⟩),[w.heap.size]⟩) (w':=w.alloc (.cells ⟨zv.cells.toList⟩ ty)) (Φ':=Φ) hl hgl (fun b hb _=>Q2h _ b hb) (by simp) rfl rfl rfl (fun _ _ h=>h) (fun _ _ h _ _=>h) (fun b k h=>Nat.lt_of_lt_of_le (hI.phi b k h) (by simp))
  (fun b k _ hb=>by rw[hO.2]at hb;cases hb) (fun b hb=>by simp at hb;subst hb;exact⟨.inr (Nat.le_refl _),by simp⟩) (.inr ⟨none,0,0,hO.1⟩) (fun e sz n h=>by cases h)
  (fun hE=>⟨w.heap.size,ty,zv.cells.toList,rfl,rfl,hnew,by simpa using hzl,fun k v c hv hc=>by
    rw[List.getElem?_map]at hc
    obtain⟨p,hp,rfl⟩:=Option.map_eq_some_iff.1 hc
    have h1:=hzr k v p hv hp
    exact⟨(h1.2.1 Φ w).one h1.1,J1l h1⟩,(fun k hk=>by
    have:=hI.phi _ k hk
    omega),fun c hc hs=>by
    obtain⟨p,_,rfl⟩:=List.mem_map.1 hc
    rw[J7r]at hs
    cases hs⟩)
 have hrun:(Instr.alloc ty true (.tuple #[])).run E.P w=.ok (.pointer (some ⟨w.heap.size,0,none⟩)) (w.alloc (.cells ⟨zv.cells.toList⟩ ty)):=by simp[Instr.alloc,hzrun,newVar,newRow]
 have he:(do pure (Next.value (← Instr.alloc ty true (.tuple #[]))):Sem Next).run E.P w=(execOp a.eval o).run E.P w:=by unfold execOp;simp only[hop]<;>rfl
 have hp:put σ o.dst (.ref l 0) (σ.h.set l (.var (z.map zAV)))=some ⟨upd σ.t d (.ref l 0),σ.n,σ.h.set l (.var (z.map zAV))⟩:=by
  unfold put
  rw[hd]
  simp only[if_pos hdn]
 refine Q1y (by rw[←he];exact Q0r hrun) (hK _ _ (Z7u hok hs hsz hdd h0 hset (.inr ?_) hp))
 refine .ref _ _ _ ?_
 unfold gv
 rw[List.getElem?_set_self (List.getElem?_eq_some_iff.1 hgl).1]
 rfl
structure Planned2(ops:Array Oper)(n:Nat)(eff:List Nat)(S:List (List Nat))(fin:Nat)(F:List (Nat×Nat×Nat)):Prop where
 lt:∀ {i j:Nat},j<ops.size→i∈direct ops j→i<j
 dst:∀ {j d:Nat},dstOf ops j=some d→d<n∧∀ {k:Nat} {o:Oper},ops[k]?=some o→d∈o.looksAt ops→j∈(ancs ops ops.size).getD k []
 one:∀ {i j d:Nat},dstOf ops i=some d→dstOf ops j=some d→i=j
 may:∀ {j s:Nat},j<ops.size→s<S.length→mayAt2 (ancs ops ops.size) eff (S.getD s []) j=true→∃s',(j,s,s')∈F∧s'<S.length∧(if eff.contains j=true then ∀e∈eff,(S.getD s' []).contains e=(e==j||(S.getD s []).contains e)else s'=s)
 effs:∀ {e:Nat},e∈eff→e<ops.size
 sub:∀ {s e:Nat},e∈S.getD s []→e∈eff
 last:∀ {s:Nat},s<S.length→(∀e∈eff,(S.getD s []).contains e=true)→s=fin
 pos:0<S.length
 first:S.getD 0 []=[]
theorem J0c{ops:Array Oper}{n:Nat}{eff:List Nat}{S:List (List Nat)}{fin:Nat}{F:List (Nat×Nat×Nat)}(h:J2d ops n eff S fin F=true):Planned2 ops n eff S fin F:=by
 unfold J2d at h
 simp only[Bool.and_eq_true]at h
 obtain⟨⟨⟨⟨⟨h1,h2⟩,h3⟩,h4⟩,h5⟩,h6⟩:=h
 have hj:=fun j (hj:j<ops.size)=>List.all_eq_true.1 h1 j (List.mem_range.2 hj)
 simp only[Bool.and_eq_true]at hj
 have lt1:∀ {i j d:Nat},i<j→dstOf ops i=some d→dstOf ops j=some d→False:=by
  intro i j d hij hi hj'
  have:=List.all_eq_true.1 (hj j (Q5e hj')).1.2 i (List.mem_range.2 hij)
  rw[hi,hj']at this
  simp at this
 refine⟨fun {i j} hjs hi=>by simpa using List.all_eq_true.1 (hj j hjs).1.1.1 i hi,fun {j d} hd=>?_,fun {i j d} hi hj'=>?_,fun {j s} hjs hs hm=>?_,fun {e} he=>by simpa using List.all_eq_true.1 h2 e he,fun {s e} he=>?_,fun {s} hs hall=>?_,by simpa using h5,by simpa using h6⟩
 ·have:=(hj j (Q5e hd)).1.1.2
  rw[hd]at this
  simp only[Bool.and_eq_true,decide_eq_true_eq]at this
  refine⟨this.1,fun {k o} ho hl=>?_⟩
  have hk:=List.all_eq_true.1 this.2 k (List.mem_range.2 (Array.getElem?_eq_some_iff.1 ho).1)
  simp only[ho]at hk
  rcases Bool.or_eq_true _ _▸hk with hk|hk
  ·simp[hl]at hk
  simpa using hk
 ·rcases Nat.lt_trichotomy i j with h|h|h
  ·exact(lt1 h hi hj').elim
  ·exact h
  exact(lt1 h hj' hi).elim
 ·have:=List.all_eq_true.1 (hj j hjs).2 s (List.mem_range.2 hs)
  rcases Bool.or_eq_true _ _▸this with h|h
  ·rw[hm]at h
   cases h
  obtain⟨⟨j',s0,s'⟩,hf,hc⟩:=List.any_eq_true.1 h
  simp only[Bool.and_eq_true,beq_iff_eq,decide_eq_true_eq]at hc
  obtain⟨⟨⟨rfl,rfl⟩,c3⟩,c4⟩:=hc
  refine⟨s',hf,c3,?_⟩
  split at c4
  ·rename_i hc
   rw[if_pos hc]
   intro e he
   simpa using List.all_eq_true.1 c4 e he
  rename_i hc
  rw[if_neg hc]
  simpa using c4
 ·rcases Nat.lt_or_ge s S.length with hs|hs
  ·have hmem:S.getD s []∈S:=by
    rw[List.getD_eq_getElem?_getD,List.getElem?_eq_getElem hs]
    exact List.getElem_mem hs
   have:=List.all_eq_true.1 (List.all_eq_true.1 h3 _ hmem) e he
   simpa using this
  rw[List.getD_eq_getElem?_getD,List.getElem?_eq_none hs]at he
  cases he
 have:=List.all_eq_true.1 h4 s (List.mem_range.2 hs)
 rcases Bool.or_eq_true _ _▸this with h|h
 ·simpa using h
 obtain⟨e,he,hc⟩:=List.any_eq_true.1 h
 rw[hall e he]at hc
 cases hc
theorem J0w(hS:Q1m E O){ops:Array Oper}{n:Nat}{eff:List Nat}{S:List (List Nat)}{fin:Nat}{F:List (Nat×Nat×Nat)}(hok:Planned2 ops n eff S fin F){val:List AV}{hs:List (List AObj)}{L0:List (Nat×AV)}
 (hf:Q3a E O ops (sl (Q3p ops val++L0)) n val hs F) {Q:Exit→Act→World→Prop} (hQ:∀a' w',Rel E γ₀ H₀ Φ₀ w₀ ⟨sl (Q3p ops val++L0),n,hs.getD fin []⟩ a' w'→Q .normal a' w'):
 ∀ (fuel:Nat) (listed:Array Bool) (σ:St) (a:Act) (w:World) (s:Nat),listed.size=ops.size→(todo ops listed).length≤fuel→(∀j,listed.getD j false=true→∀i∈direct ops j,listed.getD i false=true)→
  s<S.length→(∀e∈eff,listed.getD e false=(S.getD s []).contains e)→σ.h=hs.getD s []→σ.n=n→
  (∀j d,listed.getD j false=true→dstOf ops j=some d→σ.t d=val.getD j .any)→(∀i,(∀j,listed.getD j false=true→dstOf ops j≠some i)→σ.t i=sl L0 i)→
  Rel E γ₀ H₀ Φ₀ w₀ σ a w→wpAny E.P .any ops Q fuel listed a w:=by
 have tF:∀j d,dstOf ops j=some d→sl (Q3p ops val++L0) d=val.getD j .any:=by
  intro j d hd
  refine J8l L0 _ d _ (List.mem_filterMap.2 ⟨j,List.mem_range.2 (Q5e hd),by rw[hd];rfl⟩) fun u hu=>?_
  obtain⟨k,hk,he⟩:=List.mem_filterMap.1 hu
  obtain⟨d',hd',he'⟩:=Option.map_eq_some_iff.1 he
  injection he' with e1 e2
  subst e1
  rw[←e2,hok.one hd' hd]
 have tF0:∀i,(∀j,dstOf ops j≠some i)→sl (Q3p ops val++L0) i=sl L0 i:=by
  intro i hi
  refine Z3m L0 _ i fun v hv=>?_
  obtain⟨k,hk,he⟩:=List.mem_filterMap.1 hv
  obtain⟨d',hd',he'⟩:=Option.map_eq_some_iff.1 he
  injection he' with e1 e2
  subst e1
  exact hi k hd'
 have gt:∀ (listed:Array Bool) (j:Nat),listed.size=ops.size→j<ops.size→(listed.getD j true=listed.getD j false):=by
  intro listed j hsz hj
  have:j<listed.size:=by omega
  simp[this]
 have last:∀ (listed:Array Bool) (σ:St) (s:Nat),listed.size=ops.size→todo ops listed=[]→s<S.length→(∀e∈eff,listed.getD e false=(S.getD s []).contains e)→σ.h=hs.getD s []→σ.n=n→
  (∀j d,listed.getD j false=true→dstOf ops j=some d→σ.t d=val.getD j .any)→(∀i,(∀j,listed.getD j false=true→dstOf ops j≠some i)→σ.t i=sl L0 i)→σ=⟨sl (Q3p ops val++L0),n,hs.getD fin []⟩:=by
  intro listed σ s hsz h0 hp hd hh hn ha hb
  have hall:∀j,j<ops.size→listed.getD j false=true:=by
   intro j hj
   cases hb:listed.getD j false with
   | true=>rfl
   | false=>
     have:j∈todo ops listed:=List.mem_filter.2 ⟨List.mem_range.2 hj,by rw[gt listed j hsz hj,hb];rfl⟩
     rw[h0]at this
     cases this
  have hpe:s=fin:=hok.last hp fun e he=>by rw[←hd e he];exact hall e (hok.effs he)
  obtain⟨t,m,hh'⟩:=σ
  simp only at hh hn ha hb
  subst hn hpe
  rw[hh]
  congr 1
  funext i
  by_cases hi:∃j,dstOf ops j=some i
  ·obtain⟨j,hj⟩:=hi
   rw[ha j i (hall j (Q5e hj)) hj,tF j i hj]
  rw[tF0 i fun j hj=>hi ⟨j,hj⟩,hb i fun j _ hj=>hi ⟨j,hj⟩]
 have none_left:∀ (listed:Array Bool),listed.size=ops.size→todo ops listed=[]→Region.ready .any ops listed=[]:=by
  intro listed hsz h
  refine List.eq_nil_iff_forall_not_mem.2 fun j hj=>?_
  obtain⟨h1,o,ho,_⟩:=mem_ready.1 hj
  have:j∈todo ops listed:=List.mem_filter.2 ⟨List.mem_range.2 (Array.getElem?_eq_some_iff.1 ho).1,by simp[h1]⟩
  rw[h]at this
  cases this
 have ready_left:∀ (listed:Array Bool),listed.size=ops.size→todo ops listed≠[]→Region.ready .any ops listed≠[]:=by
  intro listed hsz hne hnone
  obtain⟨j,rest,hjr⟩:=List.exists_cons_of_ne_nil hne
  have hj:j∈todo ops listed:=by rw[hjr];simp
  obtain⟨hjs,hun⟩:=List.mem_filter.1 hj
  have hjs':=List.mem_range.1 hjs
  have hsort:(todo ops listed).Pairwise (·<·):=(List.pairwise_lt_range (n:=ops.size)).filter _
  rw[hjr]at hsort
  have hready:j∈Region.ready .any ops listed:=by
   refine mem_ready.2 ⟨by simpa using hun,ops[j],Array.getElem?_eq_getElem hjs',fun e he hb=>?_⟩
   have hd:e.on∈direct ops j:=by
    simp only[direct,Array.getElem?_eq_getElem hjs']
    exact List.mem_map.2 ⟨e,List.mem_filter.2 ⟨by simpa using he,hb⟩,rfl⟩
   have hlt:=hok.lt hjs' hd
   have his:e.on<listed.size:=by omega
   cases hb2:listed.getD e.on true with
   | true=>
     simp[his]at hb2 ⊢
     exact hb2
   | false=>
     exfalso
     have hm:e.on∈todo ops listed:=List.mem_filter.2 ⟨List.mem_range.2 (by omega),by simpa using hb2⟩
     rw[hjr]at hm
     rcases List.mem_cons.1 hm with h|h
     ·omega
     have:=(List.pairwise_cons.1 hsort).1 e.on h
     omega
  rw[hnone]at hready
  cases hready
 intro fuel
 induction fuel with
 | zero=>
   intro listed σ a w p hsz hl hdown hp hed hh hn ha hb hR
   have h0:todo ops listed=[]:=List.eq_nil_of_length_eq_zero (by omega)
   have:=last listed σ p hsz h0 hp hed hh hn ha hb
   subst this
   exact⟨none_left listed hsz h0,hQ a w hR⟩
 | succ fuel ih=>
   intro listed σ a w p hsz hl hdown hp hed hh hn ha hb hR
   refine⟨fun hnone=>?_,fun j hj=>?_⟩
   ·by_cases h0:todo ops listed=[]
    ·have:=last listed σ p hsz h0 hp hed hh hn ha hb
     subst this
     exact hQ a w hR
    exact absurd hnone (ready_left listed hsz h0)
   obtain⟨h1,o,ho,hbound⟩:=mem_ready.1 hj
   have hjs:j<ops.size:=(Array.getElem?_eq_some_iff.1 ho).1
   have hjt:j∈todo ops listed:=List.mem_filter.2 ⟨List.mem_range.2 hjs,by simp[h1]⟩
   have hjun:listed.getD j false=false:=by
    have:=(List.mem_filter.1 hjt).2
    rw[gt listed j hsz hjs]at this
    simpa using this
   obtain⟨l,r,e1,e2,hl1⟩:=Z0v hjt
   have hdir:∀i∈direct ops j,listed.getD i false=true:=by
    intro i hi
    simp only[direct,ho]at hi
    obtain⟨e,he,rfl⟩:=List.mem_map.1 hi
    have he':=List.mem_filter.1 he
    exact hbound e (by simpa using he'.1) he'.2
   have hanc:=Q2p (ops:=ops) (L:=fun i=>listed.getD i false=true) hdown ops.size j hdir
   have hmay:mayAt2 (ancs ops ops.size) eff (S.getD p []) j=true:=by
    unfold mayAt2
    rw[Bool.and_eq_true]
    refine⟨List.all_eq_true.2 fun e he=>?_,List.all_eq_true.2 fun e he=>?_⟩
    ·have hel:listed.getD e false=true:=by rw[hed e (hok.sub he)];simpa using he
     rw[Bool.and_eq_true]
     refine⟨?_,?_⟩
     ·simp only[bne_iff_ne,ne_eq]
      intro e'
      rw[e',hjun]at hel
      cases hel
     cases hc:((ancs ops ops.size).getD e []).contains j with
     | false=>rfl
     | true=>
       have:=Q2p (ops:=ops) (L:=fun i=>listed.getD i false=true) hdown ops.size e (hdown e hel) j (by simpa using hc)
       rw[hjun]at this
       cases this
    cases hD:(S.getD p []).contains e with
    | true=>rfl
    | false=>
      have hel:=hed e he
      rw[hD]at hel
      cases hc:((ancs ops ops.size).getD j []).contains e with
      | false=>rfl
      | true=>
        have:=hanc e (by simpa using hc)
        rw[hel]at this
        cases this
   obtain⟨s',hF,hs'l,hs'⟩:=hok.may hjs hp hmay
   have hfact:=hf.at hF ho
   have hsame:∀d∈o.looksAt ops,σ.t d=sl (Q3p ops val++L0) d:=by
    intro d hd
    by_cases hk:∃k,dstOf ops k=some d
    ·obtain⟨k,hk⟩:=hk
     rw[tF k d hk]
     exact ha k d (hanc k ((hok.dst hk).2 ho hd)) hk
    rw[tF0 d fun k hk'=>hk ⟨k,hk'⟩]
    exact hb d fun k _ hk'=>hk ⟨k,hk'⟩
   have hdst:o.dst=dstOf ops j:=by simp[dstOf,ho]
   have hset:∀i,(listed.setIfInBounds j true).getD i false=true→i=j∨listed.getD i false=true:=by
    intro i hi
    by_cases hij:j=i
    ·exact .inl hij.symm
    rw[getD_set_ne false hij]at hi
    exact .inr hi
   have hsetj:(listed.setIfInBounds j true).getD j false=true:=by
    have:j<listed.size:=by omega
    simp[this]
   have hseto:∀i,listed.getD i false=true→(listed.setIfInBounds j true).getD i false=true:=fun i hi=>getD_set_true hi
   have next:∀a' w',Rel E γ₀ H₀ Φ₀ w₀ ⟨putT σ.t (val.getD j .any) o.dst,n,hs.getD s' []⟩ a' w'→wpAny E.P .any ops Q fuel (listed.setIfInBounds j true) a' w':=fun a' w' hR'=>by
    refine ih (listed.setIfInBounds j true) _ a' w' s' (by simpa using hsz) ?_ ?_ hs'l ?_ rfl rfl ?_ ?_ hR'
    ·rw[e2]
     rw[e1]at hl
     simp only[List.length_append,List.length_cons]at hl ⊢
     omega
    ·intro k hk i hi
     rcases hset k hk with rfl|hk
     ·exact hseto _ (hdir i hi)
     exact hseto _ (hdown k hk i hi)
    ·intro e he
     by_cases hje:eff.contains j=true
     ·rw[if_pos hje]at hs'
      rw[hs' e he]
      by_cases hej:e=j
      ·rw[hej,hsetj]
       simp
      rw[getD_set_ne false (fun h=>hej h.symm),hed e he,show(e==j)=false by simpa using hej,Bool.false_or]
     rw[if_neg hje]at hs'
     have hej:j≠e:=fun h=>hje (by rw[h];simpa using he)
     rw[getD_set_ne false hej,hs',hed e he]
    ·intro k d hk hd
     show putT σ.t (val.getD j .any) o.dst d=_
     by_cases hkj:k=j
     ·subst hkj
      rw[hdst,hd]
      show upd σ.t d _ d=_
      simp[upd]
     rcases hset k hk with h|hk
     ·exact absurd h hkj
     rw[hdst]
     cases hjd:dstOf ops j with
     | none=>exact ha k d hk hd
     | some d'=>
       show upd σ.t d' _ d=_
       unfold upd
       rw[if_neg (fun e=>hkj (hok.one hd (by rw[hjd,e])))]
       exact ha k d hk hd
    intro i hi
    show putT σ.t (val.getD j .any) o.dst i=_
    rw[hdst]
    have hold:=hb i fun k hk=>hi k (hseto k hk)
    cases hjd:dstOf ops j with
    | none=>exact hold
    | some d'=>
      show upd σ.t d' _ i=_
      unfold upd
      rw[if_neg (fun e=>hi j hsetj (by rw[hjd,e]))]
      exact hold
   have hstep:if Region.wanted o (yielded ops a.tmps)=true then o.wp E.P a w (wpAny E.P .any ops Q fuel (listed.setIfInBounds j true)) Q else wpAny E.P .any ops Q fuel (listed.setIfInBounds j true) (a.put o.dst undef) w:=by
    rcases hfact with hfact|⟨ty,d,l,ti,z,hop,hg,hd,hb1,hT,hz,hl2,hv,hh2⟩
    ·have hdoes:Q1w E O ops σ o=some (val.getD j .any,hs.getD s' []):=by
      obtain⟨t,m,hh'⟩:=σ
      simp only at hh hn hsame
      subst hh hn
      rw[Z2h hsame]
      exact hfact
     have hput:put σ o.dst (val.getD j .any) (hs.getD s' [])=some ⟨putT σ.t (val.getD j .any) o.dst,n,hs.getD s' []⟩:=by
      unfold put putT
      cases hd:o.dst with
      | none=>simp only[hn]
      | some d=>
        have hdn:=(hok.dst (by rw[←hdst,hd]:dstOf ops j=some d)).1
        simp only[hn,if_pos hdn]
     have hs1:Q7a E O ops σ o=some ⟨putT σ.t (val.getD j .any) o.dst,n,hs.getD s' []⟩:=by
      rw[Q4d,hdoes]
      exact hput
     exact Q4k hS hs1 hR next
    have hdn:=(hok.dst (by rw[←hdst,hd]:dstOf ops j=some d)).1
    simp only at hl2 hh2
    refine Z5s hop hg hd hb1 hT hz (by rw[hh];exact hl2) (by rw[hn];exact hdn) hR fun a' w' hR'=>next a' w' ?_
    rw[hv,hd,hh2,←hh,←hn]
    exact hR'
   unfold wpOp
   rw[ho]
   simp only
   split
   ·rename_i hw
    rw[if_pos hw]at hstep
    exact .inl hstep
   rename_i hw
   rw[if_neg hw]at hstep
   exact hstep
theorem AW.dregW(hP:E.P.follows .mixedOrders=true)(hS:Q1m E O){id n:Nat}{L0:List (Nat×AV)}{h:List AObj}{ops:Array Oper}{Q:Exit→St→Prop}(eff:List Nat)(S:List (List Nat))(fin:Nat)(F:List (Nat×Nat×Nat))(val:List AV)(hs:List (List AObj))(LF:List (Nat×AV))
 (hLF:Q3p ops val++L0=LF) (hok:J2d ops n eff S fin F=true) (h0:hs.getD 0 []=h) (hf:Q3a E O ops (sl LF) n val hs F) (L:List (Nat×AV)) (h':List AObj) (hL:Q7k (sl LF) L) (hh:hs.getD fin []=h') (hQ:Q .normal ⟨sl L,n,h'⟩):
 AW E k (.region id ops true) Q ⟨sl L0,n,h⟩:=by
 subst hLF
 intro γ₀ H₀ Φ₀ w₀ a w hl hR
 refine wp_region_any hP ?_
 have htodo:todo ops (Array.replicate ops.size false)=List.range ops.size:=by
  refine List.filter_eq_self.2 fun i hi=>?_
  simp[List.mem_range.1 hi]
 have hnone:∀i,(Array.replicate ops.size false).getD i false=false:=by
  intro i
  by_cases hi:i<ops.size
  ·simp[hi]
  simp[hi]
 have hpl:=J0c hok
 refine J0w hS hpl hf (γ₀:=γ₀) (H₀:=H₀) (Φ₀:=Φ₀) (w₀:=w₀) (fun a' w' hR'=>?_) ops.size _ ⟨sl L0,n,h⟩ a _ 0 (by simp) (by rw[htodo];simp) (fun j hj=>by rw[hnone]at hj;cases hj) hpl.pos (fun e he=>by rw[hnone,hpl.first];rfl) h0.symm rfl
  (fun j d hj=>by rw[hnone]at hj;cases hj) (fun i _=>rfl) ?_
 ·have hw:Weak E k ⟨sl (Q3p ops val++L0),n,hs.getD fin []⟩ ⟨sl L,n,hs.getD fin []⟩:=Weak.forget (Q3w hL)
  have hR3:=hw γ₀ H₀ Φ₀ w₀ a' w' hl hR'
  rw[hh]at hR3
  exact⟨_,hR3,hQ⟩
 obtain⟨⟨γ,Φ,hok',hs'⟩,hsz,hd,h0'⟩:=hR
 have hk:Ok E γ h Φ w γ h Φ { w with drawn:=w.drawn+1 }:=hok'.inv.grow (fun _ _=>rfl) (Nat.le_refl _) rfl rfl rfl (fun _ _ h=>h) (fun _ _ h _=>h) hok'.inv.phi
 exact⟨⟨γ,Φ,hok'.trans hk,fun i=>(hs' i).mono hk.evo⟩,hsz,hd,h0'⟩
theorem Q3a.nil{ops:Array Oper}{t:Nat→AV}{n:Nat}{val:List AV}{hs:List (List AObj)}:Q3a E O ops t n val hs []:=trivial
theorem Q3a.does{ops:Array Oper}{t:Nat→AV}{n:Nat}{val:List AV}{hs:List (List AObj)}{j s s':Nat}{F:List (Nat×Nat×Nat)}{v:AV}{h1 h2:List AObj}(hv:val.getD j .any=v)(e1:hs.getD s []=h1)(e2:hs.getD s' []=h2)
 (h:((ops[j]?).bind fun o=>Q1w E O ops ⟨t,n,h1⟩ o)=some (v,h2)) (hr:Q3a E O ops t n val hs F):Q3a E O ops t n val hs ((j,s,s')::F):=
 ⟨fun o' ho'=>.inl (by
  rw[ho',Option.bind_some]at h
  rw[e1,e2,hv]
  exact h),hr⟩
theorem Q3a.fill{ops:Array Oper}{t:Nat→AV}{n:Nat}{val:List AV}{hs:List (List AObj)}{j s s':Nat}{F:List (Nat×Nat×Nat)}{h1:List AObj}{o:Oper}{ty d l:Nat}{ti:TI}{z:List PV}(e1:hs.getD s []=h1)(ho:ops[j]?=some o)(hop:o.op=.alloc ty)(hg:o.guard=none)(hd:o.dst=some d)
 (hb:E.bT≠some ty) (hT:E.T ty=some ti) (hz:ti.zero=some z) (hv:val.getD j .any=.ref l 0) (hl:h1[l]?=some (.hold d)) (he:hs.getD s' []=h1.set l (.var (z.map zAV))) (hr:Q3a E O ops t n val hs F):Q3a E O ops t n val hs ((j,s,s')::F):=
 ⟨fun o' ho'=>.inr (by
  rw[ho]at ho'
  cases ho'
  exact⟨ty,d,l,ti,z,hop,hg,hd,hb,hT,hz,by rw[e1];exact hl,hv,by rw[e1];exact he⟩),hr⟩
end
end Go.Abs
namespace Go.Abs
open Go.RowKit
def xg:AObj→AObj
 | .var _=>.gone
 | o=>o
def Z8v(E:Env)(f:FuncId)(args:List AV)(H:List AObj)(v:Value):Prop:=
 ∀ (w:World) (Φ:Nat→Nat→Prop) (γ:List Gh) (cargs:List Value),OInv E γ H Φ w→cargs.length=args.length→(∀ (i:Nat) v a,cargs[i]?=some v→args[i]?=some a→ARel γ H Φ w v a)→
  Calls E.P f ⟨cargs⟩ w fun e w'=>∃γ' Φ',e=.panicked [{ v:=v,recovered:=false }]∧Ok E γ H Φ w γ' (H.map xg) Φ' w'
abbrev XO:=FuncId→List AV→List AObj→Option Value
def Q6c(E:Env)(X:XO):Prop:=∀f args H v,X f args H=some v→Z8v E f args H v∧Z4x E f
def Z5p(X:XO)(H:List AObj)(f:FuncId)(args:List AV):Option (Value×List AObj):=
 let base:=Q1i H args
 let sel:=Q4w (base++Q1h H base)
 match Q0y H (idx sel) sel,Q0s H (idx sel) args with
 | some Hs,some az=>match X f az Hs with
   | some v=>some (v,Q0n H sel (Hs.map xg))
   | none=>none
 | _,_=>none
section
variable {E:Env}{O:Orc}{X:XO}{γ γ₀:List Gh}{H H₀ H':List AObj}{Φ Φ₀:Nat→Nat→Prop}{w w₀:World}{σ σ':St}{a:Act}{o:Oper}{v:Value}{k:Nat}
theorem J6g(o:AObj):Q1l (xg o)=Q1l o:=by cases o<;>rfl
theorem J6h(H:List AObj)(l:Nat):rowAt (H.map xg) l=rowAt H l:=by
 unfold rowAt
 rw[List.getElem?_map]
 cases H[l]? with
 | none=>rfl
 | some o=>exact J6g o
theorem J4k:Evo γ H Φ w γ (H.map xg) Φ w:=
 ⟨fun _ _ h=>h,fun _ _ _=>rfl,fun _ _ h=>.inl h,fun l _ _ n h=>⟨n,(J6h H l).trans h,Nat.le_refl _,fun _=>rfl⟩⟩
theorem OInv.gone(hI:OInv E γ H Φ w):OInv E γ (H.map xg) Φ w:=by
 refine⟨by rw[List.length_map];exact hI.len,fun l o g ho hg=>?_,hI.disj,hI.own,hI.phi,hI.gi,hI.gn⟩
 rw[List.getElem?_map]at ho
 obtain⟨o',ho',rfl⟩:=Option.map_eq_some_iff.1 ho
 have hO:=hI.obj l o' g ho' hg
 cases o' with
 | var cs=>trivial
 | _=>exact ObjRel.keep J4k hO (fun _ _=>rfl) (fun _ _ _ h=>h)
theorem Ok.gone(h:Ok E γ₀ H₀ Φ₀ w₀ γ H Φ w):Ok E γ₀ H₀ Φ₀ w₀ γ (H.map xg) Φ w:=
 h.trans ⟨h.inv.gone,J4k,Since.refl _ _ _⟩
theorem Z3h(hX:Q6c E X)(hI:OInv E γ H Φ w){f:FuncId}{args:List AV}{cargs:List Value}(hl:cargs.length=args.length)(hr:∀ (i:Nat) v b,cargs[i]?=some v→args[i]?=some b→ARel γ H Φ w v b)
 (h:Z5p X H f args=some (v,H')):Z4x E f∧Calls E.P f ⟨cargs⟩ w fun e w'=>∃γ' Φ',e=.panicked [{ v:=v,recovered:=false }]∧Ok E γ H Φ w γ' H' Φ' w':=by
 unfold Z5p at h
 simp only at h
 generalize hsel:Q4w (Q1i H args++Q1h H (Q1i H args))=sel at h
 have hnd:sel.Nodup:=by rw[←hsel];exact Q6p _
 split at h
 ·rename_i Hs az hHs has
  split at h
  ·rename_i u hC
   simp only[Option.some.injEq,Prod.mk.injEq]at h
   obtain⟨rfl,rfl⟩:=h
   obtain⟨hg,hfn⟩:=hX f az Hs u hC
   obtain⟨hal,harn⟩:=Q4z has
   refine⟨hfn,(hg w Φ (Q5m γ sel) cargs (hI.select hnd hHs) (by omega) (fun i v b hv hb=>?_)).mono ?_⟩
   ·have hi:i<args.length:=by
     have:=(List.getElem?_eq_some_iff.1 hv).1
     omega
    have har:=hr i v args[i] hv (List.getElem?_eq_getElem hi)
    rcases harn i args[i] b (List.getElem?_eq_getElem hi) hb with⟨p,hp,rfl⟩|hren
    ·exact .pv (Q1n hI har hp)
    exact har.select hI hHs hren
   rintro e w' ⟨γ',Φ',rfl,hok⟩
   obtain⟨hsl,_⟩:=Q2n hHs
   exact⟨_,Φ',rfl,hok.back hI hnd hHs (by rw[List.length_map];omega)⟩
  cases h
 cases h
theorem Q9h(hS:Q1m E O){ops:Array Oper}{Q:Exit→Act→World→Prop}{post:List Oper}:∀ (l:List Oper) (σ:St) (a:Act) (w:World),arun E O ops l σ=some σ'→Rel E γ₀ H₀ Φ₀ w₀ σ a w→
 (∀a' w',Rel E γ₀ H₀ Φ₀ w₀ σ' a' w'→wpList E.P ops Q post a' w')→wpList E.P ops Q (l++post) a w
 | [],σ,a,w,h,hR,hQ=>by
   simp only[arun,Option.some.injEq]at h
   subst h
   exact hQ a w hR
 | o::l,σ,a,w,h,hR,hQ=>by
   obtain⟨σ1,h1,h2⟩:=Option.bind_eq_some_iff.1 h
   exact wpList_step fun K hK=>Q4k hS h1 hR (fun a' w' hR'=>hK a' w' (Q9h hS l σ1 a' w' h2 hR' hQ))
variable {Q:Exit→St→Prop}
inductive Out where
 | ret (rs:List AV) (H':List AObj)
 | boom (v:Value)
def J3a(E:Env)(f:FuncId)(args:List AV)(H:List AObj):Out→Prop
 | .ret rs H'=>Good E f args H rs H'
 | .boom v=>Z8v E f args H v
def retB(E:Env)(fn:Func)(m:Nat)(extra:List Nat)(H:List AObj):Out→Exit→St→Prop
 | .ret rs H',e,σ=>retQ E fn m extra rs H' e σ
 | .boom v,e,σ=>e=.panic [{ v:=v,recovered:=false }]∧(σ.h.map xg).take m=H.map xg∧((σ.h.map xg).take m).all (AObj.ltB m)=true
theorem Z8v.of_body{f:FuncId}{fn:Func}{c:Code}(hf:E.P.funcs[f]?=some fn)(hb:fn.body=some c){args:List AV}{H:List AObj}{v:Value}(hn:args.length≤fn.ntmps)(hd0:E.dfs=[])
 (h:AW E H.length c (retB E fn H.length [] H (.boom v)) ⟨Z2e args,fn.ntmps,H⟩):Z8v E f args H v:=by
 intro w Φ γ cargs hI hl hr
 refine calls_of_wp hf hb ?_
 have hR:Rel E γ H Φ w ⟨Z2e args,fn.ntmps,H⟩ { tmps:=(⟨cargs⟩:Array Value)++Array.replicate (fn.ntmps-(⟨cargs⟩:Array Value).size) undef,defers:=[] } w:=by
  refine⟨⟨γ,Φ,.refl hI,fun i=>?_⟩,?_,hd0.symm,hI.len⟩
  ·show ARel γ H Φ w _ (args.getD i .any)
   rw[List.getD_eq_getElem?_getD]
   by_cases hi:i<args.length
   ·rw[List.getElem?_eq_getElem hi]
    have hi':i<cargs.length:=by omega
    refine hr i _ _ ?_ (List.getElem?_eq_getElem hi)
    rw[List.getElem?_eq_getElem hi']
    simp[Array.getD_eq_getD_getElem?,Array.getElem?_append,hi']
   rw[List.getElem?_eq_none (by omega)]
   exact .any _
  show((⟨cargs⟩:Array Value)++Array.replicate (fn.ntmps-(⟨cargs⟩:Array Value).size) undef).size=fn.ntmps
  simp
  omega
 refine wp_mono (h γ H Φ w _ w rfl hR) (fun e a' w' ⟨σ',hR',hQ⟩=>?_)
 obtain⟨rfl,h1,h2⟩:=hQ
 obtain⟨⟨γ',Φ',hok,_⟩,_,hd,hl0⟩:=hR'
 have hk:=hok.gone.take (Nat.le_refl _) hl0 h2
 rw[h1]at hk
 exact⟨hd.trans hd0,_,Φ',rfl,hk⟩
def Says(O:Orc)(X:XO)(f:FuncId)(args:List AV)(H:List AObj):Out→Prop
 | .ret rs H'=>O.C f args H=some (rs,H')
 | .boom v=>X f args H=some v
end
end Go.Abs
namespace Go.Abs
open Go.RowKit
structure Spec where
 f:FuncId
 α:Type
 ρ:Type
 F:α→Option ρ
 A:α→List AV×List AObj
 R:α→ρ→Out
 inj:∀x y,A x=A y→x=y
open Classical in
noncomputable def Spec.c(S:Spec)(args:List AV)(H:List AObj):Option Out:=
 if h:∃x,S.A x=(args,H)then(S.F (Classical.choose h)).map (S.R (Classical.choose h))else none
theorem Spec.c_at(S:Spec)(x:S.α):S.c (S.A x).1 (S.A x).2=(S.F x).map (S.R x):=by
 have h:∃y,S.A y=((S.A x).1,(S.A x).2):=⟨x,rfl⟩
 unfold Spec.c
 rw[dif_pos h,S.inj _ x (Classical.choose_spec h)]
theorem Spec.c_some{S:Spec}{args:List AV}{H:List AObj}{o:Out}(h:S.c args H=some o):∃x r,S.F x=some r∧S.A x=(args,H)∧S.R x r=o:=by
 unfold Spec.c at h
 split at h
 ·rename_i hx
  obtain⟨r,hr,ho⟩:=Option.map_eq_some_iff.1 h
  exact⟨_,r,hr,Classical.choose_spec hx,ho⟩
 cases h
abbrev KL:=List (FuncId×(List AV→List AObj→Option Out))
section
variable {E:Env}{K:KL}{pf:FuncId→Bool}
def K0n(E:Env)(S:Spec):Prop:=∀x r,S.F x=some r→J3a E S.f (S.A x).1 (S.A x).2 (S.R x r)
theorem K0n.c{S:Spec}(h:K0n E S)(args:List AV)(H:List AObj)(o:Out)(hc:S.c args H=some o):J3a E S.f args H o:=by
 obtain⟨x,r,hr,hA,rfl⟩:=Spec.c_some hc
 have:=h x r hr
 rw[hA]at this
 exact this
def Q0g{α β:Type}(x:Option (Int ⊕ α))(f:α→Option (Int ⊕ β)):Option (Int ⊕ β):=
 match x with
 | none=>none
 | some (.inl n)=>some (.inl n)
 | some (.inr a)=>f a
theorem Q0w{α β:Type}{x:Option (Int ⊕ α)}{f:α→Option (Int ⊕ β)}{r:Int ⊕ β}(h:Q0g x f=some r):(∃n,x=some (.inl n)∧r=.inl n)∨∃a,x=some (.inr a)∧f a=some r:=by
 unfold Q0g at h
 split at h
 ·cases h
 ·rename_i n
  injection h with h
  exact .inl ⟨n,rfl,h.symm⟩
 rename_i a
 exact .inr ⟨a,rfl,h⟩
theorem J3n{X:XO}{H:List AObj}{f:FuncId}{args:List AV}{sel:List Nat}{az:List AV}{Hs:List AObj}{v:Value}{Hn:List AObj}(h0:Q4w (Q1i H args++Q1h H (Q1i H args))=sel)(h1:Q0y H (idx sel) sel=some Hs)(h2:Q0s H (idx sel) args=some az)
 (h3:X f az Hs=some v) (h4:Q0n H sel (Hs.map xg)=Hn):Z5p X H f args=some (v,Hn):=by
 unfold Z5p
 simp only
 rw[h0,h1,h2]
 simp only
 rw[h3,h4]
end
end Go.Abs
namespace Go.Abs
open Go.RowKit
mutual
def PV.same:PV→PV→Bool
 | .bool a,.bool b=>a==b
 | .int k n,.int k' n'=>decide (k=k')&&decide (n=n')
 | .str s,.str s'=>decide (s=s')
 | .nil,.nil=>true
 | .slice xs,.slice ys=>PV.sames xs ys
 | .agg xs,.agg ys=>PV.sames xs ys
 | .ifc,.ifc=>true
 | .nilp,.nilp=>true
 | _,_=>false
def PV.sames:List PV→List PV→Bool
 | [],[]=>true
 | x::xs,y::ys=>PV.same x y&&PV.sames xs ys
 | _,_=>false
end
mutual
theorem PV.same_eq:∀ {a b:PV},PV.same a b=true→a=b
 | .bool a,b,h=>by cases b<;>simp_all [PV.same]
 | .int k n,b,h=>by cases b<;>simp_all [PV.same]
 | .str s,b,h=>by cases b<;>simp_all [PV.same]
 | .nil,b,h=>by cases b<;>simp_all [PV.same]
 | .ifc,b,h=>by cases b<;>simp_all [PV.same]
 | .nilp,b,h=>by cases b<;>simp_all [PV.same]
 | .slice xs,b,h=>by
   cases b with
   | slice ys=>exact congrArg PV.slice (PV.sames_eq (by simpa only[PV.same]using h))
   | _=>simp[PV.same]at h
 | .agg xs,b,h=>by
   cases b with
   | agg ys=>exact congrArg PV.agg (PV.sames_eq (by simpa only[PV.same]using h))
   | _=>simp[PV.same]at h
theorem PV.sames_eq:∀ {a b:List PV},PV.sames a b=true→a=b
 | [],b,h=>by cases b<;>simp_all [PV.sames]
 | x::xs,b,h=>by
   cases b with
   | nil=>simp[PV.sames]at h
   | cons y ys=>
     simp only[PV.sames,Bool.and_eq_true]at h
     rw[PV.same_eq h.1,PV.sames_eq h.2]
end
mutual
def AV.same:AV→AV→Bool
 | .any,.any=>true
 | .pv p,.pv q=>p.same q
 | .ref l o,.ref l' o'=>l==l'&&o==o'
 | .pptr xs,.pptr ys=>PV.sames xs ys
 | .vec l n,.vec l' n'=>l==l'&&n==n'
 | .vptr l n i o,.vptr l' n' i' o'=>l==l'&&n==n'&&i==i'&&o==o'
 | .mref l,.mref l'=>l==l'
 | .selfp l,.selfp l'=>l==l'
 | .nils,.nils=>true
 | .full xs,.full ys=>PV.sames xs ys
 | .tup xs,.tup ys=>AV.sames xs ys
 | .agg xs,.agg ys=>AV.sames xs ys
 | .fn f cs,.fn f' cs'=>f==f'&&cs==cs'
 | .ifc t p,.ifc t' p'=>t==t'&&p.same p'
 | _,_=>false
def AV.sames:List AV→List AV→Bool
 | [],[]=>true
 | x::xs,y::ys=>AV.same x y&&AV.sames xs ys
 | _,_=>false
end
mutual
theorem AV.same_eq:∀ {a b:AV},AV.same a b=true→a=b
 | .any,b,h=>by cases b<;>simp_all [AV.same]
 | .pv p,b,h=>by
   cases b with
   | pv q=>exact congrArg AV.pv (PV.same_eq (by simpa only[AV.same]using h))
   | _=>simp[AV.same]at h
 | .ref l o,b,h=>by cases b<;>simp_all [AV.same]
 | .pptr xs,b,h=>by
   cases b with
   | pptr q=>exact congrArg AV.pptr (PV.sames_eq (by simpa only[AV.same]using h))
   | _=>simp[AV.same]at h
 | .vec l n,b,h=>by cases b<;>simp_all [AV.same]
 | .vptr l n i o,b,h=>by cases b<;>simp_all [AV.same]
 | .mref l,b,h=>by cases b<;>simp_all [AV.same]
 | .selfp l,b,h=>by cases b<;>simp_all [AV.same]
 | .nils,b,h=>by cases b<;>simp_all [AV.same]
 | .full xs,b,h=>by
   cases b with
   | full q=>exact congrArg AV.full (PV.sames_eq (by simpa only[AV.same]using h))
   | _=>simp[AV.same]at h
 | .tup xs,b,h=>by
   cases b with
   | tup q=>exact congrArg AV.tup (AV.sames_eq (by simpa only[AV.same]using h))
   | _=>simp[AV.same]at h
 | .agg xs,b,h=>by
   cases b with
   | agg q=>exact congrArg AV.agg (AV.sames_eq (by simpa only[AV.same]using h))
   | _=>simp[AV.same]at h
 | .fn f cs,b,h=>by cases b<;>simp_all [AV.same]
 | .ifc t p,b,h=>by
   cases b with
   | ifc t' q=>
     simp only[AV.same,Bool.and_eq_true,beq_iff_eq]at h
     rw[h.1,PV.same_eq h.2]
   | _=>simp[AV.same]at h
theorem AV.sames_eq:∀ {a b:List AV},AV.sames a b=true→a=b
 | [],b,h=>by cases b<;>simp_all [AV.sames]
 | x::xs,b,h=>by
   cases b with
   | nil=>simp[AV.sames]at h
   | cons y ys=>
     simp only[AV.sames,Bool.and_eq_true]at h
     rw[AV.same_eq h.1,AV.sames_eq h.2]
end
end Go.Abs
namespace Go.Abs
open Go.RowKit
abbrev KO:=FuncId→List AV→List AObj→Option Out
inductive XR where
 | val (v:AV) (h:List AObj)
 | boom (v:Value) (h:List AObj)
end Go.Abs
namespace Go.Abs
open Go.RowKit
inductive XE where
 | normal
 | exit (id:Nat)
 | ret
 | panic (v:Value)
section
variable {E:Env}{L:KO}{k:Nat}
end
end Go.Abs
