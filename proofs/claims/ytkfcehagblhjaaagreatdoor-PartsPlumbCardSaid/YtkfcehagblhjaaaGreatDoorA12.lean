import Derived.Test.YtkfcehagblhjaaaGreatDoorA10
import Derived.Laws.OwnMore
import Derived.Maps.AppendAt
set_option linter.unusedVariables false
set_option linter.unusedSimpArgs false
set_option linter.defProp false
namespace Go.Abs
open Go.RowKit
def zAV:PV→AV
 | .slice []=>.nils
 | p=>.pv p
def ealloc(E:Env)(H:List AObj)(ty:TypeId):Option (AV×List AObj):=
 if E.bT=some ty then some (.ref H.length 0,H++[.bld []])
 else if E.pT=some ty then some (.ref H.length 0,H++[.prn E.pe1 [] E.pe2 E.psz []])
 else match E.T ty with
  | some ti=>match ti.zero with
    | some z=>some (.ref H.length 0,H++[.var (z.map zAV)])
    | none=>none
  | none=>none
def ebox(H:List AObj)(x:AV):Option (AV×List AObj):=
 match x with
 | .pv p=>some (.ref H.length 0,H++[.var (p.cells.map AV.pv)])
 | .vec l n=>some (.ref H.length 0,H++[.var [.vec l n]])
 | .ref l o=>some (.ref H.length 0,H++[.var [.ref l o]])
 | .mref l=>some (.ref H.length 0,H++[.var [.mref l]])
 | .nils=>some (.ref H.length 0,H++[.var [.nils]])
 | .full xs=>some (.ref H.length 0,H++[.var [.full xs]])
 | .agg cs=>if noS cs=true then some (.ref H.length 0,H++[.var cs])else none
 | _=>none
def argsPV(H:List AObj):List AV→Option (List PV)
 | []=>some []
 | a::r=>match toPV H a,argsPV H r with
   | some p,some s=>some (p::s)
   | _,_=>none
theorem argsPV_spec{H:List AObj}:∀ {az:List AV} {ps:List PV},argsPV H az=some ps→az.length=ps.length∧∀ (i:Nat) a p,az[i]?=some a→ps[i]?=some p→toPV H a=some p
 | [],ps,h=>by
   simp only[argsPV,Option.some.injEq]at h
   subst h
   exact⟨rfl,fun i a p ha=>by simp at ha⟩
 | a::az,ps,h=>by
   simp only[argsPV]at h
   split at h
   ·rename_i p s hp hs
    simp only[Option.some.injEq]at h
    subst h
    obtain⟨h1,h2⟩:=argsPV_spec hs
    refine⟨by simp[h1],fun i b q hb hq=>?_⟩
    cases i with
    | zero=>simp only[List.getElem?_cons_zero,Option.some.injEq]at hb hq;subst hb hq;exact hp
    | succ i=>rw[List.getElem?_cons_succ]at hb hq;exact h2 i b q hb hq
   cases h
def toPVw(H:List AObj):AV→Option PV
 | .pv p=>some p
 | .nils=>some (.slice [])
 | .full xs=>some (.slice xs)
 | .vec l n=>toPV H (.vec l n)
 | .agg vs=>(argsPV H vs).map PV.agg
 | _=>none
def eparts(H:List AObj)(sz:Nat):Nat→List (Nat×AV)→Option (List PV)
 | _,[]=>some []
 | i,(j,v)::r=>if i=j then match toPVw H v with
    | some p=>if p.cells.length=sz then(eparts H sz (i+1) r).map (p::·)else none
    | none=>none
   else none
def ebuildSlice(E:Env)(H:List AObj)(ty:TypeId)(len:Nat)(parts:List (Nat×AV)):Option (AV×List AObj):=
 match E.T ty with
 | some ⟨.slice e,_,_,_⟩=>match E.T e with
   | some te=>if parts.length=len∧len * te.size≤16777216∧te.zero.isSome=true∧te.size≠0 then match eparts H te.size 0 parts with
      | some xs=>some (.full xs,H)
      | none=>none
     else none
   | none=>none
 | _=>none
section
variable {E:Env}{γ:List Gh}{H:List AObj}{Φ:Nat→Nat→Prop}{w:World}
def Steps1(E:Env)(γ:List Gh)(H:List AObj)(Φ:Nat→Nat→Prop)(w:World)(r:AV)(H':List AObj)(u:Value)(w':World):Prop:=
 ∃γ' Φ',Ok E γ H Φ w γ' H' Φ' w'∧ARel γ' H' Φ' w' u r
theorem alloc_heap_lt(o:Obj)(b:Nat)(hb:b<w.heap.size):(w.alloc o).heap[b]?=w.heap[b]?:=heap_alloc_old w o b hb
theorem zAV_isS(p:PV):(zAV p).isS=false:=by unfold zAV;split<;>rfl
theorem zAV_rel{v:Value}{p:PV}(h:Zero1 v p){γ:List Gh}{H:List AObj}{Φ:Nat→Nat→Prop}{w:World}:ARel γ H Φ w v (zAV p):=by
 unfold zAV
 split
 ·rw[h.2.2 rfl]
  exact .nils
 exact .pv (h.2.1 Φ w)
theorem newVar_sound(hI:OInv E γ H Φ w)(t:TypeId)(vs:List Value)(cs:List AV)(hl:vs.length=cs.length)
 (hr:∀ (k:Nat) v c,vs[k]?=some v→cs[k]?=some c→v.oneCell'=true∧∀γ' H' Φ' w',Evo γ H Φ w γ' H' Φ' w'→ARel γ' H' Φ' w' v c) (hns:∀c∈cs,c.isS=false):
 Steps1 E γ H Φ w (.ref H.length 0) (H++[.var cs]) (.pointer (some ⟨w.heap.size,0,none⟩)) (w.alloc (.cells ⟨vs⟩ t)):=by
 have hnew:(w.alloc (.cells ⟨vs⟩ t)).heap[w.heap.size]?=some (.cells ⟨vs⟩ t (0,0)):=heap_alloc_new w _
 refine⟨_,Φ,hI.pushObj (fun b hb=>alloc_heap_lt _ b hb) (by simp) rfl rfl rfl (fun _ _ h=>h) (fun _ _ h _=>h) (fun b k h=>Nat.lt_of_lt_of_le (hI.phi b k h) (by simp)) ⟨.pointer (some ⟨w.heap.size,0,none⟩),[w.heap.size]⟩ (.var cs)
  (fun b hb=>by simp at hb;subst hb;exact⟨Nat.le_refl _,by simp⟩) (fun hE=>⟨w.heap.size,t,vs,rfl,rfl,hnew,hl,fun k v c hv hc=>⟨(hr k v c hv hc).1,(hr k v c hv hc).2 _ _ _ _ hE⟩,fun k hk=>?_,fun c hc hs=>by rw[hns c hc]at hs;cases hs⟩),.ref _ _ _ ?_⟩
 ·have:=hI.phi _ k hk
  omega
 unfold gv
 rw[←hI.len]
 simp
theorem ealloc_sound(hI:OInv E γ H Φ w){ty:TypeId}{r:AV}{H':List AObj}(h:ealloc E H ty=some (r,H')):
 ∃u w',(Instr.alloc ty true (.tuple #[])).run E.P w=.ok u w'∧Steps1 E γ H Φ w r H' u w':=by
 unfold ealloc at h
 split at h
 ·rename_i hty
  simp only[Option.some.injEq,Prod.mk.injEq]at h
  obtain⟨rfl,rfl⟩:=h
  have hz:=E.hbT ty hty w
  have hnew:(w.alloc (.cells #[.pointer none,.slice none 0 0] ty)).heap[w.heap.size]?=some (.cells #[.pointer none,.slice none 0 0] ty (0,0)):=heap_alloc_new w _
  refine⟨.pointer (some ⟨w.heap.size,0,none⟩),w.alloc (.cells #[.pointer none,.slice none 0 0] ty),?_,_,Φ,
   hI.pushObj (fun b hb=>alloc_heap_lt _ b hb) (by simp) rfl rfl rfl (fun _ _ h=>h) (fun _ _ h _=>h) (fun b k h=>Nat.lt_of_lt_of_le (hI.phi b k h) (by simp)) ⟨.pointer (some ⟨w.heap.size,0,none⟩),[w.heap.size]⟩ (.bld [])
    (fun b hb=>by simp at hb;subst hb;exact⟨Nat.le_refl _,by simp⟩) (fun hE=>⟨w.heap.size,.pointer none,.slice none 0 0,rfl,rfl,.inl rfl,by rw[hty];exact hnew,World.ownsRow_nil _ _ _ _,by simp[Value.ownBlock],fun k hk=>?_,fun c hc=>by simp[Value.ownBlock]at hc⟩),.ref _ _ _ ?_⟩
  ·simp[Instr.alloc,hz,newVar,newRow,Value.cells]
  ·have:=hI.phi _ k hk
   omega
  unfold gv
  rw[←hI.len]
  simp
 split at h
 ·rename_i hty
  simp only[Option.some.injEq,Prod.mk.injEq]at h
  obtain⟨rfl,rfl⟩:=h
  have hz:=E.hpT ty hty w
  have hnew:(w.alloc (.cells #[.pointer none,.slice none 0 0,.slice none 0 0] ty)).heap[w.heap.size]?=some (.cells #[.pointer none,.slice none 0 0,.slice none 0 0] ty (0,0)):=heap_alloc_new w _
  refine⟨.pointer (some ⟨w.heap.size,0,none⟩),w.alloc (.cells #[.pointer none,.slice none 0 0,.slice none 0 0] ty),?_,_,Φ,
   hI.pushObj (fun b hb=>alloc_heap_lt _ b hb) (by simp) rfl rfl rfl (fun _ _ h=>h) (fun _ _ h _=>h) (fun b k h=>Nat.lt_of_lt_of_le (hI.phi b k h) (by simp)) ⟨.pointer (some ⟨w.heap.size,0,none⟩),[w.heap.size]⟩ (.prn E.pe1 [] E.pe2 E.psz [])
    (fun b hb=>by simp at hb;subst hb;exact⟨Nat.le_refl _,by simp⟩) (fun hE=>⟨w.heap.size,.pointer none,.slice none 0 0,.slice none 0 0,rfl,rfl,by simp,by rw[hty];exact hnew,.inl rfl,fun k hk=>?_,World.ownsRowF_nil _ _ _ _,fun c hc=>by simp[Value.ownBlock]at hc,
      ⟨[],World.ownsRow_nil _ _ _ _,rfl,fun k v c hv _=>by simp at hv,fun z hz=>(by cases hz),fun c hc=>by simp[flat_nil]at hc,rfl,E.hpz,fun b hb=>by cases hb⟩⟩),.ref _ _ _ ?_⟩
  ·simp[Instr.alloc,hz,newVar,newRow,Value.cells]
  ·have:=hI.phi _ k hk
   omega
  unfold gv
  rw[←hI.len]
  simp
 split at h
 ·rename_i ti hT
  split at h
  ·rename_i z hz
   simp only[Option.some.injEq,Prod.mk.injEq]at h
   obtain⟨rfl,rfl⟩:=h
   obtain⟨i,d,hi,hs,_,hd,hk,hzz⟩:=(E.hT _ _ hT).info
   obtain⟨zv,hzv,hzl,_,hzr,_⟩:=hzz z hz
   have hzrun:(zeroValue ty).run E.P w=.ok zv w:=by simp[zeroValue,typeInfo,hi,hzv]
   refine⟨_,_,?_,newVar_sound hI ty zv.cells.toList (z.map zAV) (by simpa using hzl) (fun k v c hv hc=>?_) (fun c hc=>by obtain⟨p,_,rfl⟩:=List.mem_map.1 hc;exact zAV_isS p)⟩
   ·simp[Instr.alloc,hzrun,newVar,newRow]
   rw[List.getElem?_map]at hc
   obtain⟨p,hp,rfl⟩:=Option.map_eq_some_iff.1 hc
   have h1:=hzr k v p hv hp
   exact⟨(h1.2.1 Φ w).one h1.1,fun _ _ _ _ _=>zAV_rel h1⟩
  cases h
 cases h
theorem arel_one{v:Value}{a:AV}(h:ARel γ H Φ w v a)(ha:∀p,a≠.pv p)(ht:∀vs,a≠.tup vs)(hn:a≠.any)(hg:∀vs,a≠.agg vs):v.oneCell'=true:=by
 cases h<;>first|rfl|exact absurd rfl (ha _)|exact absurd rfl (ht _)|exact absurd rfl hn|exact absurd rfl (hg _)
theorem ebox_sound(hI:OInv E γ H Φ w){ty:TypeId}{v:Value}{x r:AV}{H':List AObj}(hx:ARel γ H Φ w v x)(h:ebox H x=some (r,H')):
 ∃u w',(Instr.box ty v).run E.P w=.ok u w'∧Steps1 E γ H Φ w r H' u w':=by
 have run:(Instr.box ty v).run E.P w=.ok (.pointer (some ⟨w.heap.size,0,none⟩)) (w.alloc (.cells v.cells ty)):=by simp[Instr.box,newVar,newRow]
 have single:v.cells=#[v]→(∀p,x≠.pv p)→(∀vs,x≠.tup vs)→x≠.any→(∀vs,x≠.agg vs)→x.isS=false→some (AV.ref H.length 0,H++[.var [x]])=some (r,H')→∃u w',(Instr.box ty v).run E.P w=.ok u w'∧Steps1 E γ H Φ w r H' u w':=by
  intro hc h1 h2 h3 h5 h6 h4
  simp only[Option.some.injEq,Prod.mk.injEq]at h4
  obtain⟨rfl,rfl⟩:=h4
  refine⟨_,_,run,?_⟩
  rw[hc]
  exact newVar_sound hI ty [v] [x] rfl (fun k a c ha hcc=>by
   match k,ha,hcc with
   | 0,ha,hcc=>
     simp at ha hcc
     subst ha hcc
     exact⟨arel_one hx h1 h2 h3 h5,fun _ _ _ _ hE=>hx.mono hE⟩
   | k+1,ha,hcc=>simp at ha) (fun c hc=>by rw[List.mem_singleton.1 hc];exact h6)
 cases hx with
 | @pv v p hp=>
   simp only[ebox,Option.some.injEq,Prod.mk.injEq]at h
   obtain⟨rfl,rfl⟩:=h
   obtain⟨hl,h1,hr⟩:=rep_cells hp
   refine⟨_,_,run,newVar_sound hI ty v.cells.toList (p.cells.map AV.pv) (by simpa using hl) (fun k a c ha hc=>?_) (fun c hc=>by obtain⟨q,_,rfl⟩:=List.mem_map.1 hc;rfl)⟩
   rw[List.getElem?_map]at hc
   obtain⟨q,hq,rfl⟩:=Option.map_eq_some_iff.1 hc
   have hrep:=hr k a q ha hq
   exact⟨hrep.one (h1 q (List.mem_of_getElem? hq)),fun _ _ _ _ hE=>.pv (hrep.mono hE.phi hE.cell)⟩
 | vec=>exact single rfl (by simp) (by simp) (by simp) (by simp) rfl h
 | ref=>exact single rfl (by simp) (by simp) (by simp) (by simp) rfl h
 | mref=>exact single rfl (by simp) (by simp) (by simp) (by simp) rfl h
 | selfp=>simp[ebox]at h
 | nils=>exact single rfl (by simp) (by simp) (by simp) (by simp) rfl h
 | full=>exact single rfl (by simp) (by simp) (by simp) (by simp) rfl h
 | agg ws vs hl h1 hr=>
   simp only[ebox]at h
   split at h
   ·rename_i hns
    simp only[Option.some.injEq,Prod.mk.injEq]at h
    obtain⟨rfl,rfl⟩:=h
    exact⟨_,_,run,newVar_sound hI ty ws vs hl (fun k a c ha hc=>⟨h1 a (List.mem_of_getElem? ha),fun _ _ _ _ hE=>(hr k a c ha hc).mono hE⟩) (noS_mem hns)⟩
   cases h
 | any=>simp[ebox]at h
 | ifc=>simp[ebox]at h
 | pptr=>simp[ebox]at h
 | vptr=>simp[ebox]at h
 | tup=>simp[ebox]at h
 | fn=>simp[ebox]at h
theorem run_newRow(e:TypeId)(cs:Array Value):(newRow e cs).run E.P w=.ok ⟨w.heap.size,0,none⟩ (w.alloc (.cells cs e)):=rfl
theorem fillSeq(sz:Nat):∀ (vparts:List (Nat×Value)) (i:Nat) (cs:Array Value),(∀ (j:Nat) p,vparts[j]?=some p→p.1=i+j∧p.2.cells.size=sz)→(i+vparts.length) * sz≤cs.size→
 ∃us,Instr.fill (fun i=>some (i * sz,sz)) cs vparts=some us∧us.size=cs.size∧us.toList.take ((i+vparts.length) * sz)=cs.toList.take (i * sz)++vparts.flatMap fun p=>p.2.cells.toList
 | [],i,cs,_,_=>⟨cs,rfl,rfl,by simp⟩
 | (i',v)::r,i,cs,hp,hs=>by
   obtain⟨he,hv⟩:=hp 0 (i',v) rfl
   simp only[Nat.add_zero]at he
   subst he
   have hv:v.cells.size=sz:=hv
   simp only[List.length_cons]at hs
   have hmul:i' * sz+sz≤cs.size:=by
    have:=Nat.mul_le_mul_right sz (show i'+1≤i'+(r.length+1) from by omega)
    rw[Nat.succ_mul]at this
    omega
   obtain⟨f1,f2⟩:=fill_put (i' * sz) v.cells.toList 0 cs (by simp only[Array.length_toList];omega)
   have hfold:v.cells.zipIdx.foldl (fun cs (c,j)=>cs.setIfInBounds (i' * sz+j) c) cs=(v.cells.toList.zipIdx 0).foldl (fun cs (c,j)=>cs.setIfInBounds (i' * sz+j) c) cs:=by
    rw[←Array.foldl_toList,Array.toList_zipIdx]
   have hstep:Instr.fill (fun i=>some (i * sz,sz)) cs ((i',v)::r)=Instr.fill (fun i=>some (i * sz,sz)) ((v.cells.toList.zipIdx 0).foldl (fun cs (c,j)=>cs.setIfInBounds (i' * sz+j) c) cs) r:=by
    rw[←hfold]
    simp only[Instr.fill]
    rw[if_neg]
    simp only[hv,ne_eq,not_true_eq_false,decide_false,Bool.false_or,decide_eq_true_eq]
    omega
   generalize hcs':(v.cells.toList.zipIdx 0).foldl (fun cs (c,j)=>cs.setIfInBounds (i' * sz+j) c) cs=cs' at hstep f1 f2
   obtain⟨us,hus,hsize,htake⟩:=fillSeq sz r (i'+1) cs' (fun j p hj=>by
    have:=hp (j+1) p (by simpa using hj)
    exact⟨by omega,this.2⟩) (by rw[f1,show i'+1+r.length=i'+(r.length+1) from by omega];exact hs)
   refine⟨us,by rw[hstep,hus],by rw[hsize,f1],?_⟩
   rw[List.length_cons,show i'+(r.length+1)=i'+1+r.length from by omega,htake,List.flatMap_cons,←List.append_assoc]
   congr 1
   refine List.ext_getElem? fun k=>?_
   have hvl:v.cells.toList.length=sz:=by simpa using hv
   have hlen:(cs.toList.take (i' * sz)).length=i' * sz:=by rw[List.length_take,Array.length_toList];omega
   rw[List.getElem?_take]
   by_cases hk:k<(i'+1) * sz
   ·rw[if_pos hk,Array.getElem?_toList,f2 k]
    rw[Nat.succ_mul]at hk
    by_cases hk2:i' * sz≤k
    ·rw[if_pos ⟨by omega,by omega⟩,List.getElem?_append_right (by omega),hlen]
     congr 1
    rw[if_neg (by omega),List.getElem?_append_left (by omega),List.getElem?_take,if_pos (by omega),Array.getElem?_toList]
   rw[if_neg hk]
   rw[Nat.succ_mul]at hk
   have hvl':((i',v).snd.cells.toList).length=sz:=hvl
   rw[List.getElem?_eq_none (by rw[List.length_append];omega)]
theorem toPVw_rep(hI:OInv E γ H Φ w){v:Value}{a:AV}{p:PV}(h:ARel γ H Φ w v a)(hp:toPVw H a=some p):Rep Φ w v p:=by
 cases a with
 | agg vs=>
   simp only[toPVw]at hp
   obtain⟨ps,hps,rfl⟩:=Option.map_eq_some_iff.1 hp
   obtain⟨e1,e2⟩:=argsPV_spec hps
   cases h with
   | agg ws vs hl h1 hr=>
     refine .agg ws ps (by omega) (fun c hc=>?_) (fun k u c hu hc=>?_)
     ·obtain⟨k,hk,rfl⟩:=List.getElem_of_mem hc
      have hv:vs[k]?=some (vs[k]'(by omega)):=List.getElem?_eq_getElem (by omega)
      have hw:ws[k]?=some (ws[k]'(by omega)):=List.getElem?_eq_getElem (by omega)
      have hrep:=toPV_rep hI (hr k _ _ hw hv) (e2 k _ _ hv (List.getElem?_eq_getElem hk))
      have h1c:=h1 _ (List.mem_of_getElem? hw)
      generalize ws[k]=u at hrep h1c
      generalize ps[k]=q at hrep
      cases hrep<;>first|rfl|(simp[Value.oneCell']at h1c)
     have hk:k<vs.length:=by
      have:=(List.getElem?_eq_some_iff.1 hc).1
      omega
     exact toPV_rep hI (hr k u _ hu (List.getElem?_eq_getElem hk)) (e2 k _ c (List.getElem?_eq_getElem hk) hc)
 | vec l n=>exact toPV_rep hI h hp
 | pv q=>exact toPV_rep hI h hp
 | nils=>exact toPV_rep hI h hp
 | full xs=>exact toPV_rep hI h hp
 | _=>simp[toPVw]at hp
theorem eparts_sound(hI:OInv E γ H Φ w)(sz:Nat):∀ (parts:List (Nat×AV)) (vparts:List (Nat×Value)) (i:Nat) (xs:List PV),vparts.length=parts.length→
 (∀ (j:Nat) (p:Nat×AV) (q:Nat×Value),parts[j]?=some p→vparts[j]?=some q→q.1=p.1∧ARel γ H Φ w q.2 p.2)→eparts H sz i parts=some xs→
 xs.length=parts.length∧(∀x∈xs,x.cells.length=sz)∧(∀ (j:Nat) p,vparts[j]?=some p→p.1=i+j∧p.2.cells.size=sz)∧CellsRel Φ w (vparts.flatMap fun p=>p.2.cells.toList) (flat xs)
 | [],vparts,i,xs,hl,_,h=>by
   simp only[eparts,Option.some.injEq]at h
   subst h
   cases vparts with
   | nil=>exact⟨rfl,fun x hx=>(by cases hx),fun j p hp=>(by simp at hp),⟨rfl,fun c hc=>(by simp[flat_nil]at hc),fun k v c hv _=>(by simp at hv)⟩⟩
   | cons a b=>simp at hl
 | (j,v)::parts,[],i,xs,hl,_,_=>by simp at hl
 | (j,v)::parts,(j',v')::vparts,i,xs,hl,hrel,h=>by
   simp only[eparts]at h
   split at h
   ·rename_i hij
    subst hij
    split at h
    ·rename_i p hp
     split at h
     ·rename_i hsz
      obtain⟨ys,hys,rfl⟩:=Option.map_eq_some_iff.1 h
      obtain⟨he,hr⟩:=hrel 0 (i,v) (j',v') rfl rfl
      simp only at he
      subst he
      obtain⟨h1,h2,h3,h4⟩:=eparts_sound hI sz parts vparts (j'+1) ys (by simpa using hl) (fun j a b ha hb=>hrel (j+1) a b (by simpa using ha) (by simpa using hb)) hys
      obtain⟨c1,c2,c3⟩:=rep_cells (toPVw_rep hI hr hp)
      refine⟨by simp[h1],fun x hx=>?_,fun k q hq=>?_,⟨?_,fun c hc=>?_,fun k u c hu hc=>?_⟩⟩
      ·rcases List.mem_cons.1 hx with rfl|hx
       ·exact hsz
       exact h2 x hx
      ·cases k with
       | zero=>
         simp only[List.getElem?_cons_zero,Option.some.injEq]at hq
         subst hq
         exact⟨rfl,by rw[←hsz,←c1];simp⟩
       | succ k=>
         have:=h3 k q (by simpa using hq)
         exact⟨by omega,this.2⟩
      ·rw[List.flatMap_cons,flat_cons,List.length_append,List.length_append,c1,h4.1]
      ·rw[flat_cons]at hc
       rcases List.mem_append.1 hc with hc|hc
       ·exact c2 c hc
       exact h4.2.1 c hc
      rw[List.flatMap_cons]at hu
      rw[flat_cons]at hc
      by_cases hk:k<p.cells.length
      ·rw[List.getElem?_append_left (by omega)]at hu
       rw[List.getElem?_append_left hk]at hc
       exact c3 k u c hu hc
      rw[List.getElem?_append_right (by omega)]at hu
      rw[List.getElem?_append_right (by omega)]at hc
      exact h4.2.2 _ u c (by rw[←c1];exact hu) hc
     cases h
    cases h
   cases h
theorem newBlock_ok(hI:OInv E γ H Φ w)(cs:Array Value)(e:TypeId)(n:Nat):
 Ok E γ H Φ w γ H (fun b k=>Φ b k∨(b=w.heap.size∧k<n)) (w.alloc (.cells cs e)):=by
 refine hI.grow (fun b hb=>alloc_heap_lt _ b hb) (by simp) rfl rfl rfl (fun _ _ h=>.inl h) (fun b k h hb=>?_) (fun b k h=>?_)
 ·rcases h with h|⟨rfl,_⟩
  ·exact h
  omega
 rcases h with h|⟨rfl,_⟩
 ·exact Nat.lt_of_lt_of_le (hI.phi b k h) (by simp)
 simp
theorem ebuildSlice_sound(hI:OInv E γ H Φ w){ty:TypeId}{len:Nat}{parts:List (Nat×AV)}{vparts:Array (Nat×Value)}(hl:vparts.size=parts.length)
 (hrel:∀ (j:Nat) (p:Nat×AV) (q:Nat×Value),parts[j]?=some p→vparts[j]?=some q→q.1=p.1∧ARel γ H Φ w q.2 p.2) {r:AV} {H':List AObj} (h:ebuildSlice E H ty len parts=some (r,H')):
 ∃u w',(Instr.buildSlice ty len vparts).run E.P w=.ok u w'∧Steps1 E γ H Φ w r H' u w':=by
 unfold ebuildSlice at h
 split at h
 ·rename_i e _ _ _ hT
  split at h
  ·rename_i te hTe
   split at h
   ·rename_i hc
    obtain⟨hpl,hbig,hzs,hs0⟩:=hc
    split at h
    ·rename_i xs hxs
     simp only[Option.some.injEq,Prod.mk.injEq]at h
     obtain⟨rfl,rfl⟩:=h
     obtain⟨d,hd,hk⟩:=(E.hT _ _ hT).und
     rw[tk_slice hk]at hd
     obtain⟨i,d',hi,his,_,hd',hk',hz⟩:=(E.hT _ _ hTe).info
     obtain⟨z,hzz⟩:=Option.isSome_iff_exists.1 hzs
     obtain⟨zv,hzv,hzl,hzn,_⟩:=hz z hzz
     obtain⟨e1,e2,e3,e4⟩:=eparts_sound hI te.size parts vparts.toList 0 xs (by simpa using hl) (fun j p q hp hq=>hrel j p q hp (by simpa using hq)) hxs
     have hvl:vparts.toList.length=len:=by rw[Array.length_toList];omega
     generalize hbase:(Array.range (len * te.size)).map ((if len * te.size=0 then #[]else zv.cells)[· % (if len * te.size=0 then #[]else zv.cells).size]!)=base
     have hbs:base.size=len * te.size:=by rw[←hbase];simp
     obtain⟨us,hus,husz,hut⟩:=fillSeq te.size vparts.toList 0 base e3 (by rw[hvl,hbs];simp)
     have hul:us.toList=vparts.toList.flatMap fun p=>p.2.cells.toList:=by
      rw[Nat.zero_add,hvl,Nat.zero_mul,List.take_zero,List.nil_append,List.take_of_length_le (by simp[husz,hbs])]at hut
      exact hut
     have hfl:=flat_length e2
     have hmax:len≤maxLen:=by
      have:len≤len * te.size:=Nat.le_mul_of_pos_right _ (by omega)
      unfold maxLen
      omega
     refine⟨.slice (some ⟨w.heap.size,0,none⟩) len len,w.alloc (.cells us e),?_,γ,_,newBlock_ok hI us e (len * te.size),.full _ _ _ (.slice w.heap.size 0 len len te.size xs (fun k=>us.toList.getD k undef) (by omega) (Nat.le_refl _) hmax e2 e4.2.1 (fun k hk=>?_) (fun k c hc=>?_))⟩
     ·have hbig':¬ len * i.size>2 ^ 24:=by rw[his];omega
      unfold Instr.buildSlice
      simp only[bind,Sem.run_bind',run_underlying hd,Result.andThen_ok,run_sizeOf hi,hbig',if_false]
      rw[his]
      have hz1:(zeroValue e).run E.P w=.ok zv w:=by simp[zeroValue,typeInfo,hi,hzv]
      by_cases hz0:len * te.size=0
      ·rw[if_pos hz0]at hbase ⊢
       simp only[Sem.run_bind',Sem.run_pure,Result.andThen_ok]
       rw[hbase,hus]
       simp only[Sem.run_bind',run_newRow,Result.andThen_ok,Sem.run_pure]
      rw[if_neg hz0]at hbase ⊢
      simp only[Sem.run_bind',Sem.run_pure,Result.andThen_ok,hz1]
      rw[hbase,hus]
      simp only[Sem.run_bind',run_newRow,Result.andThen_ok,Sem.run_pure]
     ·rw[hfl]at hk
      have hk':k<us.toList.length:=by rw[Array.length_toList,husz,hbs];rw[←hpl,←e1];exact hk
      refine⟨.inr ⟨rfl,by rw[Nat.zero_add,←hpl,←e1];exact hk⟩,?_⟩
      rw[Nat.zero_add,cell_of_row _ _ _ _ _ _ (heap_alloc_new w (.cells us e)),List.getD_eq_getElem?_getD,Array.getElem?_toList]
      rw[Array.length_toList]at hk'
      simp[Array.getElem?_eq_getElem hk']
     have hk:k<(flat xs).length:=(List.getElem?_eq_some_iff.1 hc).1
     have hk':k<us.toList.length:=by rw[hul,e4.1];exact hk
     rw[List.getD_eq_getElem?_getD,List.getElem?_eq_getElem hk']
     refine(e4.2.2 k _ c ?_ hc).mono (fun _ _ h=>.inl h) (fun b k h=>cell_of_heap (alloc_heap_lt _ b (hI.phi b k h)))
     rw[←hul,List.getElem?_eq_getElem hk']
     rfl
    cases h
   cases h
  cases h
 cases h
end
end Go.Abs
namespace Go.Abs
open Go.RowKit
structure Grew(w w':World)(v v':Value):Prop where
 os:w'.os=w.os
 tape:w'.tape=w.tape
 output:w'.output=w.output
 size:w.heap.size≤w'.heap.size
 way:(v'.ownBlock=some w.heap.size∧w.heap.size<w'.heap.size∧∀b,b<w.heap.size→w'.heap[b]?=w.heap[b]?) ∨
  (v'.ownBlock=v.ownBlock∧w'.heap.size=w.heap.size∧∀b,some b≠v.ownBlock→w'.heap[b]?=w.heap[b]?)
def eappend(E:Env)(H:List AObj)(ty:TypeId)(x y:AV):Option (AV×List AObj):=
 match E.T ty with
 | some ⟨.slice e,_,_,_⟩=>match E.T e,toPV H y with
   | some te,some (.slice ys)=>
     if te.size≠0∧te.bytes≠0∧te.zero.isSome=true∧(ys.all fun z=>z.cells.length==te.size)=true then
      match x with
      | .nils=>if ys.length * te.bytes≤140737488355328 then some (.vec H.length ys.length,H++[.row e te.size ys (!E.nfz ty)])else none
      | .pv .snil=>if ys.length * te.bytes≤140737488355328 then some (.vec H.length ys.length,H++[.row e te.size ys (!E.nfz ty)])else none
      | .full xs=>if (xs.length+ys.length) * te.bytes≤140737488355328∧ys.isEmpty=false∧(xs.all fun z=>z.cells.length==te.size)=true then
         some (.vec H.length (xs.length+ys.length),H++[.row e te.size (xs++ys) (!E.nfz ty)])else none
      | .vec l n=>match H[l]? with
        | some (.row e' sz xs fz)=>if n=xs.length∧e'=e∧sz=te.size∧(xs.length+ys.length) * te.bytes≤140737488355328 then
           some (.vec l (xs.length+ys.length),H.set l (.row e' sz (xs++ys) fz))else none
        | _=>none
      | _=>none
     else none
   | _,_=>none
 | _=>none
section
variable {P:Program}{w:World}
def Src(w:World)(size m:Nat)(v:Value)(news:List Value):Prop:=
 news.length=m * size∧(∀u∈news,u.oneCell'=true)∧((v=.slice none 0 0∧m=0)∨∃a c,v=.slice (some a) m c∧∀ (j:Nat) u,news[j]?=some u→w.cell? (a.add j)=some u)
theorem append_nothing(t ty e:TypeId)(i:TypeInfo)(ht:P.underlying t=some (.slice e))(hi:P.info? e=some i)(A:Option Addr)(n cap:Nat)(hn:n≤cap):
 (Builtin.append_ #[t,t] ty #[.slice A n cap,.slice none 0 0]).run P w=.ok (.slice A n cap) w:=by
 cases A<;>simp[Builtin.append_,run_underlying ht,sizeOf,typeInfo,hi,Builtin.lenOf,Builtin.firstCells,hn,storeCells]
theorem grownRow(e:TypeId)(i:TypeInfo)(z:Value)(hzs:z.cells.size=i.size)(xs news:List Value)(n m old:Nat)(hx:xs.length=n * i.size)(hl:news.length=m * i.size)(h63:n+m≤maxLen):
 (w.drew.alloc (.cells (xs.toArray++news.toArray++Builtin.zeroCells z.cells (grownCap w (n+m) old e-(n+m))) e)).ownsRow 0 e i.size
   (.slice (some ⟨w.heap.size,0,none⟩) (n+m) (grownCap w (n+m) old e)) (n+m) (xs++news):=by
 have hlen:(xs++news).length=(n+m) * i.size:=by rw[List.length_append,hx,hl,Nat.add_mul]
 have hge:=grownCap_ge w (n+m) old e
 refine⟨hlen,.inr ⟨w.heap.size,_,_,rfl,Nat.zero_le _,heap_alloc_new w.drew _,hge,grownCap_le_maxLen w (n+m) old e h63,?_,?_⟩⟩
 ·simp only[Array.size_append,List.size_toArray,size_zeroCells,hzs,hx,hl,←Nat.add_mul]
  congr 1
  omega
 simp only[Array.toList_append,List.append_assoc]
 rw[←List.append_assoc,←hlen]
 exact List.take_left
theorem grew_new(v:Value)(cs:Array Value)(e:TypeId)(n c:Nat):Grew w (w.drew.alloc (.cells cs e)) v (.slice (some ⟨w.heap.size,0,none⟩) n c):=
 ⟨rfl,rfl,rfl,by simp,.inl ⟨rfl,by simp,fun b hb=>heap_alloc_old w.drew _ b hb⟩⟩
theorem append_own(t ty e:TypeId)(i:TypeInfo)(z:Value)(ht:P.underlying t=some (.slice e))(hi:P.info? e=some i)(hz:i.zero=some z)(hzs:z.cells.size=i.size)
 (v:Value) (n:Nat) (xs:List Value) (hown:w.ownsRow 0 e i.size v n xs) (x:Value) (m:Nat) (news:List Value) (hsrc:Src w i.size m x news)
 (h63:n+m≤maxLen) (hbytes:(n+m) * i.bytes≤140737488355328):
 ∃v' w',(Builtin.append_ #[t,t] ty #[v,x]).run P w=.ok v' w'∧w'.ownsRow 0 e i.size v' (n+m) (xs++news)∧Grew w w' v v'∧(m=0→v'=v):=by
 obtain⟨hl,h1,hx⟩:=hsrc
 have hsmall:n+m≤9223372036854775807:=by unfold maxLen at h63;omega
 rcases hx with⟨rfl,rfl⟩|⟨a,c,rfl,hnews⟩
 ·have hnil:news=[]:=List.eq_nil_of_length_eq_zero (by simpa using hl)
  subst hnil
  refine⟨v,w,?_,by simpa using hown,⟨rfl,rfl,rfl,Nat.le_refl _,.inr ⟨rfl,rfl,fun _ _=>rfl⟩⟩,fun _=>rfl⟩
  rcases hown.2 with⟨rfl,rfl⟩|⟨g,cap,cur,rfl,_,_,hnc,_⟩
  ·exact append_nothing t ty e i ht hi none 0 0 (Nat.le_refl _)
  exact append_nothing t ty e i ht hi _ n cap hnc
 rcases hown.2 with⟨rfl,rfl⟩|⟨g,cap,cur,rfl,hbg,hg,hnc,hcm,hcs,htake⟩
 ·have hx:xs=[]:=List.eq_nil_of_length_eq_zero (by simpa using hown.1)
  subst hx
  by_cases hm:m=0
  ·subst hm
   have hn:news=[]:=List.eq_nil_of_length_eq_zero (by simpa using hl)
   subst hn
   refine⟨.slice none 0 0,w,?_,World.ownsRow_nil w 0 e i.size,⟨rfl,rfl,rfl,Nat.le_refl _,.inr ⟨rfl,rfl,fun _ _=>rfl⟩⟩,fun _=>rfl⟩
   simp[Builtin.append_,run_underlying ht,sizeOf,typeInfo,hi,Builtin.lenOf,Builtin.firstCells,loadCells,loadCellsFrom]
  have hr:=run_append_nil (P:=P) w t ty e i z ht hi hz a m c news hl hnews (by omega) (by omega) (by have hb:=hbytes;simp only[Nat.zero_add]at hb;omega)
  have hgr:=grownRow (w:=w) e i z hzs [] news 0 m 0 (by simp) hl h63
  simp only[Nat.zero_add,List.nil_append,Array.empty_append]at hgr ⊢
  exact⟨_,_,hr,hgr,grew_new _ _ _ _ _,fun h=>absurd h hm⟩
 by_cases hroom:n+m≤cap
 ·have hfit:n * i.size+news.length≤cur.size:=by rw[hl,hcs,←Nat.add_mul];exact Nat.mul_le_mul_right _ hroom
  have hr:=run_append_room (P:=P) w t ty e i ht hi g n cap cur hg a m c news hl hnews h1 hroom hfit
  have hlen:(xs++news).length=(n+m) * i.size:=by rw[List.length_append,hown.1,hl,Nat.add_mul]
  refine⟨_,_,hr,⟨hlen,.inr ⟨g,cap,_,rfl,hbg,setRow_heap w g cur _ e _ hg,hroom,hcm,?_,?_⟩⟩,⟨rfl,rfl,rfl,by simp,.inr ⟨rfl,by simp,fun b hb=>setRow_other w g b _ (fun e=>hb (by simp[Value.ownBlock,e]))⟩⟩,fun h=>by rw[h];rfl⟩
  ·simp only[List.size_toArray,List.length_append,List.length_take,List.length_drop,Array.length_toList]
   omega
  rw[htake,←hlen]
  exact List.take_left
 have holds:∀ (j:Nat) u,xs[j]?=some u→w.cell? ((⟨g,0,none⟩:Addr).add j)=some u:=hown.cells (g:=g) rfl
 have hr:=run_append_grow (P:=P) w t ty e i z ht hi hz ⟨g,0,none⟩ n cap xs hown.1 holds a m c news hl hnews (by omega) (by omega) (growslice_fits (by omega) hbytes)
 exact⟨_,_,hr,grownRow e i z hzs xs news n m cap hown.1 hl h63,grew_new _ _ _ _ _,fun h=>by omega⟩
theorem append_full(t ty e:TypeId)(i:TypeInfo)(z:Value)(ht:P.underlying t=some (.slice e))(hi:P.info? e=some i)(hz:i.zero=some z)(hzs:z.cells.size=i.size)
 (v:Value) (n:Nat) (xs:List Value) (hx:Src w i.size n v xs) (hfull:∃A,v=.slice A n n) (x:Value) (m:Nat) (news:List Value) (hsrc:Src w i.size m x news) (hm:0<m)
 (h63:n+m≤maxLen) (hbytes:(n+m) * i.bytes≤140737488355328):
 ∃v' w',(Builtin.append_ #[t,t] ty #[v,x]).run P w=.ok v' w'∧w'.ownsRow 0 e i.size v' (n+m) (xs++news)∧Grew w w' (.slice none 0 0) v':=by
 obtain⟨hl,h1,hx2⟩:=hsrc
 obtain⟨hxl,_,hxx⟩:=hx
 obtain⟨A,rfl⟩:=hfull
 have hsmall:n+m≤9223372036854775807:=by unfold maxLen at h63;omega
 rcases hx2 with⟨_,rfl⟩|⟨a,c,rfl,hnews⟩
 ·omega
 rcases hxx with⟨he,rfl⟩|⟨b,c',he,holds⟩
 ·injection he with he
  subst he
  have hx:xs=[]:=List.eq_nil_of_length_eq_zero (by simpa using hxl)
  subst hx
  have hr:=run_append_nil (P:=P) w t ty e i z ht hi hz a m c news hl hnews (by omega) (by omega) (by have hb:=hbytes;simp only[Nat.zero_add]at hb;omega)
  have hgr:=grownRow (w:=w) e i z hzs [] news 0 m 0 (by simp) hl h63
  simp only[Nat.zero_add,List.nil_append,Array.empty_append]at hgr ⊢
  exact⟨_,_,hr,hgr,grew_new _ _ _ _ _⟩
 injection he with he
 subst he
 have hr:=run_append_grow (P:=P) w t ty e i z ht hi hz b n n xs hxl holds a m c news hl hnews (by omega) (by omega) (growslice_fits (by omega) hbytes)
 exact⟨_,_,hr,grownRow e i z hzs xs news n m n hxl hl h63,grew_new _ _ _ _ _⟩
end
end Go.Abs
