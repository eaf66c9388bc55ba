import Derived.Test.YtkfcehagblhjaaaGreatDoorA15
import GoSem.Core.Utf8
set_option linter.unusedVariables false
set_option linter.unusedSimpArgs false
set_option linter.defProp false
namespace Go.Abs
open Go.RowKit
def runeC(s:List UInt8)(p:Nat):Int:=((Utf8.decode ⟨⟨s⟩⟩ p).1:Int)
def runeN(s:List UInt8)(p:Nat):Nat:=p+(Utf8.decode ⟨⟨s⟩⟩ p).2
def erange(E:Env)(H:List AObj)(ty:TypeId)(x:AV):Option (AV×List AObj):=
 match E.T ty,x with
 | some ⟨.str,_,_,_⟩,.pv (.str s)=>some (.ref H.length 0,H++[.iter s 0])
 | _,_=>none
def enext(H:List AObj)(x:AV)(isString:Bool):Option (AV×List AObj):=
 match x,isString with
 | .ref l 0,true=>match H[l]? with
   | some (.iter s p)=>if p<s.length then some (.tup [.pv (.bool true),.pv (.int .i64 p),.pv (.int .i32 (runeC s p))],H.set l (.iter s (runeN s p)))else some (.tup [.pv (.bool false)],H)
   | _=>none
 | _,_=>none
def imin(x y:Int):Int:=if y<x then y else x
def imax(x y:Int):Int:=if y>x then y else x
def mm2(mx:Bool):AV→AV→Option AV
 | .pv (.int k x),.pv (.int _ y)=>some (.pv (.int k (bif mx then imax x y else imin x y)))
 | _,_=>none
def mmL(mx:Bool):AV→List AV→Option AV
 | a,[]=>some a
 | a,b::r=>match mm2 mx a b with
   | some c=>mmL mx c r
   | none=>none
def qmm(mx:Bool):List AV→Option AV
 | a::b::r=>mmL mx a (b::r)
 | _=>none
def cellsAV:AV→Option (List AV)
 | .pv p=>some (p.cells.map .pv)
 | .nils=>some [.nils]
 | .vec l n=>some [.vec l n]
 | .ref l o=>some [.ref l o]
 | .mref l=>some [.mref l]
 | .full xs=>some [.full xs]
 | _=>none
def qfillA(fs:List (Nat×Nat)):List AV→List (Nat×AV)→Option (List AV)
 | cs,[]=>some cs
 | cs,(f,v)::r=>match fs[f]?,cellsAV v with
   | some (off,sz),some us=>if us.length=sz∧off+sz≤cs.length then qfillA fs (cs.take off++us++cs.drop (off+us.length)) r else none
   | _,_=>none
def qbuildA(T:Nat→Option TI)(t:TypeId)(parts:List (Nat×AV)):Option AV:=
 match T t with
 | some ⟨.strct (f0::fs),_,_,some z⟩=>(qfillA (f0::fs) (z.map zAV) parts).map .agg
 | _=>none
def onePV:AV→Bool
 | .pv p=>p.one
 | _=>true
def qbuildA2(E:Env)(t:TypeId)(parts:List (Nat×AV)):Option AV:=
 match E.arT t with
 | some (ls,zs)=>(qfillA ls (zs.map zAV) parts).bind fun cs=>(if cs.all onePV=true then allPV cs else none).map fun ps=>.pv (.agg ps)
 | none=>qbuildA E.T t parts
theorem qbuildA2_none{E:Env}{t:TypeId}{parts:List (Nat×AV)}(h:E.arT t=none):qbuildA2 E t parts=qbuildA E.T t parts:=by simp only[qbuildA2,h]
def ebuildOwn(E:Env)(H:List AObj)(ty:TypeId)(len:Nat)(parts:List (Nat×AV)):Option (AV×List AObj):=
 match E.T ty with
 | some ⟨.slice e,_,_,_⟩=>match E.T e with
   | some te=>if parts.length=len∧len * te.size≤16777216∧te.zero.isSome=true∧te.size≠0 then match eparts H te.size 0 parts with
      | some xs=>some (.vec H.length xs.length,H++[.row e te.size xs false])
      | none=>none
     else none
   | none=>none
 | _=>none
section
variable {E:Env}{γ:List Gh}{H:List AObj}{Φ:Nat→Nat→Prop}{w:World}
theorem cellsAV_sound{v:Value}{a:AV}{us:List AV}(ha:ARel γ H Φ w v a)(h:cellsAV a=some us):v.cells.toList.length=us.length∧∀ (k:Nat) x c,v.cells.toList[k]?=some x→us[k]?=some c→x.oneCell'=true∧ARel γ H Φ w x c:=by
 have single:v.cells=#[v]→(∀p,a≠.pv p)→(∀vs,a≠.tup vs)→a≠.any→(∀vs,a≠.agg vs)→some [a]=some us→v.cells.toList.length=us.length∧∀ (k:Nat) x c,v.cells.toList[k]?=some x→us[k]?=some c→x.oneCell'=true∧ARel γ H Φ w x c:=by
  intro hc h1 h2 h3 h4 h5
  simp only[Option.some.injEq]at h5
  subst h5
  rw[hc]
  refine⟨rfl,fun k x c hx hcc=>?_⟩
  match k,hx,hcc with
  | 0,hx,hcc=>
    simp at hx hcc
    subst hx hcc
    exact⟨arel_one ha h1 h2 h3 h4,ha⟩
  | k+1,hx,hcc=>simp at hx
 cases ha with
 | @pv v p hp=>
   simp only[cellsAV,Option.some.injEq]at h
   subst h
   obtain⟨hl,h1,hr⟩:=rep_cells hp
   refine⟨by simpa using hl,fun k x c hx hc=>?_⟩
   rw[List.getElem?_map]at hc
   obtain⟨q,hq,rfl⟩:=Option.map_eq_some_iff.1 hc
   have hrep:=hr k x q hx hq
   exact⟨hrep.one (h1 q (List.mem_of_getElem? hq)),.pv hrep⟩
 | vec=>exact single rfl (by simp) (by simp) (by simp) (by simp) h
 | ref=>exact single rfl (by simp) (by simp) (by simp) (by simp) h
 | mref=>exact single rfl (by simp) (by simp) (by simp) (by simp) h
 | selfp=>simp[cellsAV]at h
 | nils=>exact single rfl (by simp) (by simp) (by simp) (by simp) h
 | full=>exact single rfl (by simp) (by simp) (by simp) (by simp) h
 | any=>simp[cellsAV]at h
 | ifc=>simp[cellsAV]at h
 | pptr=>simp[cellsAV]at h
 | vptr=>simp[cellsAV]at h
 | tup=>simp[cellsAV]at h
 | fn=>simp[cellsAV]at h
 | agg=>simp[cellsAV]at h
theorem fillA_sound(fs:List (Nat×Nat))(place:Nat→Option (Nat×Nat))(hp:∀ (i:Nat) p,fs[i]?=some p→place i=some p):
 ∀ (parts:List (Nat×AV)) (vparts:List (Nat×Value)) (cs:List AV) (vs:Array Value) (r:List AV),vparts.length=parts.length→
  (∀ (j:Nat) (p:Nat×AV) (q:Nat×Value),parts[j]?=some p→vparts[j]?=some q→q.1=p.1∧ARel γ H Φ w q.2 p.2)→
  (vs.toList.length=cs.length∧∀ (k:Nat) x c,vs.toList[k]?=some x→cs[k]?=some c→x.oneCell'=true∧ARel γ H Φ w x c)→
  qfillA fs cs parts=some r→∃us,Instr.fill place vs vparts=some us∧us.toList.length=r.length∧∀ (k:Nat) x c,us.toList[k]?=some x→r[k]?=some c→x.oneCell'=true∧ARel γ H Φ w x c
 | [],vparts,cs,vs,r,hl,_,hcr,h=>by
   simp only[qfillA,Option.some.injEq]at h
   subst h
   cases vparts with
   | nil=>exact⟨vs,rfl,hcr⟩
   | cons a b=>simp at hl
 | (i,v)::parts,[],cs,vs,r,hl,_,_,_=>by simp at hl
 | (i,v)::parts,(i',v')::vparts,cs,vs,r,hl,hrel,hcr,h=>by
   simp only[qfillA]at h
   split at h
   ·rename_i off sz us hf hus
    split at h
    ·rename_i hsz
     obtain⟨hsz,hoff⟩:=hsz
     obtain⟨he,hr⟩:=hrel 0 (i,v) (i',v') rfl rfl
     simp only at he
     subst he
     obtain⟨hcl,hcc⟩:=cellsAV_sound hr hus
     have hvl:v'.cells.size=sz:=by rw[←hsz,←hcl];simp
     obtain⟨hl1,hl3⟩:=hcr
     have hsize:vs.size=cs.length:=by rw[←hl1];simp
     obtain⟨f1,f2⟩:=fill_put off v'.cells.toList 0 vs (by simp;omega)
     have hfold:v'.cells.zipIdx.foldl (fun cs (c,j)=>cs.setIfInBounds (off+j) c) vs=(v'.cells.toList.zipIdx 0).foldl (fun cs (c,j)=>cs.setIfInBounds (off+j) c) vs:=by
      rw[←Array.foldl_toList,Array.toList_zipIdx]
     have hstep:Instr.fill place vs ((i',v')::vparts)=Instr.fill place ((v'.cells.toList.zipIdx 0).foldl (fun cs (c,j)=>cs.setIfInBounds (off+j) c) vs) vparts:=by
      rw[←hfold]
      simp only[Instr.fill,hp _ _ hf]
      rw[if_neg]
      simp only[hvl,ne_eq,not_true_eq_false,decide_false,Bool.false_or,decide_eq_true_eq]
      omega
     rw[hstep]
     have hpc:off+us.length≤cs.length:=by omega
     have hto:(cs.take off).length=off:=by rw[List.length_take];omega
     refine fillA_sound fs place hp parts vparts _ _ r (by simpa using hl) (fun j a b ha hb=>hrel (j+1) a b (by simpa using ha) (by simpa using hb)) ⟨?_,fun k x c hx hc=>?_⟩ h
     ·rw[Array.length_toList,f1,hsize]
      simp only[List.length_append,List.length_drop,hto]
      omega
     rw[Array.getElem?_toList,f2 k]at hx
     have hlen:v'.cells.toList.length=us.length:=hcl
     by_cases hin:off≤k∧k<off+us.length
     ·rw[if_pos ⟨by omega,by omega⟩]at hx
      rw[List.append_assoc,List.getElem?_append_right (by omega),hto,List.getElem?_append_left (by omega)]at hc
      exact hcc (k-off) x c (by simpa using hx) hc
     rw[if_neg (by omega)]at hx
     refine hl3 k x c (by rw[Array.getElem?_toList];exact hx) ?_
     by_cases hk:k<off
     ·rw[List.append_assoc,List.getElem?_append_left (by omega),List.getElem?_take,if_pos hk]at hc
      exact hc
     rw[List.append_assoc,List.getElem?_append_right (by omega),hto,List.getElem?_append_right (by omega),List.getElem?_drop]at hc
     rw[←hc]
     congr 1
     omega
    cases h
   cases h
theorem qbuildA_sound{t:TypeId}{parts:List (Nat×AV)}{vparts:Array (Nat×Value)}(hl:vparts.size=parts.length)
 (hrel:∀ (j:Nat) (p:Nat×AV) (q:Nat×Value),parts[j]?=some p→vparts[j]?=some q→q.1=p.1∧ARel γ H Φ w q.2 p.2) {r:AV} (h:qbuildA E.T t parts=some r):
 ∃u,(Instr.build t vparts).run E.P w=.ok u w∧ARel γ H Φ w u r:=by
 unfold qbuildA at h
 split at h
 ·rename_i f0 fs1 _ _ z hT
  have hne:f0::fs1≠[]:=fun h=>by cases h
  generalize f0::fs1=fs at h hT hne
  obtain⟨cs,hcs,rfl⟩:=Option.map_eq_some_iff.1 h
  obtain⟨i,d,hi,hs,_,hd,hk,hz⟩:=(E.hT _ _ hT).info
  obtain⟨fields,rfl,hsize,hfs⟩:=tk_strct hk hne
  obtain⟨zv,hzv,hzl,_,hzr,_⟩:=hz z rfl
  have hplaces:∀ (l:List Field) (k:Nat),(∀ (j:Nat) f,l[j]?=some f→fields[k+j]?=some f)→
   (l.mapM (fun f=>do pure (f.offset,←sizeOf f.type):Field→Sem (Nat×Nat))).run E.P w=.ok ((fs.drop k).take l.length) w:=by
   intro l
   induction l with
   | nil=>intro k _;simp
   | cons f l ih=>
     intro k hf
     have h0:=hf 0 f rfl
     rw[Nat.add_zero]at h0
     have hkl:k<fs.length:=by
      have:=(Array.getElem?_eq_some_iff.1 h0).1
      omega
     obtain⟨hoff,fi,hfi,hfsz⟩:=hfs k f fs[k] h0 (List.getElem?_eq_getElem hkl)
     have hrest:=ih (k+1) (fun j g hg=>by
      have:=hf (j+1) g (by simpa using hg)
      rw[show k+1+j=k+(j+1) from by omega]
      exact this)
     have hone:(do pure (f.offset,←sizeOf f.type):Sem (Nat×Nat)).run E.P w=.ok fs[k] w:=by
      simp[run_sizeOf hfi,hoff,hfsz]
     simp only[bind]at hrest
     simp only[List.mapM_cons,bind,Sem.run_bind']at hone ⊢
     rw[hone]
     simp only[Result.andThen_ok,hrest]
     rw[List.drop_eq_getElem_cons hkl,List.length_cons,List.take_succ_cons]
     rfl
  have hmap:(fields.mapM (fun f=>do pure (f.offset,←sizeOf f.type):Field→Sem (Nat×Nat))).run E.P w=.ok fs.toArray w:=by
   have:=hplaces fields.toList 0 (fun j f hf=>by simpa using hf)
   rw[Array.mapM_eq_mapM_toList,Sem.run_map,this]
   simp[hsize]
  obtain⟨us,hus,hul,hur⟩:=fillA_sound (γ:=γ) (H:=H) (Φ:=Φ) (w:=w) fs (fs.toArray[·]?) (fun i p hp=>by simpa using hp) parts vparts.toList (z.map zAV) zv.cells cs (by simpa using hl)
   (fun j p q hp hq=>hrel j p q hp (by simpa using hq)) ⟨by simpa using hzl,fun k v c hv hc=>by
     rw[List.getElem?_map]at hc
     obtain⟨p,hp,rfl⟩:=Option.map_eq_some_iff.1 hc
     have h1:=hzr k v p hv hp
     exact⟨(h1.2.1 Φ w).one h1.1,zAV_rel h1⟩⟩ hcs
  refine⟨.agg us,?_,.agg us.toList cs hul (fun v hv=>?_) (fun k v c hv hc=>(hur k v c hv hc).2)⟩
  ·unfold Instr.build
   simp only[bind]at hmap
   simp only[bind,Sem.run_bind']
   have hzrun:(zeroValue t).run E.P w=.ok zv w:=by simp[zeroValue,typeInfo,hi,hzv]
   simp only[hzrun,Result.andThen_ok,run_underlying hd,Sem.run_bind',hmap]
   rw[hus]
   rfl
  obtain⟨k,hk,hkv⟩:=List.getElem_of_mem hv
  exact(hur k v (cs[k]'(by omega)) (by rw[List.getElem?_eq_getElem hk,hkv]) (List.getElem?_eq_getElem (by omega))).1
 cases h
theorem qbuildA2_sound{t:TypeId}{parts:List (Nat×AV)}{vparts:Array (Nat×Value)}(hl:vparts.size=parts.length)
 (hrel:∀ (j:Nat) (p:Nat×AV) (q:Nat×Value),parts[j]?=some p→vparts[j]?=some q→q.1=p.1∧ARel γ H Φ w q.2 p.2) {r:AV} (h:qbuildA2 E t parts=some r):
 ∃u,(Instr.build t vparts).run E.P w=.ok u w∧ARel γ H Φ w u r:=by
 unfold qbuildA2 at h
 split at h
 ·rename_i ls zs hT
  obtain⟨cs,hcs,h⟩:=Option.bind_eq_some_iff.1 h
  obtain⟨ps,hps,rfl⟩:=Option.map_eq_some_iff.1 h
  split at hps
  case isFalse=>cases hps
  rename_i hone
  obtain⟨i,n,e,ei,zv,rfl,hi,hd,hei,hzv,hzl,hzr⟩:=(E.hAr _ _ _ hT).ex
  obtain⟨us,hus,hul,hur⟩:=fillA_sound (γ:=γ) (H:=H) (Φ:=Φ) (w:=w) ((List.range n).map fun i=>(i * ei.size,ei.size)) (fun i=>some (i * ei.size,ei.size)) (fun i p hp=>by
   rw[List.getElem?_map]at hp
   obtain⟨j,hj,rfl⟩:=Option.map_eq_some_iff.1 hp
   have:=List.getElem?_range (n:=n) (i:=i) (by
    have:=(List.getElem?_eq_some_iff.1 hj).1
    simpa using this)
   rw[this]at hj
   injection hj with hj
   rw[hj]) parts vparts.toList (zs.map zAV) zv.cells cs (by simpa using hl)
   (fun j p q hp hq=>hrel j p q hp (by simpa using hq)) ⟨by simpa using hzl,fun k v c hv hc=>by
     rw[List.getElem?_map]at hc
     obtain⟨p,hp,rfl⟩:=Option.map_eq_some_iff.1 hc
     have h1:=hzr k v p hv hp
     exact⟨(h1.2.1 Φ w).one h1.1,zAV_rel h1⟩⟩ hcs
  have hcs':=allPV_spec hps
  refine⟨.agg us,?_,.pv (.agg us.toList ps (by rw[hul,hcs'];simp) (fun c hc=>List.all_eq_true.1 hone (.pv c) (by rw[hcs'];exact List.mem_map_of_mem hc)) (fun k v c hv hc=>?_))⟩
  ·unfold Instr.build
   simp only[bind,Sem.run_bind']
   have hzrun:(zeroValue t).run E.P w=.ok zv w:=by simp[zeroValue,typeInfo,hi,hzv]
   simp only[hzrun,Result.andThen_ok,run_underlying hd,Sem.run_bind',run_sizeOf hei]
   rw[hus]
   rfl
  have:=(hur k v (.pv c) hv (by rw[hcs',List.getElem?_map,hc];rfl)).2
  exact arel_pv this
 exact qbuildA_sound hl hrel h
theorem ebuildOwn_sound(hI:OInv E γ H Φ w){ty:TypeId}{len:Nat}{parts:List (Nat×AV)}{vparts:Array (Nat×Value)}(hl:vparts.size=parts.length)
 (hrel:∀ (j:Nat) (p:Nat×AV) (q:Nat×Value),parts[j]?=some p→vparts[j]?=some q→q.1=p.1∧ARel γ H Φ w q.2 p.2) {r:AV} {H':List AObj} (h:ebuildOwn E H ty len parts=some (r,H')):
 ∃u w',(Instr.buildSlice ty len vparts).run E.P w=.ok u w'∧Steps1 E γ H Φ w r H' u w':=by
 unfold ebuildOwn at h
 split at h
 ·rename_i e _ _ _ hT
  split at h
  ·rename_i te hTe
   split at h
   ·rename_i hc
    obtain⟨hpl,hbig,hzs,hs0⟩:=hc
    split at h
    ·rename_i xs hxs
     simp only[Option.some.injEq,Prod.mk.injEq]at h
     obtain⟨rfl,rfl⟩:=h
     obtain⟨d,hd,hk⟩:=(E.hT _ _ hT).und
     rw[tk_slice hk]at hd
     obtain⟨i,d',hi,his,_,hd',hk',hz⟩:=(E.hT _ _ hTe).info
     obtain⟨z,hzz⟩:=Option.isSome_iff_exists.1 hzs
     obtain⟨zv,hzv,hzl,hzn,_⟩:=hz z hzz
     obtain⟨e1,e2,e3,e4⟩:=eparts_sound hI te.size parts vparts.toList 0 xs (by simpa using hl) (fun j p q hp hq=>hrel j p q hp (by simpa using hq)) hxs
     have hvl:vparts.toList.length=len:=by rw[Array.length_toList];omega
     generalize hbase:(Array.range (len * te.size)).map ((if len * te.size=0 then #[]else zv.cells)[· % (if len * te.size=0 then #[]else zv.cells).size]!)=base
     have hbs:base.size=len * te.size:=by rw[←hbase];simp
     obtain⟨us,hus,husz,hut⟩:=fillSeq te.size vparts.toList 0 base e3 (by rw[hvl,hbs];simp)
     have hul:us.toList=vparts.toList.flatMap fun p=>p.2.cells.toList:=by
      rw[Nat.zero_add,hvl,Nat.zero_mul,List.take_zero,List.nil_append,List.take_of_length_le (by simp[husz,hbs])]at hut
      exact hut
     have hfl:=flat_length e2
     have hmax:len≤maxLen:=by
      have:len≤len * te.size:=Nat.le_mul_of_pos_right _ (by omega)
      unfold maxLen
      omega
     have hxl:xs.length=len:=by omega
     have hus2:us.size=len * te.size:=by rw[husz,hbs]
     have hown:(w.alloc (.cells us e)).ownsRow 0 e te.size (.slice (some ⟨w.heap.size,0,none⟩) len len) xs.length us.toList:=by
      refine⟨by rw[Array.length_toList,hus2,hxl],.inr ⟨w.heap.size,len,us,by rw[hxl],Nat.zero_le _,heap_alloc_new w _,by omega,hmax,hus2,?_⟩⟩
      rw[hxl]
      exact List.take_of_length_le (by rw[Array.length_toList,hus2];exact Nat.le_refl _)
     refine⟨.slice (some ⟨w.heap.size,0,none⟩) len len,w.alloc (.cells us e),?_,pushRow (v:=.slice none 0 0) hI hown ⟨rfl,rfl,rfl,by simp,.inl ⟨rfl,by simp,fun b hb=>heap_alloc_old w _ b hb⟩⟩ rfl ?_ e2 (by omega) false⟩
     ·have hbig':¬ len * i.size>2 ^ 24:=by rw[his];omega
      unfold Instr.buildSlice
      simp only[bind,Sem.run_bind',run_underlying hd,Result.andThen_ok,run_sizeOf hi,hbig',if_false]
      rw[his]
      have hz1:(zeroValue e).run E.P w=.ok zv w:=by simp[zeroValue,typeInfo,hi,hzv]
      by_cases hz0:len * te.size=0
      ·rw[if_pos hz0]at hbase ⊢
       simp only[Sem.run_bind',Sem.run_pure,Result.andThen_ok]
       rw[hbase,hus]
       simp only[Sem.run_bind',run_newRow,Result.andThen_ok,Sem.run_pure]
      rw[if_neg hz0]at hbase ⊢
      simp only[Sem.run_bind',Sem.run_pure,Result.andThen_ok,hz1]
      rw[hbase,hus]
      simp only[Sem.run_bind',run_newRow,Result.andThen_ok,Sem.run_pure]
     rw[hul]
     exact e4
    cases h
   cases h
  cases h
 cases h
theorem erange_sound(hI:OInv E γ H Φ w){ty:TypeId}{v:Value}{x r:AV}{H':List AObj}(hx:ARel γ H Φ w v x)(h:erange E H ty x=some (r,H')):
 ∃u w',(Instr.range ty v).run E.P w=.ok u w'∧Steps1 E γ H Φ w r H' u w':=by
 unfold erange at h
 split at h
 ·rename_i s hT
  simp only[Option.some.injEq,Prod.mk.injEq]at h
  obtain⟨rfl,rfl⟩:=h
  obtain⟨d,hd,hk⟩:=(E.hT _ _ hT).und
  have hdd:=tk_str hk
  rw[hdd]at hd
  have hv:=rep_str (arel_pv hx)
  subst hv
  have hnew:(w.alloc (.stringIter ⟨⟨s⟩⟩ 0)).heap[w.heap.size]?=some (.stringIter ⟨⟨s⟩⟩ 0):=heap_alloc_new w _
  refine⟨.pointer (some ⟨w.heap.size,0,none⟩),w.alloc (.stringIter ⟨⟨s⟩⟩ 0),by simp[Instr.range,run_underlying hd],_,Φ,hI.pushObj (fun b hb=>alloc_heap_lt _ b hb) (by simp) rfl rfl rfl (fun _ _ h=>h) (fun _ _ h _=>h) (fun b k h=>Nat.lt_of_lt_of_le (hI.phi b k h) (by simp)) ⟨.pointer (some ⟨w.heap.size,0,none⟩),[w.heap.size]⟩ (.iter s 0)
   (fun b hb=>by simp at hb;subst hb;exact⟨Nat.le_refl _,by simp⟩) (fun hE=>⟨w.heap.size,rfl,rfl,hnew,fun k hk=>?_⟩),.ref _ _ _ ?_⟩
  ·have:=hI.phi _ k hk
   omega
  unfold gv
  rw[←hI.len]
  simp
 cases h
theorem mmL_sound(mx:Bool):∀ (l:List AV) (vs:List Value) (a:AV) (v:Value) (r:AV),ARel γ H Φ w v a→vs.length=l.length→(∀ (i:Nat) u b,vs[i]?=some u→l[i]?=some b→ARel γ H Φ w u b)→mmL mx a l=some r→
 ∃u,(vs.foldlM (if mx then Builtin.max2 else Builtin.min2) v:Sem Value).run E.P w=.ok u w∧ARel γ H Φ w u r
 | [],vs,a,v,r,ha,hl,_,h=>by
   simp only[mmL,Option.some.injEq]at h
   subst h
   have:vs=[]:=List.eq_nil_of_length_eq_zero hl
   subst this
   exact⟨v,rfl,ha⟩
 | b::l,[],a,v,r,ha,hl,_,h=>by simp at hl
 | b::l,u::vs,a,v,r,ha,hl,hr,h=>by
   simp only[mmL]at h
   split at h
   ·rename_i c hc
    unfold mm2 at hc
    split at hc
    ·rename_i k x k' y
     simp only[Option.some.injEq]at hc
     subst hc
     have h1:=rep_int (arel_pv ha)
     have h2:=rep_int (arel_pv (hr 0 u _ rfl rfl))
     subst h1 h2
     obtain⟨u',hu',hr'⟩:=mmL_sound mx l vs _ (.int k (bif mx then imax x y else imin x y)) r (.pv (.int _ _)) (by simpa using hl) (fun i u b hu hb=>hr (i+1) u b (by simpa using hu) (by simpa using hb)) h
     refine⟨u',?_,hr'⟩
     rw[List.foldlM_cons]
     have e:((if mx then Builtin.max2 else Builtin.min2) (.int k x) (.int k' y):Sem Value).run E.P w=.ok (.int k (bif mx then imax x y else imin x y)) w:=by
      cases mx<;>rfl
     simp only[bind,Sem.run_bind',e,Result.andThen_ok]
     exact hu'
    cases hc
   cases h
theorem qmm_sound(mx:Bool){l:List AV}{vs:List Value}{r:AV}(hl:vs.length=l.length)(hr:∀ (i:Nat) u b,vs[i]?=some u→l[i]?=some b→ARel γ H Φ w u b)(h:qmm mx l=some r)(ats:Array TypeId)(t:TypeId):
 ∃u,((if mx then Builtin.max_ ats t ⟨vs⟩else Builtin.min_ ats t ⟨vs⟩):Sem Value).run E.P w=.ok u w∧ARel γ H Φ w u r:=by
 unfold qmm at h
 split at h
 ·rename_i a b l
  match vs,hl with
  | v::u::vs,hl=>
    obtain⟨u',hu',hr'⟩:=mmL_sound mx (b::l) (u::vs) a v r (hr 0 v a rfl rfl) (by simpa using hl) (fun i u b hu hb=>hr (i+1) u b (by simpa using hu) (by simpa using hb)) h
    refine⟨u',?_,hr'⟩
    cases mx<;>exact hu'
 cases h
theorem enext_sound(hI:OInv E γ H Φ w){ty:TypeId}{v:Value}{x r:AV}{b:Bool}{H':List AObj}(hx:ARel γ H Φ w v x)(h:enext H x b=some (r,H')):
 ∃u w',(Instr.next v b ty).run E.P w=.ok u w'∧Steps1 E γ H Φ w r H' u w':=by
 unfold enext at h
 split at h
 ·rename_i l
  split at h
  ·rename_i s p hH
   obtain⟨g,hgl,bk,hgv,hgo,hb,hn⟩:=hI.gh hH
   have hmv:v=.pointer (some ⟨bk,0,none⟩):=by
    cases hx with
    | ref b' l off hg=>
      simp only[gv,hgl,Option.map_some,Option.some.injEq]at hg
      rw[hgv]at hg
      injection hg with hg
      injection hg with hg
      injection hg with hg
      rw[hg]
   subst hmv
   have hlb:bk<w.heap.size:=(Array.getElem?_eq_some_iff.1 hb).1
   split at h
   ·rename_i hp
    simp only[Option.some.injEq,Prod.mk.injEq]at h
    obtain⟨rfl,rfl⟩:=h
    have hp':p<(⟨⟨s⟩⟩:ByteArray).size:=hp
    have hnew:({ w with heap:=w.heap.setIfInBounds bk (.stringIter ⟨⟨s⟩⟩ (runeN s p)) }:World).heap[bk]?=some (.stringIter ⟨⟨s⟩⟩ (runeN s p)):=by
     show(w.heap.setIfInBounds bk _)[bk]?=_
     rw[Array.getElem?_setIfInBounds,if_pos rfl,if_pos hlb]
    have hother:∀c,c≠bk→({ w with heap:=w.heap.setIfInBounds bk (.stringIter ⟨⟨s⟩⟩ (runeN s p)) }:World).heap[c]?=w.heap[c]?:=fun c hc=>by
     show(w.heap.setIfInBounds bk _)[c]?=_
     rw[Array.getElem?_setIfInBounds,if_neg (Ne.symm hc)]
    refine⟨.tuple #[.bool true,.int .i64 p,.int .i32 (runeC s p)],{ w with heap:=w.heap.setIfInBounds bk (.stringIter ⟨⟨s⟩⟩ (runeN s p)) },?_,γ.set l g,Φ,hI.setObj (o':=.iter s (runeN s p)) (g':=g) hH hgl (fun c hc hn'=>hother c (fun e=>hn' (by rw[hgo,e];simp))) (by simp) rfl rfl rfl (fun _ _ h=>h) (fun _ _ h _ _=>h) (fun c k h=>by simpa using hI.phi c k h)
     (fun c k hΦ hc=>by rw[hgo]at hc;simp at hc;subst hc;exact absurd hΦ (hn k)) (fun c hc=>⟨.inl hc,by simpa using(hI.own l g hgl c hc).2⟩) (.inl rfl) (fun _ _ _ h=>by cases h)
     (fun hE=>⟨bk,hgv,hgo,hnew,hn⟩),?_⟩
    ·simp only[Instr.next,getObj,setObj,Sem.run_bind,Sem.run,hb,Result.andThen,hp',if_true]
     simp[goInt,Sem.run,hb,runeC,runeN]
    refine .tup _ _ rfl (fun k v c hv hc=>?_)
    match k,hv,hc with
    | 0,hv,hc=>cases hv;cases hc;exact .pv (.bool _)
    | 1,hv,hc=>cases hv;cases hc;exact .pv (.int _ _)
    | 2,hv,hc=>cases hv;cases hc;exact .pv (.int _ _)
   rename_i hp
   simp only[Option.some.injEq,Prod.mk.injEq]at h
   obtain⟨rfl,rfl⟩:=h
   have hp':¬ p<(⟨⟨s⟩⟩:ByteArray).size:=hp
   refine⟨.tuple #[.bool false],w,by simp[Instr.next,getObj,Sem.run,hb,hp'],γ,Φ,.refl hI,.tup _ _ rfl (fun k v c hv hc=>?_)⟩
   match k,hv,hc with
   | 0,hv,hc=>cases hv;cases hc;exact .pv (.bool _)
  cases h
 cases h
end
end Go.Abs
