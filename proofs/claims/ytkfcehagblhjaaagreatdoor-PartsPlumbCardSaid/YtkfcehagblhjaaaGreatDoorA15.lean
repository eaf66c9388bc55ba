import Derived.Test.YtkfcehagblhjaaaGreatDoorA43
import Derived.Laws.MakeOwn
set_option linter.unusedVariables false
set_option linter.unusedSimpArgs false
set_option linter.defProp false
namespace Go.Abs
open Go.RowKit
def one1:AV→Bool
 | .pv p=>p.one
 | .vec _ _|.ref _ _|.mref _|.nils|.full _=>true
 | _=>false
theorem one1_isS{a:AV}(h:one1 a=true):a.isS=false:=by cases a<;>first|rfl|cases h
def estore(E:Env)(H:List AObj)(ty:TypeId)(p x:AV):Option (List AObj):=
 match E.T ty with
 | none=>none
 | some ti=>match p with
   | .ref l o=>match H[l]? with
     | some (.var cs)=>match ti.k with
       | .strct _=>match x with
         | .pv (.agg ps)=>if ps.length=ti.size∧o+ti.size≤cs.length then some (H.set l (.var (cs.take o++ps.map AV.pv++cs.drop (o+ti.size))))else none
         | .agg us=>if us.length=ti.size∧o+ti.size≤cs.length∧noS us=true then some (H.set l (.var (cs.take o++us++cs.drop (o+ti.size))))else none
         | _=>none
       | .other=>none
       | _=>if o<cs.length∧one1 x=true∧ti.size=1 then some (H.set l (.var (cs.set o x)))else none
     | _=>none
   | .vptr l n i o=>match H[l]?,toPV H x with
     | some (.row e sz xs false),some q=>match xs[i]? with
       | some y=>if n=xs.length∧q.cells.length=ti.size then match y with
          | .agg cs=>if o+ti.size≤cs.length then some (H.set l (.row e sz (xs.set i (.agg (putCells cs o q.cells))) false))else none
          | _=>if o=0∧ti.size=1∧q.one=true then some (H.set l (.row e sz (xs.set i q) false))else none
         else none
       | none=>none
     | some (.tree e sz off e2 sz2 m xs),none=>storeTree ti H l n i o e sz off e2 sz2 m xs x
     | some (.hrow e sz xs j off _ _),some q=>storeHole ti H l n i o e sz xs j off q
     | _,_=>none
   | _=>none
def emakeMap(H:List AObj)(_:TypeId):Option (AV×List AObj):=some (.mref H.length,H++[.map []])
def emapUpdate(E:Env)(H:List AObj)(ty:TypeId)(m k v:AV):Option (List AObj):=
 match E.T ty,m,k,toPV H v with
 | some ⟨.map kt _,_,_,_⟩,.mref l,.pv kp,some vp=>match H[l]? with
   | some (.map es)=>if simpleKey E.T kt kp=true then match findIn kp es 0 with
      | some (some (j,_))=>some (H.set l (.map (es.set j (kp,vp))))
      | some none=>some (H.set l (.map (es++[(kp,vp)])))
      | none=>none
     else none
   | _=>none
 | _,_,_,_=>none
section
variable {E:Env}{γ:List Gh}{H:List AObj}{Φ:Nat→Nat→Prop}{w:World}
theorem one1_sound{v:Value}{x:AV}(hx:ARel γ H Φ w v x)(h:one1 x=true):v.oneCell'=true∧v.cells=#[v]:=by
 cases hx with
 | @pv v p hp=>
   have h1:=hp.one h
   refine⟨h1,?_⟩
   cases hp<;>first|rfl|(simp[Value.oneCell']at h1)
 | vec=>exact⟨rfl,rfl⟩
 | ref=>exact⟨rfl,rfl⟩
 | mref=>exact⟨rfl,rfl⟩
 | selfp=>exact⟨rfl,rfl⟩
 | nils=>exact⟨rfl,rfl⟩
 | full=>exact⟨rfl,rfl⟩
 | any=>simp[one1]at h
 | ifc=>simp[one1]at h
 | pptr=>simp[one1]at h
 | vptr=>simp[one1]at h
 | tup=>simp[one1]at h
 | agg=>simp[one1]at h
 | fn=>simp[one1]at h
theorem run_storeVar{t:TypeId}{i:TypeInfo}(hi:E.P.info? t=some i)(b o:Nat)(T:TypeId)(cur:Array Value)(hb:w.heap[b]?=some (.cells cur T (0,0)))(v:Value)(hv:v.cells.size=i.size)
 (h1:∀u∈v.cells.toList,u.oneCell'=true) (hfit:o+v.cells.size≤cur.size):
 (Instr.storeAt t (.pointer (some ⟨b,o,none⟩)) v).run E.P w=.ok () (w.setRow b (cur.toList.take o++v.cells.toList++cur.toList.drop (o+v.cells.size)).toArray):=by
 have hst:=run_storeCells_at E.P b o T v.cells.toList 0 cur w hb (by simpa using hfit) h1
 simp only[Nat.add_zero,Array.length_toList]at hst
 unfold Instr.storeAt storeVar
 simp only[bind,Sem.run_bind',Instr.sureAddr,pure,Sem.run_pure',Result.andThen_ok,run_sizeOf hi,hv,ne_eq,not_true_eq_false,if_false]
 rw[hst]
 rw[←hv]
theorem setRow_same(b c:Nat)(cs:Array Value)(h:c≠b):(w.setRow b cs).heap[c]?=w.heap[c]?:=setRow_other w b c cs h
theorem estore_sound(hI:OInv E γ H Φ w){ty:TypeId}{a v:Value}{p x:AV}{H':List AObj}(ha:ARel γ H Φ w a p)(hx:ARel γ H Φ w v x)(h:estore E H ty p x=some H'):
 ∃w',(Instr.storeAt ty a v).run E.P w=.ok () w'∧∃γ' Φ',Ok E γ H Φ w γ' H' Φ' w':=by
 unfold estore at h
 split at h
 ·cases h
 rename_i ti hT
 obtain⟨i,d,hi,his,_,hd,hk,_⟩:=(E.hT _ _ hT).info
 split at h
 ·rename_i l o
  split at h
  ·rename_i cs hH
   obtain⟨g,hg,b,T,vs,hv,ho,hb,hl,hr,hn⟩:=hI.gh hH
   have haddr:a=.pointer (some ⟨b,o,none⟩):=by
    cases ha with
    | ref b' l off hgv=>
      simp only[gv,hg,Option.map_some,Option.some.injEq]at hgv
      rw[hv]at hgv
      injection hgv with hgv
      injection hgv with hgv
      injection hgv with hgv
      rw[hgv]
   subst haddr
   have hlH:l<H.length:=(List.getElem?_eq_some_iff.1 hH).1
   have step:∀ (cs':List AV) (vs':List Value),vs'.length=cs'.length→(∀ (k:Nat) u c,vs'[k]?=some u→cs'[k]?=some c→u.oneCell'=true∧ARel γ H Φ w u c)→(∀c∈cs',c∈cs∨c.isS=false)→
    Ok E γ H Φ w (γ.set l g) (H.set l (.var cs')) Φ (w.setRow b ⟨vs'⟩):=by
    intro cs' vs' hl' hr' hns
    have hheap:=setRow_heap w b ⟨vs⟩ ⟨vs'⟩ T (0,0) hb
    refine hI.setObj (o':=.var cs') (g':=g) hH hg (fun c hc hn'=>setRow_same b c _ (fun e=>hn' (by rw[ho,e];simp))) (by simp) rfl rfl rfl (fun _ _ h=>h) (fun _ _ h _ _=>h) (fun c k h=>by simpa using hI.phi c k h)
     (fun c k hΦ hc=>by rw[ho]at hc;simp at hc;subst hc;exact absurd hΦ (hn.1 k)) (fun c hc=>⟨.inl hc,by simpa using(hI.own l g hg c hc).2⟩) (.inl rfl) (fun _ _ _ h=>by cases h) (fun hE=>⟨b,T,vs',hv,ho,hheap,hl',fun k u c hu hc=>⟨(hr' k u c hu hc).1,(hr' k u c hu hc).2.mono hE⟩,hn.1,fun c hc hs=>(hns c hc).elim (fun h=>hn.2 c h hs) (fun h=>by rw[h]at hs;cases hs)⟩)
   split at h
   ·split at h
    ·rename_i ps
     split at h
     ·rename_i hc
      obtain⟨hps,hfit⟩:=hc
      simp only[Option.some.injEq]at h
      subst h
      cases arel_pv hx with
      | agg us cs2 hul hu1 hur=>
        have hvs:(Value.agg ⟨us⟩).cells.size=i.size:=by simp[Value.cells];omega
        have hrun:=run_storeVar (E:=E) (w:=w) hi b o T ⟨vs⟩ hb (.agg ⟨us⟩) hvs (fun u hu=>by
         obtain⟨k,hk,hkc⟩:=List.getElem_of_mem hu
         have hk':k<us.length:=by simpa[Value.cells]using hk
         have hku:us[k]=u:=by simpa[Value.cells]using hkc
         rw[←hku]
         exact(hur k us[k] (ps[k]'(by omega)) (List.getElem?_eq_getElem hk') (List.getElem?_eq_getElem (by omega))).one (hu1 _ (List.getElem_mem _))) (by rw[hvs,his];simp;omega)
        have hsz:(Value.agg ⟨us⟩).cells.size=ti.size:=by rw[hvs,his]
        rw[hsz]at hrun
        refine⟨_,hrun,_,_,step (cs.take o++ps.map AV.pv++cs.drop (o+ti.size)) (vs.take o++us++vs.drop (o+ti.size)) (by simp[hl,hul]) (fun k u c hu hc=>?_) (fun c hc=>by
         rcases List.mem_append.1 hc with hc|hc
         ·rcases List.mem_append.1 hc with hc|hc
          ·exact .inl (List.mem_of_mem_take hc)
          obtain⟨q,_,rfl⟩:=List.mem_map.1 hc;exact .inr rfl
         exact .inl (List.mem_of_mem_drop hc))⟩
        have hto:(vs.take o).length=o:=by rw[List.length_take];omega
        have htc:(cs.take o).length=o:=by rw[List.length_take];omega
        by_cases hk1:k<o
        ·rw[List.append_assoc,List.getElem?_append_left (by omega),List.getElem?_take,if_pos hk1]at hu hc
         exact hr k u c hu hc
        rw[List.append_assoc,List.getElem?_append_right (by omega)]at hu hc
        rw[hto]at hu
        rw[htc]at hc
        by_cases hk2:k-o<us.length
        ·rw[List.getElem?_append_left hk2]at hu
         rw[List.getElem?_append_left (by simp;omega),List.getElem?_map]at hc
         obtain⟨q,hq,rfl⟩:=Option.map_eq_some_iff.1 hc
         have hrq:=hur (k-o) u q hu hq
         exact⟨hrq.one (hu1 q (List.mem_of_getElem? hq)),.pv hrq⟩
        rw[List.getElem?_append_right (by omega),List.getElem?_drop]at hu
        rw[List.getElem?_append_right (by simp;omega),List.getElem?_drop,List.length_map]at hc
        have hlen:us.length=ps.length:=hul
        exact hr _ u c hu (by rw[hlen];exact hc)
     cases h
    ·rename_i ps
     split at h
     ·rename_i hc
      obtain⟨hps,hfit,hnos⟩:=hc
      simp only[Option.some.injEq]at h
      subst h
      cases hx with
      | agg us _ hul hu1 hur=>
        have hvs:(Value.agg ⟨us⟩).cells.size=i.size:=by simp[Value.cells];omega
        have hrun:=run_storeVar (E:=E) (w:=w) hi b o T ⟨vs⟩ hb (.agg ⟨us⟩) hvs (fun u hu=>hu1 u (by simpa[Value.cells]using hu)) (by rw[hvs,his];simp;omega)
        have hsz:(Value.agg ⟨us⟩).cells.size=ti.size:=by rw[hvs,his]
        rw[hsz]at hrun
        refine⟨_,hrun,_,_,step (cs.take o++ps++cs.drop (o+ti.size)) (vs.take o++us++vs.drop (o+ti.size)) (by simp[hl,hul]) (fun k u c hu hc=>?_) (fun c hc=>by
         rcases List.mem_append.1 hc with hc|hc
         ·rcases List.mem_append.1 hc with hc|hc
          ·exact .inl (List.mem_of_mem_take hc)
          exact .inr (noS_mem hnos c hc)
         exact .inl (List.mem_of_mem_drop hc))⟩
        have hto:(vs.take o).length=o:=by rw[List.length_take];omega
        have htc:(cs.take o).length=o:=by rw[List.length_take];omega
        by_cases hk1:k<o
        ·rw[List.append_assoc,List.getElem?_append_left (by omega),List.getElem?_take,if_pos hk1]at hu hc
         exact hr k u c hu hc
        rw[List.append_assoc,List.getElem?_append_right (by omega)]at hu hc
        rw[hto]at hu
        rw[htc]at hc
        by_cases hk2:k-o<us.length
        ·rw[List.getElem?_append_left hk2]at hu
         rw[List.getElem?_append_left (by omega)]at hc
         exact⟨hu1 u (List.mem_of_getElem? hu),hur (k-o) u c hu hc⟩
        rw[List.getElem?_append_right (by omega),List.getElem?_drop]at hu
        rw[List.getElem?_append_right (by omega),List.getElem?_drop]at hc
        have hlen:us.length=ps.length:=hul
        exact hr _ u c hu (by rw[hlen];exact hc)
     cases h
    cases h
   ·cases h
   rename_i k1 k2
   split at h
   ·rename_i hc
    obtain⟨hoc,h1,hs1⟩:=hc
    simp only[Option.some.injEq]at h
    subst h
    obtain⟨hone,hcells⟩:=one1_sound hx h1
    have hvs:v.cells.size=i.size:=by rw[hcells,his,hs1];rfl
    have hrun:=run_storeVar (E:=E) (w:=w) hi b o T ⟨vs⟩ hb v hvs (fun u hu=>by rw[hcells]at hu;simp at hu;rw[hu];exact hone) (by rw[hcells];simp;omega)
    have harr:((⟨vs⟩:Array Value).toList.take o++v.cells.toList++(⟨vs⟩:Array Value).toList.drop (o+v.cells.size)).toArray=⟨vs.set o v⟩:=by
     rw[hcells]
     show(vs.take o++[v]++vs.drop (o+1)).toArray=_
     rw[List.set_eq_take_append_cons_drop,if_pos (by omega)]
     simp
    rw[harr]at hrun
    refine⟨_,hrun,_,_,step (cs.set o x) (vs.set o v) (by simp[hl]) (fun k u c hu hc=>?_) (fun c hc=>by
     rcases List.mem_or_eq_of_mem_set hc with hc|rfl
     ·exact .inl hc
     exact .inr (one1_isS h1))⟩
    rcases set_get hu with⟨rfl,rfl,_⟩|⟨hk,hu'⟩
    ·rw[List.getElem?_set_self (by omega)]at hc
     simp only[Option.some.injEq]at hc
     subst hc
     exact⟨hone,hx⟩
    rw[List.getElem?_set_ne (Ne.symm hk)]at hc
    exact hr k u c hu' hc
   cases h
  cases h
 ·rename_i l n j o
  split at h
  ·rename_i e sz xs q hH hq
   split at h
   ·rename_i y hy
    split at h
    ·rename_i hc
     obtain⟨hn,hqs⟩:=hc
     subst hn
     obtain⟨g,hg,hO⟩:=hI.gh hH
     obtain⟨cells,hown,hcl,hrep,hsz,h1,hgo,h0,hphi⟩:=hO
     have hys:=hsz y (List.mem_of_getElem? hy)
     have hlt:j<xs.length:=(List.getElem?_eq_some_iff.1 hy).1
     have hmul:j * sz+sz≤xs.length * sz:=by
      have:=Nat.mul_le_mul_right sz (show j+1≤xs.length from hlt)
      rw[Nat.succ_mul]at this
      exact this
     have hfl:=flat_length hsz
     cases ha with
     | vptr b oa l n i' off e0 sz0 len0 hrow hn0 hcur=>
       have hre:=rowAt_row hH
       rw[hrow]at hre
       injection hre with hre
       injection hre with hr1 hre
       injection hre with hr2 hr3
       obtain⟨cap,hgv,hoa⟩:=hcur hr3
       simp only[gv,hg,Option.map_some,Option.some.injEq]at hgv
       rw[hr2]at hoa
       subst hoa
       rcases hown.2 with⟨hnil,hz⟩|⟨b',cap',cur,hv',_,hheap,hnc,hcm,hcs,htake⟩
       ·omega
       have hbb:b'=b:=by
        rw[hv']at hgv
        injection hgv with h1 h2 h3
        injection h1 with h1
        injection h1
       subst hbb
       have hqr:=toPV_rep hI hx hq
       obtain⟨qc1,qc2,qc3⟩:=rep_cells hqr
       have hvs:v.cells.size=i.size:=by rw[his,←hqs,←qc1];simp
       have hnΦ:∀k,¬ Φ b' k:=fun k hk=>by
        have:=((hphi b' (by rw[hv'];rfl)) k).1 hk
        simp at this
       have step:∀ (y':PV),o+ti.size≤sz→y'.cells.length=sz→(∀c∈y'.cells,c.one=true)→(∀k,y'.cells[k]?=if o≤k∧k<o+ti.size then q.cells[k-o]? else y.cells[k]?)→
        ∃w',(Instr.storeAt ty (.pointer (some ⟨b',j * sz+o,none⟩)) v).run E.P w=.ok () w'∧∃γ' Φ',Ok E γ H Φ w γ' (H.set l (.row e sz (xs.set j y') false)) Φ' w':=by
        intro y' hfit hyl hy1 hyc
        have hfitc:j * sz+o+v.cells.size≤cur.size:=by
         rw[hvs,his,hcs]
         have:=Nat.mul_le_mul_right sz hnc
         omega
        have hrun:=run_storeVar (E:=E) (w:=w) hi b' (j * sz+o) e cur hheap v hvs (fun u hu=>by
         obtain⟨k,hk,hkc⟩:=List.getElem_of_mem hu
         have hkq:k<q.cells.length:=by rw[←qc1];exact hk
         exact(qc3 k u q.cells[k] (by rw[List.getElem?_eq_getElem hk,hkc]) (List.getElem?_eq_getElem hkq)).one (qc2 _ (List.getElem_mem _))) hfitc
        generalize hnew:(cur.toList.take (j * sz+o)++v.cells.toList++cur.toList.drop (j * sz+o+v.cells.size)).toArray=cur' at hrun
        have hget:∀k,cur'[k]?=if j * sz+o≤k∧k<j * sz+o+ti.size then v.cells[k-(j * sz+o)]? else cur[k]?:=by
         intro k
         have ht:(cur.toList.take (j * sz+o)).length=j * sz+o:=by rw[List.length_take,Array.length_toList];omega
         have hvl:v.cells.toList.length=ti.size:=by rw[Array.length_toList,hvs,his]
         rw[←hnew]
         simp only[List.getElem?_toArray]
         by_cases hk1:k<j * sz+o
         ·rw[if_neg (by omega),List.append_assoc,List.getElem?_append_left (by omega),List.getElem?_take,if_pos hk1,Array.getElem?_toList]
         rw[List.append_assoc,List.getElem?_append_right (by omega),ht]
         by_cases hk2:k<j * sz+o+ti.size
         ·rw[if_pos ⟨by omega,hk2⟩,List.getElem?_append_left (by omega),Array.getElem?_toList]
         rw[if_neg (by omega),List.getElem?_append_right (by omega),List.getElem?_drop,Array.getElem?_toList,hvs,his,hvl]
         congr 1
         omega
        have hcsz:cur'.size=cur.size:=by
         rw[←hnew]
         simp only[List.size_toArray,List.length_append,List.length_take,List.length_drop,Array.length_toList]
         omega
        have hheap':=setRow_heap w b' cur cur' e (0,0) hheap
        have hxs':∀z∈xs.set j y',z.cells.length=sz:=fun z hz=>by
         rcases List.mem_or_eq_of_mem_set hz with hz|rfl
         ·exact hsz z hz
         exact hyl
        have hlen':(xs.set j y').length=xs.length:=by simp
        have hown':(w.setRow b' cur').ownsRow 0 e sz g.v (xs.set j y').length (cur'.toList.take (xs.length * sz)):=by
         refine⟨?_,.inr ⟨b',cap',cur',by rw[hlen'];exact hv',Nat.zero_le _,hheap',by rw[hlen'];exact hnc,hcm,by rw[hcsz,hcs],by rw[hlen']⟩⟩
         rw[List.length_take,Array.length_toList (xs:=cur'),hcsz,hcs,hlen']
         exact Nat.min_eq_left (Nat.mul_le_mul_right _ hnc)
        have hcellv:∀k,k<xs.length * sz→cells[k]?=cur[k]?:=fun k hk=>by
         rw[←htake,List.getElem?_take,if_pos hk,Array.getElem?_toList]
        have hmemb:∀c,c∈g.own↔c=b':=fun c=>by rw[hgo,hv'];simp[Value.ownBlock]
        refine⟨_,hrun,γ.set l g,Φ,hI.setObj (g':=g) hH hg (fun c hc hn'=>setRow_same b' c _ (fun e=>hn' ((hmemb c).2 e))) (by simp) rfl rfl rfl (fun _ _ h=>h) (fun _ _ h _ _=>h) (fun c k h=>by simpa using hI.phi c k h)
         (fun c k hΦ hc=>by rw[hmemb]at hc;subst hc;exact absurd hΦ (hnΦ k)) (fun c hc=>⟨.inl hc,by simpa using(hI.own l g hg c hc).2⟩) (.inl rfl)
         (rowLike_step (by simp) (fun _=>rfl)) (fun hE=>?_)⟩
        refine⟨cur'.toList.take (xs.length * sz),hown',?_,fun k u c hu hc=>?_,hxs',fun c hc=>?_,by rw[hgo],h0,fun c hc k=>?_⟩
        ·rw[flat_length hxs',hlen',List.length_take,Array.length_toList (xs:=cur'),hcsz,hcs]
         exact Nat.min_eq_left (Nat.mul_le_mul_right _ hnc)
        ·have hk:k<xs.length * sz:=by
          have:=(List.getElem?_eq_some_iff.1 hc).1
          rw[flat_length hxs',hlen']at this
          exact this
         rw[List.getElem?_take,if_pos hk,Array.getElem?_toList,hget k]at hu
         have hq1:k / sz<xs.length:=Nat.div_lt_of_lt_mul (by rw[Nat.mul_comm];exact hk)
         have hkd:k / sz * sz+k % sz=k:=by rw[Nat.mul_comm];exact Nat.div_add_mod k sz
         have hmod:k % sz<sz:=Nat.mod_lt _ h0
         have hold:∀c,(flat xs)[k]?=some c→cur[k]?=some u→Rep Φ (w.setRow b' cur') u c:=fun c hc hu=>(hrep k u c (by rw[hcellv k hk];exact hu) hc).mono (fun _ _ h=>h) hE.cell
         by_cases hkj:k / sz=j
         ·have hf:(flat (xs.set j y'))[k]?=y'.cells[k % sz]?:=by
           have:=flat_at hxs' j (k % sz) y' (by rw[List.getElem?_set_self hlt]) hmod
           rw[←hkj,hkd]at this
           rw[hkj]at this
           exact this
          rw[hf,hyc]at hc
          have hkk:j * sz+k % sz=k:=by rw[←hkj];exact hkd
          by_cases hin:o≤k % sz∧k % sz<o+ti.size
          ·rw[if_pos hin]at hc
           rw[if_pos ⟨by omega,by omega⟩]at hu
           rw[←Array.getElem?_toList]at hu
           refine(qc3 _ u c ?_ hc).mono (fun _ _ h=>h) hE.cell
           rw[show k % sz-o=k-(j * sz+o) from by omega]
           exact hu
          rw[if_neg hin]at hc
          rw[if_neg (by omega)]at hu
          refine hold c ?_ hu
          rw[←hkk,flat_at hsz j _ y hy hmod]
          exact hc
         obtain⟨z,hz⟩:∃z,xs[k / sz]?=some z:=⟨_,List.getElem?_eq_getElem hq1⟩
         have hf:(flat (xs.set j y'))[k]?=z.cells[k % sz]?:=by
          have:=flat_at hxs' (k / sz) (k % sz) z (by rw[List.getElem?_set_ne (fun e=>hkj e.symm)];exact hz) hmod
          rw[hkd]at this
          exact this
         rw[hf]at hc
         have hout:¬ (j * sz+o≤k∧k<j * sz+o+ti.size):=by
          intro⟨a1,a2⟩
          apply hkj
          have b1:k<(j+1) * sz:=by rw[Nat.succ_mul];omega
          have b2:j * sz≤k:=by omega
          exact Nat.div_eq_of_lt_le b2 b1
         rw[if_neg hout]at hu
         refine hold c ?_ hu
         have:=flat_at hsz (k / sz) (k % sz) z hz hmod
         rw[hkd]at this
         rw[this]
         exact hc
        ·obtain⟨z,hz,hcz⟩:=List.mem_flatMap.1 hc
         rcases List.mem_or_eq_of_mem_set hz with hz|rfl
         ·exact h1 c (flat_mem hz hcz)
         exact hy1 c hcz
        rw[hlen']
        exact hphi c hc k
       split at h
       ·rename_i cs
        split at h
        ·rename_i hfit
         simp only[Option.some.injEq]at h
         subst h
         have hcsl:cs.length=sz:=hys
         exact step (.agg (putCells cs o q.cells)) (by omega) (by show(putCells cs o q.cells).length=sz;rw[put_len _ _ _ (by omega)];exact hcsl) (fun c hc=>by
          obtain⟨k,hk,hkc⟩:=List.getElem_of_mem hc
          have hgk:(putCells cs o q.cells)[k]?=some c:=by rw[←hkc];exact List.getElem?_eq_getElem hk
          rw[put_at _ _ _ _ (by omega)]at hgk
          split at hgk
          ·exact qc2 c (List.mem_of_getElem? hgk)
          ·exact h1 c (flat_mem (List.mem_of_getElem? hy) (List.mem_of_getElem? hgk))) (fun k=>by
          show(putCells cs o q.cells)[k]?=_
          rw[put_at _ _ _ _ (by omega),hqs]
          rfl)
        cases h
       rename_i hnotagg
       split at h
       ·rename_i hc
        obtain⟨rfl,hs1,hq1⟩:=hc
        simp only[Option.some.injEq]at h
        subst h
        have hyc:y.cells=[y]:=by
         cases y with
         | agg cs=>exact absurd rfl (hnotagg cs)
         | _=>rfl
        have hqc:q.cells=[q]:=by
         cases q with
         | agg cs=>simp[PV.one]at hq1
         | _=>rfl
        have hsz1:sz=1:=by rw[←hys,hyc];rfl
        refine step q (by omega) (by rw[hqc,hsz1];rfl) qc2 (fun k=>?_)
        rw[hqc,hyc,hs1]
        by_cases hk:k=0
        ·subst hk
         rfl
        rw[if_neg (by omega)]
        cases k with
        | zero=>exact absurd rfl hk
        | succ k=>rfl
       cases h
    cases h
   cases h
  ·rename_i hH hq
   exact storeTree_sound hI (E.hT _ _ hT) hH ha hx h
  ·rename_i hH hq
   exact storeHole_sound hI (E.hT _ _ hT) hH ha (toPV_rep hI hx hq) h
  cases h
 cases h
end
end Go.Abs
namespace Go.Abs
open Go.RowKit
def emakeSlice(E:Env)(H:List AObj)(ty:TypeId)(n c:AV):Option (AV×List AObj):=
 match E.T ty,n,c with
 | some ⟨.slice e,_,_,_⟩,.pv (.int _ n),.pv (.int _ c)=>match E.T e with
   | some te=>match zeroPV te with
     | some z=>if 0≤n∧n≤c∧c.toNat * te.bytes≤140737488355328∧te.bytes≠0∧te.size≠0∧z.cells.length=te.size then
        some (.vec H.length n.toNat,H++[.row e te.size (List.replicate n.toNat z) false])else none
     | none=>none
   | none=>none
 | _,_,_=>none
section
variable {E:Env}{γ:List Gh}{H:List AObj}{Φ:Nat→Nat→Prop}{w:World}
theorem emakeMap_sound(hI:OInv E γ H Φ w)(ty:TypeId){r:AV}{H':List AObj}(h:emakeMap H ty=some (r,H')):
 ∃u w',(Instr.makeMap ty none).run E.P w=.ok u w'∧Steps1 E γ H Φ w r H' u w':=by
 simp only[emakeMap,Option.some.injEq,Prod.mk.injEq]at h
 obtain⟨rfl,rfl⟩:=h
 have hnew:(w.alloc (.map #[] 0)).heap[w.heap.size]?=some (.map #[] 0):=heap_alloc_new w _
 refine⟨.map (some w.heap.size),w.alloc (.map #[] 0),by simp[Instr.makeMap],_,Φ,hI.pushObj (fun b hb=>alloc_heap_lt _ b hb) (by simp) rfl rfl rfl (fun _ _ h=>h) (fun _ _ h _=>h) (fun b k h=>Nat.lt_of_lt_of_le (hI.phi b k h) (by simp)) ⟨.map (some w.heap.size),[w.heap.size]⟩ (.map [])
  (fun b hb=>by simp at hb;subst hb;exact⟨Nat.le_refl _,by simp⟩) (fun hE=>⟨w.heap.size,#[],0,rfl,rfl,hnew,rfl,fun k x p hx=>by simp at hx,fun k hk=>?_⟩),.mref _ _ ?_⟩
 ·have:=hI.phi _ k hk
  omega
 unfold gv
 rw[←hI.len]
 simp
theorem run_setObj{b:Nat}{ents ents':Array MapEntry}{c c':Nat}(hb:w.heap[b]?=some (.map ents c)):(setObj b (.map ents' c')).run E.P w=.ok () { w with heap:=w.heap.setIfInBounds b (.map ents' c') }:=by
 simp[setObj,Sem.run,hb]
theorem keyEq_sameBits{kp p:PV}{kv v:Value}(hk:Rep Φ w kv kp)(hp:Rep Φ w v p)(h:keyEq kp p=some true):Instr.sameBits 10000 v kv=true:=by
 cases kp<;>cases p<;>simp[keyEq]at h
 ·have h1:=rep_bool hk
  have h2:=rep_bool hp
  subst h1 h2
  simp[Instr.sameBits,h]
 ·have h1:=rep_int hk
  have h2:=rep_int hp
  subst h1 h2
  simp[Instr.sameBits,h]
 have h1:=rep_str hk
 have h2:=rep_str hp
 subst h1 h2
 subst h
 simp[Instr.sameBits,beq_toListBytes]
theorem emapUpdate_sound(hI:OInv E γ H Φ w){ty:TypeId}{m k v:Value}{x y z:AV}{H':List AObj}(hm:ARel γ H Φ w m x)(hk:ARel γ H Φ w k y)(hv:ARel γ H Φ w v z)(h:emapUpdate E H ty x y z=some H'):
 ∃w',(Instr.mapUpdate ty m k v).run E.P w=.ok () w'∧∃γ' Φ',Ok E γ H Φ w γ' H' Φ' w':=by
 unfold emapUpdate at h
 split at h
 ·rename_i kt _ _ _ _ l kp vp hT hpv
  split at h
  ·rename_i es hH
   split at h
   ·rename_i hsk
    obtain⟨d,hd,hkk⟩:=(E.hT _ _ hT).und
    rw[tk_map hkk]at hd
    have hkr:=arel_pv hk
    have hvr:=toPV_rep hI hv hpv
    obtain⟨dk,hdk,hkey⟩:=simpleKey_sound hsk hkr
    obtain⟨g,hgl,b,ents,clock,hgv,hgo,hb,hsz,hrel,hn⟩:=hI.gh hH
    have hmv:m=.map (some b):=by
     cases hm with
     | mref b' l hg=>
       simp only[gv,hgl,Option.map_some,Option.some.injEq]at hg
       rw[hgv]at hg
       exact hg.symm
    subst hmv
    have hget:(getObj b).run E.P w=.ok (.map ents clock) w:=by simp[getObj,Sem.run,hb]
    have hck:(Instr.checkKey false 10000 kt k).run E.P w=.ok () w:=run_checkKey hdk (hkey.elim (fun h=>.inl h.1) (fun⟨j,_,h,_⟩=>.inr ⟨j,h⟩)) _
    have hfind:=find_sound (Φ:=Φ) (w:=w) hkey es ents.toList 0
    have hlb:b<w.heap.size:=(Array.getElem?_eq_some_iff.1 hb).1
    have hlH:l<H.length:=(List.getElem?_eq_some_iff.1 hH).1
    have step:∀ (es':List (PV×PV)) (ents':Array MapEntry) (c':Nat),ents'.size=es'.length→(∀ (k:Nat) x p,ents'[k]?=some x→es'[k]?=some p→Rep Φ w x.key p.1∧Rep Φ w x.val p.2)→
     Ok E γ H Φ w (γ.set l g) (H.set l (.map es')) Φ { w with heap:=w.heap.setIfInBounds b (.map ents' c') }:=by
     intro es' ents' c' hsz' hrel'
     have hnew:({ w with heap:=w.heap.setIfInBounds b (.map ents' c') }:World).heap[b]?=some (.map ents' c'):=by
      show(w.heap.setIfInBounds b _)[b]?=_
      rw[Array.getElem?_setIfInBounds,if_pos rfl,if_pos hlb]
     have hother:∀c,c≠b→({ w with heap:=w.heap.setIfInBounds b (.map ents' c') }:World).heap[c]?=w.heap[c]?:=fun c hc=>by
      show(w.heap.setIfInBounds b _)[c]?=_
      rw[Array.getElem?_setIfInBounds,if_neg (Ne.symm hc)]
     exact hI.setObj (g':=g) hH hgl (fun c hc hn'=>hother c (fun e=>hn' (by rw[hgo,e];simp))) (by simp) rfl rfl rfl (fun _ _ h=>h) (fun _ _ h _ _=>h) (fun c k h=>by simpa using hI.phi c k h)
      (fun c k hΦ hc=>by rw[hgo]at hc;simp at hc;subst hc;exact absurd hΦ (hn k)) (fun c hc=>⟨.inl hc,by simpa using(hI.own l g hgl c hc).2⟩) (.inl rfl) (fun _ _ _ h=>by cases h)
      (fun hE=>⟨b,ents',c',hgv,hgo,hnew,hsz',fun k x p hx hp=>⟨(hrel' k x p hx hp).1.mono hE.phi hE.cell,(hrel' k x p hx hp).2.mono hE.phi hE.cell⟩,hn⟩)
    split at h
    ·rename_i j q hf
     simp only[Option.some.injEq]at h
     subst h
     rcases hfind _ (by simpa using hsz) (fun k x p hx hp=>hrel k x p (by simpa using hx) hp) hf with⟨h1,_⟩|⟨j',p',u,e0,h1,h2,h3,h4,h5,h6,h7,h8⟩
     ·cases h1
     simp only[Option.some.injEq,Prod.mk.injEq]at h1
     obtain⟨rfl,rfl⟩:=h1
     simp only[Nat.sub_zero,Nat.zero_add]at h5 h6 h8
     have hfk:(Instr.findKey kt k ents.toList).run E.P w=.ok (some (j,u)) w:=by simp[Instr.findKey,run_underlying hdk,h2]
     have hej:ents[j]?=some e0:=by simpa using h6
     obtain⟨ep,hep⟩:∃ep,es[j]?=some ep:=⟨_,List.getElem?_eq_getElem h5⟩
     have hsb:=keyEq_sameBits hkr (hrel j e0 ep hej hep).1 (h8 ep hep)
     have hkts:(Instr.keyThatStays e0.key k).run E.P w=.ok k w:=by simp[Instr.keyThatStays,hsb]
     refine⟨_,?_,_,_,step (es.set j (kp,vp)) (ents.modify j fun e=>{ e with key:=k,val:=v }) clock (by simpa using hsz) (fun i x p hx hp=>?_)⟩
     ·unfold Instr.mapUpdate
      simp only[bind,Sem.run_bind',run_underlying hd,Result.andThen_ok,hget,hck,hfk,hej,Option.map_some,Option.getD_some,hkts]
      rw[run_setObj hb]
     rw[Array.getElem?_modify]at hx
     by_cases hij:j=i
     ·subst hij
      rw[if_pos rfl,hej]at hx
      simp only[Option.map_some,Option.some.injEq]at hx
      rw[List.getElem?_set_self h5]at hp
      simp only[Option.some.injEq]at hp
      subst hx hp
      exact⟨hkr,hvr⟩
     rw[if_neg hij]at hx
     rw[List.getElem?_set_ne hij]at hp
     exact hrel i x p hx hp
    ·rename_i hf
     simp only[Option.some.injEq]at h
     subst h
     rcases hfind _ (by simpa using hsz) (fun k x p hx hp=>hrel k x p (by simpa using hx) hp) hf with⟨_,h2⟩|⟨j',p',u,e0,h1,_⟩
     ·have hfk:(Instr.findKey kt k ents.toList).run E.P w=.ok none w:=by simp[Instr.findKey,run_underlying hdk,h2]
      refine⟨_,?_,_,_,step (es++[(kp,vp)]) (ents.push { key:=k,val:=v,born:=clock }) (clock+1) (by simp[hsz]) (fun i x p hx hp=>?_)⟩
      ·unfold Instr.mapUpdate
       simp only[bind,Sem.run_bind',run_underlying hd,Result.andThen_ok,hget,hck,hfk]
       rw[run_setObj hb]
      by_cases hi:i<es.length
      ·rw[List.getElem?_append_left hi]at hp
       rw[Array.getElem?_push,if_neg (by omega)]at hx
       exact hrel i x p hx hp
      rw[List.getElem?_append_right (by omega)]at hp
      have hi0:i-es.length=0:=by
       have:=(List.getElem?_eq_some_iff.1 hp).1
       simp at this
       omega
      rw[hi0]at hp
      rw[Array.getElem?_push,if_pos (by omega)]at hx
      simp only[List.getElem?_cons_zero,Option.some.injEq]at hx hp
      subst hx hp
      exact⟨hkr,hvr⟩
     cases h1
    cases h
   cases h
  cases h
 cases h
theorem made_get(z:Array Value)(n k:Nat)(hz:z.size≠0)(hk:k<n * z.size):(madeCells z (n * z.size))[k]?=z[k % z.size]?:=by
 unfold madeCells
 have:k % z.size<z.size:=Nat.mod_lt _ (by omega)
 simp[hk,this]
theorem emakeSlice_sound(hI:OInv E γ H Φ w){ty:TypeId}{a b:Value}{x y r:AV}{H':List AObj}(ha:ARel γ H Φ w a x)(hb:ARel γ H Φ w b y)(h:emakeSlice E H ty x y=some (r,H')):
 ∃u w',(Instr.makeSlice ty a b).run E.P w=.ok u w'∧Steps1 E γ H Φ w r H' u w':=by
 unfold emakeSlice at h
 split at h
 ·rename_i e _ _ _ kn n kc c hT
  split at h
  ·rename_i te hTe
   split at h
   ·rename_i z hzp
    split at h
    ·rename_i hc
     obtain⟨h0,hnc,hby,hb0,hs0,hzl⟩:=hc
     simp only[Option.some.injEq,Prod.mk.injEq]at h
     obtain⟨rfl,rfl⟩:=h
     have hav:=rep_int (arel_pv ha)
     have hbv:=rep_int (arel_pv hb)
     subst hav;subst hbv
     obtain⟨d,hd,hk⟩:=(E.hT _ _ hT).und
     rw[tk_slice hk]at hd
     obtain⟨i,d',hi,his,hib,hd',hk',hz⟩:=(E.hT _ _ hTe).info
     obtain⟨zv,hzr,hzrep⟩:=zero_sound (w:=w) (E.hT _ _ hTe) hzp
     have hzi:i.zero=some zv:=by
      cases hzz:i.zero with
      | none=>simp[zeroValue,typeInfo,hi,hzz]at hzr
      | some z'=>simp[zeroValue,typeInfo,hi,hzz]at hzr;rw[hzr]
     obtain⟨c1,c2,c3⟩:=rep_cells (hzrep Φ w)
     have hzs:zv.cells.size=i.size:=by rw[his,←hzl,←c1];simp
     have hcm:c.toNat≤140737488355328:=by
      have:c.toNat≤c.toNat * te.bytes:=Nat.le_mul_of_pos_right _ (by omega)
      omega
     have hrun:=run_make (P:=E.P) w ty e i zv hd hi hzi kn kc n c h0 hnc (by
      have hh:((c.toNat * te.bytes:Nat):Int)≤140737488355328:=by omega
      rw[Int.natCast_mul,Int.toNat_of_nonneg (by omega)]at hh
      rw[hib,Int.mul_comm]
      omega) (by omega)
     have hnl:(List.replicate n.toNat z).length=n.toNat:=by simp
     have hsz:∀q∈List.replicate n.toNat z,q.cells.length=te.size:=fun q hq=>by rw[(List.mem_replicate.1 hq).2];exact hzl
     have hmsz:(madeCells zv.cells (c.toNat * i.size)).size=c.toNat * i.size:=size_madeCells _ _
     have hmul:n.toNat * i.size≤c.toNat * i.size:=Nat.mul_le_mul_right _ (by omega)
     refine⟨_,_,hrun,?_⟩
     have hown:(w.alloc (.cells (madeCells zv.cells (c.toNat * i.size)) e)).ownsRow 0 e i.size (.slice (some ⟨w.heap.size,0,none⟩) n.toNat c.toNat) (List.replicate n.toNat z).length ((madeCells zv.cells (c.toNat * i.size)).toList.take (n.toNat * i.size)):=by
      refine⟨?_,.inr ⟨w.heap.size,c.toNat,_,by rw[hnl],Nat.zero_le _,heap_alloc_new w _,by rw[hnl];omega,by unfold maxLen;omega,hmsz,by rw[hnl]⟩⟩
      rw[List.length_take,Array.length_toList,hmsz,hnl]
      omega
     have hfl:=flat_length hsz
     rw[hnl]at hfl
     have:=pushRow (v:=.slice none 0 0) hI hown ⟨rfl,rfl,rfl,by simp,.inl ⟨rfl,by simp,fun b hb=>heap_alloc_old w _ b hb⟩⟩ rfl ⟨?_,fun q hq=>?_,fun k u q hu hq=>?_⟩ (by rw[his];exact hsz) (by omega) false
     ·rw[←his]
      rw[hnl]at this
      exact this
     ·rw[List.length_take,Array.length_toList,hmsz,hfl,←his]
      omega
     ·obtain⟨p,hp,hqp⟩:=List.mem_flatMap.1 hq
      rw[(List.mem_replicate.1 hp).2]at hqp
      exact c2 q hqp
     have hk:k<n.toNat * te.size:=by
      have:=(List.getElem?_eq_some_iff.1 hq).1
      omega
     have hpos:0<te.size:=by omega
     have hq1:k / te.size<n.toNat:=Nat.div_lt_of_lt_mul (by rw[Nat.mul_comm];exact hk)
     have hmod:k % te.size<te.size:=Nat.mod_lt _ hpos
     have hkd:k / te.size * te.size+k % te.size=k:=by rw[Nat.mul_comm];exact Nat.div_add_mod k te.size
     have hf:=flat_at hsz (k / te.size) (k % te.size) z (by rw[List.getElem?_replicate,if_pos hq1]) hmod
     rw[hkd,hq]at hf
     rw[List.getElem?_take,if_pos (by rw[his];exact hk),Array.getElem?_toList]at hu
     have hms:zv.cells.size=te.size:=by rw[hzs,his]
     rw[his,←hms,made_get _ _ _ (by omega) (by rw[hms];exact Nat.lt_of_lt_of_le hk (Nat.mul_le_mul_right _ (by omega))),hms]at hu
     exact c3 (k % te.size) u q (by rw[Array.getElem?_toList];exact hu) hf.symm
    cases h
   cases h
  cases h
 cases h
end
end Go.Abs
