import Derived.Test.YtljahlbklgnfhaaGreatDoorA43
import Derived.Laws.MakeOwn
import GoSem.Core.Utf8
set_option linter.unusedVariables false
set_option linter.unusedSimpArgs false
set_option linter.defProp false
namespace Go.Abs
open Go.RowKit
def one1:AV→Bool
 | .pv p=>p.one
 | .vec _ _|.ref _ _|.mref _|.nils|.full _=>true
 | _=>false
theorem X3t{a:AV}(h:one1 a=true):a.isS=false:=by cases a<;>first|rfl|cases h
def J0r(E:Env)(H:List AObj)(ty:TypeId)(p x:AV):Option (List AObj):=
 match E.T ty with
 | none=>none
 | some ti=>match p with
   | .ref l o=>match H[l]? with
     | some (.var cs)=>match ti.k with
       | .strct _=>match x with
         | .pv (.agg ps)=>if ps.length=ti.size∧o+ti.size≤cs.length then some (H.set l (.var (cs.take o++ps.map AV.pv++cs.drop (o+ti.size))))else none
         | .agg us=>if us.length=ti.size∧o+ti.size≤cs.length∧noS us=true then some (H.set l (.var (cs.take o++us++cs.drop (o+ti.size))))else none
         | _=>none
       | .other=>none
       | _=>if o<cs.length∧one1 x=true∧ti.size=1 then some (H.set l (.var (cs.set o x)))else none
     | _=>none
   | .vptr l n i o=>match H[l]?,toPV H x with
     | some (.row e sz xs false),some q=>match xs[i]? with
       | some y=>if n=xs.length∧q.cells.length=ti.size then match y with
          | .agg cs=>if o+ti.size≤cs.length then some (H.set l (.row e sz (xs.set i (.agg (Q1e cs o q.cells))) false))else none
          | _=>if o=0∧ti.size=1∧q.one=true then some (H.set l (.row e sz (xs.set i q) false))else none
         else none
       | none=>none
     | some (.tree e sz off e2 sz2 m xs),none=>Z3j ti H l n i o e sz off e2 sz2 m xs x
     | some (.hrow e sz xs j off _ _),some q=>Z3l ti H l n i o e sz xs j off q
     | _,_=>none
   | _=>none
def X4o(H:List AObj)(_:TypeId):Option (AV×List AObj):=some (.mref H.length,H++[.map []])
section
variable {E:Env}{γ:List Gh}{H:List AObj}{Φ:Nat→Nat→Prop}{w:World}
theorem J6t{v:Value}{x:AV}(hx:ARel γ H Φ w v x)(h:one1 x=true):v.oneCell'=true∧v.cells=#[v]:=by
 cases hx with
 | @pv v p hp=>
   have h1:=hp.one h
   refine⟨h1,?_⟩
   cases hp<;>first|rfl|(simp[Value.oneCell']at h1)
 | vec=>exact⟨rfl,rfl⟩
 | ref=>exact⟨rfl,rfl⟩
 | mref=>exact⟨rfl,rfl⟩
 | selfp=>exact⟨rfl,rfl⟩
 | nils=>exact⟨rfl,rfl⟩
 | full=>exact⟨rfl,rfl⟩
 | any=>simp[one1]at h
 | ifc=>simp[one1]at h
 | pptr=>simp[one1]at h
 | vptr=>simp[one1]at h
 | tup=>simp[one1]at h
 | agg=>simp[one1]at h
 | fn=>simp[one1]at h
theorem Q4y{t:TypeId}{i:TypeInfo}(hi:E.P.info? t=some i)(b o:Nat)(T:TypeId)(cur:Array Value)(hb:w.heap[b]?=some (.cells cur T (0,0)))(v:Value)(hv:v.cells.size=i.size)
 (h1:∀u∈v.cells.toList,u.oneCell'=true) (hfit:o+v.cells.size≤cur.size):
 (Instr.storeAt t (.pointer (some ⟨b,o,none⟩)) v).run E.P w=.ok () (w.setRow b (cur.toList.take o++v.cells.toList++cur.toList.drop (o+v.cells.size)).toArray):=by
 have hst:=run_storeCells_at E.P b o T v.cells.toList 0 cur w hb (by simpa using hfit) h1
 simp only[Nat.add_zero,Array.length_toList]at hst
 unfold Instr.storeAt storeVar
 simp only[bind,Sem.run_bind',Instr.sureAddr,pure,Sem.run_pure',Result.andThen_ok,Q1d hi,hv,ne_eq,not_true_eq_false,if_false]
 rw[hst]
 rw[←hv]
theorem Z3n(b c:Nat)(cs:Array Value)(h:c≠b):(w.setRow b cs).heap[c]?=w.heap[c]?:=setRow_other w b c cs h
theorem J0q(hI:OInv E γ H Φ w){ty:TypeId}{a v:Value}{p x:AV}{H':List AObj}(ha:ARel γ H Φ w a p)(hx:ARel γ H Φ w v x)(h:J0r E H ty p x=some H'):
 ∃w',(Instr.storeAt ty a v).run E.P w=.ok () w'∧∃γ' Φ',Ok E γ H Φ w γ' H' Φ' w':=by
 unfold J0r at h
 split at h
 ·cases h
 rename_i ti hT
 obtain⟨i,d,hi,his,_,hd,hk,_⟩:=(E.hT _ _ hT).info
 split at h
 ·rename_i l o
  split at h
  ·rename_i cs hH
   obtain⟨g,hg,b,T,vs,hv,ho,hb,hl,hr,hn⟩:=hI.gh hH
   have haddr:a=.pointer (some ⟨b,o,none⟩):=by
    cases ha with
    | ref b' l off hgv=>
      simp only[gv,hg,Option.map_some,Option.some.injEq]at hgv
      rw[hv]at hgv
      injection hgv with hgv
      injection hgv with hgv
      injection hgv with hgv
      rw[hgv]
   subst haddr
   have hlH:l<H.length:=(List.getElem?_eq_some_iff.1 hH).1
   have step:∀ (cs':List AV) (vs':List Value),vs'.length=cs'.length→(∀ (k:Nat) u c,vs'[k]?=some u→cs'[k]?=some c→u.oneCell'=true∧ARel γ H Φ w u c)→(∀c∈cs',c∈cs∨c.isS=false)→
    Ok E γ H Φ w (γ.set l g) (H.set l (.var cs')) Φ (w.setRow b ⟨vs'⟩):=by
    intro cs' vs' hl' hr' hns
    have hheap:=setRow_heap w b ⟨vs⟩ ⟨vs'⟩ T (0,0) hb
    refine hI.setObj (o':=.var cs') (g':=g) hH hg (fun c hc hn'=>Z3n b c _ (fun e=>hn' (by rw[ho,e];simp))) (by simp) rfl rfl rfl (fun _ _ h=>h) (fun _ _ h _ _=>h) (fun c k h=>by simpa using hI.phi c k h)
     (fun c k hΦ hc=>by rw[ho]at hc;simp at hc;subst hc;exact absurd hΦ (hn.1 k)) (fun c hc=>⟨.inl hc,by simpa using(hI.own l g hg c hc).2⟩) (.inl rfl) (fun _ _ _ h=>by cases h) (fun hE=>⟨b,T,vs',hv,ho,hheap,hl',fun k u c hu hc=>⟨(hr' k u c hu hc).1,(hr' k u c hu hc).2.mono hE⟩,hn.1,fun c hc hs=>(hns c hc).elim (fun h=>hn.2 c h hs) (fun h=>by rw[h]at hs;cases hs)⟩)
   split at h
   ·split at h
    ·rename_i ps
     split at h
     ·rename_i hc
      obtain⟨hps,hfit⟩:=hc
      simp only[Option.some.injEq]at h
      subst h
      cases Q0k hx with
      | agg us cs2 hul hu1 hur=>
        have hvs:(Value.agg ⟨us⟩).cells.size=i.size:=by simp[Value.cells];omega
        have hrun:=Q4y (E:=E) (w:=w) hi b o T ⟨vs⟩ hb (.agg ⟨us⟩) hvs (fun u hu=>by
         obtain⟨k,hk,hkc⟩:=List.getElem_of_mem hu
         have hk':k<us.length:=by simpa[Value.cells]using hk
         have hku:us[k]=u:=by simpa[Value.cells]using hkc
         rw[←hku]
         exact(hur k us[k] (ps[k]'(by omega)) (List.getElem?_eq_getElem hk') (List.getElem?_eq_getElem (by omega))).one (hu1 _ (List.getElem_mem _))) (by rw[hvs,his];simp;omega)
        have hsz:(Value.agg ⟨us⟩).cells.size=ti.size:=by rw[hvs,his]
        rw[hsz]at hrun
        refine⟨_,hrun,_,_,step (cs.take o++ps.map AV.pv++cs.drop (o+ti.size)) (vs.take o++us++vs.drop (o+ti.size)) (by simp[hl,hul]) (fun k u c hu hc=>?_) (fun c hc=>by
         rcases List.mem_append.1 hc with hc|hc
         ·rcases List.mem_append.1 hc with hc|hc
          ·exact .inl (List.mem_of_mem_take hc)
          obtain⟨q,_,rfl⟩:=List.mem_map.1 hc;exact .inr rfl
         exact .inl (List.mem_of_mem_drop hc))⟩
        have hto:(vs.take o).length=o:=by rw[List.length_take];omega
        have htc:(cs.take o).length=o:=by rw[List.length_take];omega
        by_cases hk1:k<o
        ·rw[List.append_assoc,List.getElem?_append_left (by omega),List.getElem?_take,if_pos hk1]at hu hc
         exact hr k u c hu hc
        rw[List.append_assoc,List.getElem?_append_right (by omega)]at hu hc
        rw[hto]at hu
        rw[htc]at hc
        by_cases hk2:k-o<us.length
        ·rw[List.getElem?_append_left hk2]at hu
         rw[List.getElem?_append_left (by simp;omega),List.getElem?_map]at hc
         obtain⟨q,hq,rfl⟩:=Option.map_eq_some_iff.1 hc
         have hrq:=hur (k-o) u q hu hq
         exact⟨hrq.one (hu1 q (List.mem_of_getElem? hq)),.pv hrq⟩
        rw[List.getElem?_append_right (by omega),List.getElem?_drop]at hu
        rw[List.getElem?_append_right (by simp;omega),List.getElem?_drop,List.length_map]at hc
        have hlen:us.length=ps.length:=hul
        exact hr _ u c hu (by rw[hlen];exact hc)
     cases h
    ·rename_i ps
     split at h
     ·rename_i hc
      obtain⟨hps,hfit,hnos⟩:=hc
      simp only[Option.some.injEq]at h
      subst h
      cases hx with
      | agg us _ hul hu1 hur=>
        have hvs:(Value.agg ⟨us⟩).cells.size=i.size:=by simp[Value.cells];omega
        have hrun:=Q4y (E:=E) (w:=w) hi b o T ⟨vs⟩ hb (.agg ⟨us⟩) hvs (fun u hu=>hu1 u (by simpa[Value.cells]using hu)) (by rw[hvs,his];simp;omega)
        have hsz:(Value.agg ⟨us⟩).cells.size=ti.size:=by rw[hvs,his]
        rw[hsz]at hrun
        refine⟨_,hrun,_,_,step (cs.take o++ps++cs.drop (o+ti.size)) (vs.take o++us++vs.drop (o+ti.size)) (by simp[hl,hul]) (fun k u c hu hc=>?_) (fun c hc=>by
         rcases List.mem_append.1 hc with hc|hc
         ·rcases List.mem_append.1 hc with hc|hc
          ·exact .inl (List.mem_of_mem_take hc)
          exact .inr (J2f hnos c hc)
         exact .inl (List.mem_of_mem_drop hc))⟩
        have hto:(vs.take o).length=o:=by rw[List.length_take];omega
        have htc:(cs.take o).length=o:=by rw[List.length_take];omega
        by_cases hk1:k<o
        ·rw[List.append_assoc,List.getElem?_append_left (by omega),List.getElem?_take,if_pos hk1]at hu hc
         exact hr k u c hu hc
        rw[List.append_assoc,List.getElem?_append_right (by omega)]at hu hc
        rw[hto]at hu
        rw[htc]at hc
        by_cases hk2:k-o<us.length
        ·rw[List.getElem?_append_left hk2]at hu
         rw[List.getElem?_append_left (by omega)]at hc
         exact⟨hu1 u (List.mem_of_getElem? hu),hur (k-o) u c hu hc⟩
        rw[List.getElem?_append_right (by omega),List.getElem?_drop]at hu
        rw[List.getElem?_append_right (by omega),List.getElem?_drop]at hc
        have hlen:us.length=ps.length:=hul
        exact hr _ u c hu (by rw[hlen];exact hc)
     cases h
    cases h
   ·cases h
   rename_i k1 k2
   split at h
   ·rename_i hc
    obtain⟨hoc,h1,hs1⟩:=hc
    simp only[Option.some.injEq]at h
    subst h
    obtain⟨hone,hcells⟩:=J6t hx h1
    have hvs:v.cells.size=i.size:=by rw[hcells,his,hs1];rfl
    have hrun:=Q4y (E:=E) (w:=w) hi b o T ⟨vs⟩ hb v hvs (fun u hu=>by rw[hcells]at hu;simp at hu;rw[hu];exact hone) (by rw[hcells];simp;omega)
    have harr:((⟨vs⟩:Array Value).toList.take o++v.cells.toList++(⟨vs⟩:Array Value).toList.drop (o+v.cells.size)).toArray=⟨vs.set o v⟩:=by
     rw[hcells]
     show(vs.take o++[v]++vs.drop (o+1)).toArray=_
     rw[List.set_eq_take_append_cons_drop,if_pos (by omega)]
     simp
    rw[harr]at hrun
    refine⟨_,hrun,_,_,step (cs.set o x) (vs.set o v) (by simp[hl]) (fun k u c hu hc=>?_) (fun c hc=>by
     rcases List.mem_or_eq_of_mem_set hc with hc|rfl
     ·exact .inl hc
     exact .inr (X3t h1))⟩
    rcases Z0w hu with⟨rfl,rfl,_⟩|⟨hk,hu'⟩
    ·rw[List.getElem?_set_self (by omega)]at hc
     simp only[Option.some.injEq]at hc
     subst hc
     exact⟨hone,hx⟩
    rw[List.getElem?_set_ne (Ne.symm hk)]at hc
    exact hr k u c hu' hc
   cases h
  cases h
 ·rename_i l n j o
  split at h
  ·rename_i e sz xs q hH hq
   split at h
   ·rename_i y hy
    split at h
    ·rename_i hc
     obtain⟨hn,hqs⟩:=hc
     subst hn
     obtain⟨g,hg,hO⟩:=hI.gh hH
     obtain⟨cells,hown,hcl,hrep,hsz,h1,hgo,h0,hphi⟩:=hO
     have hys:=hsz y (List.mem_of_getElem? hy)
     have hlt:j<xs.length:=(List.getElem?_eq_some_iff.1 hy).1
     have hmul:j * sz+sz≤xs.length * sz:=by
      have:=Nat.mul_le_mul_right sz (show j+1≤xs.length from hlt)
      rw[Nat.succ_mul]at this
      exact this
     have hfl:=Q0h hsz
     cases ha with
     | vptr b oa l n i' off e0 sz0 len0 hrow hn0 hcur=>
       have hre:=Q2a hH
       rw[hrow]at hre
       injection hre with hre
       injection hre with hr1 hre
       injection hre with hr2 hr3
       obtain⟨cap,hgv,hoa⟩:=hcur hr3
       simp only[gv,hg,Option.map_some,Option.some.injEq]at hgv
       rw[hr2]at hoa
       subst hoa
       rcases hown.2 with⟨hnil,hz⟩|⟨b',cap',cur,hv',_,hheap,hnc,hcm,hcs,htake⟩
       ·omega
       have hbb:b'=b:=by
        rw[hv']at hgv
        injection hgv with h1 h2 h3
        injection h1 with h1
        injection h1
       subst hbb
       have hqr:=Q1n hI hx hq
       obtain⟨qc1,qc2,qc3⟩:=Q4g hqr
       have hvs:v.cells.size=i.size:=by rw[his,←hqs,←qc1];simp
       have hnΦ:∀k,¬ Φ b' k:=fun k hk=>by
        have:=((hphi b' (by rw[hv'];rfl)) k).1 hk
        simp at this
       have step:∀ (y':PV),o+ti.size≤sz→y'.cells.length=sz→(∀c∈y'.cells,c.one=true)→(∀k,y'.cells[k]?=if o≤k∧k<o+ti.size then q.cells[k-o]? else y.cells[k]?)→
        ∃w',(Instr.storeAt ty (.pointer (some ⟨b',j * sz+o,none⟩)) v).run E.P w=.ok () w'∧∃γ' Φ',Ok E γ H Φ w γ' (H.set l (.row e sz (xs.set j y') false)) Φ' w':=by
        intro y' hfit hyl hy1 hyc
        have hfitc:j * sz+o+v.cells.size≤cur.size:=by
         rw[hvs,his,hcs]
         have:=Nat.mul_le_mul_right sz hnc
         omega
        have hrun:=Q4y (E:=E) (w:=w) hi b' (j * sz+o) e cur hheap v hvs (fun u hu=>by
         obtain⟨k,hk,hkc⟩:=List.getElem_of_mem hu
         have hkq:k<q.cells.length:=by rw[←qc1];exact hk
         exact(qc3 k u q.cells[k] (by rw[List.getElem?_eq_getElem hk,hkc]) (List.getElem?_eq_getElem hkq)).one (qc2 _ (List.getElem_mem _))) hfitc
        generalize hnew:(cur.toList.take (j * sz+o)++v.cells.toList++cur.toList.drop (j * sz+o+v.cells.size)).toArray=cur' at hrun
        have hget:∀k,cur'[k]?=if j * sz+o≤k∧k<j * sz+o+ti.size then v.cells[k-(j * sz+o)]? else cur[k]?:=by
         intro k
         have ht:(cur.toList.take (j * sz+o)).length=j * sz+o:=by rw[List.length_take,Array.length_toList];omega
         have hvl:v.cells.toList.length=ti.size:=by rw[Array.length_toList,hvs,his]
         rw[←hnew]
         simp only[List.getElem?_toArray]
         by_cases hk1:k<j * sz+o
         ·rw[if_neg (by omega),List.append_assoc,List.getElem?_append_left (by omega),List.getElem?_take,if_pos hk1,Array.getElem?_toList]
         rw[List.append_assoc,List.getElem?_append_right (by omega),ht]
         by_cases hk2:k<j * sz+o+ti.size
         ·rw[if_pos ⟨by omega,hk2⟩,List.getElem?_append_left (by omega),Array.getElem?_toList]
         rw[if_neg (by omega),List.getElem?_append_right (by omega),List.getElem?_drop,Array.getElem?_toList,hvs,his,hvl]
         congr 1
         omega
        have hcsz:cur'.size=cur.size:=by
         rw[←hnew]
         simp only[List.size_toArray,List.length_append,List.length_take,List.length_drop,Array.length_toList]
         omega
        have hheap':=setRow_heap w b' cur cur' e (0,0) hheap
        have hxs':∀z∈xs.set j y',z.cells.length=sz:=fun z hz=>by
         rcases List.mem_or_eq_of_mem_set hz with hz|rfl
         ·exact hsz z hz
         exact hyl
        have hlen':(xs.set j y').length=xs.length:=by simp
        have hown':(w.setRow b' cur').ownsRow 0 e sz g.v (xs.set j y').length (cur'.toList.take (xs.length * sz)):=by
         refine⟨?_,.inr ⟨b',cap',cur',by rw[hlen'];exact hv',Nat.zero_le _,hheap',by rw[hlen'];exact hnc,hcm,by rw[hcsz,hcs],by rw[hlen']⟩⟩
         rw[List.length_take,Array.length_toList (xs:=cur'),hcsz,hcs,hlen']
         exact Nat.min_eq_left (Nat.mul_le_mul_right _ hnc)
        have hcellv:∀k,k<xs.length * sz→cells[k]?=cur[k]?:=fun k hk=>by
         rw[←htake,List.getElem?_take,if_pos hk,Array.getElem?_toList]
        have hmemb:∀c,c∈g.own↔c=b':=fun c=>by rw[hgo,hv'];simp[Value.ownBlock]
        refine⟨_,hrun,γ.set l g,Φ,hI.setObj (g':=g) hH hg (fun c hc hn'=>Z3n b' c _ (fun e=>hn' ((hmemb c).2 e))) (by simp) rfl rfl rfl (fun _ _ h=>h) (fun _ _ h _ _=>h) (fun c k h=>by simpa using hI.phi c k h)
         (fun c k hΦ hc=>by rw[hmemb]at hc;subst hc;exact absurd hΦ (hnΦ k)) (fun c hc=>⟨.inl hc,by simpa using(hI.own l g hg c hc).2⟩) (.inl rfl)
         (Q7c (by simp) (fun _=>rfl)) (fun hE=>?_)⟩
        refine⟨cur'.toList.take (xs.length * sz),hown',?_,fun k u c hu hc=>?_,hxs',fun c hc=>?_,by rw[hgo],h0,fun c hc k=>?_⟩
        ·rw[Q0h hxs',hlen',List.length_take,Array.length_toList (xs:=cur'),hcsz,hcs]
         exact Nat.min_eq_left (Nat.mul_le_mul_right _ hnc)
        ·have hk:k<xs.length * sz:=by
          have:=(List.getElem?_eq_some_iff.1 hc).1
          rw[Q0h hxs',hlen']at this
          exact this
         rw[List.getElem?_take,if_pos hk,Array.getElem?_toList,hget k]at hu
         have hq1:k / sz<xs.length:=Nat.div_lt_of_lt_mul (by rw[Nat.mul_comm];exact hk)
         have hkd:k / sz * sz+k % sz=k:=by rw[Nat.mul_comm];exact Nat.div_add_mod k sz
         have hmod:k % sz<sz:=Nat.mod_lt _ h0
         have hold:∀c,(flat xs)[k]?=some c→cur[k]?=some u→Rep Φ (w.setRow b' cur') u c:=fun c hc hu=>(hrep k u c (by rw[hcellv k hk];exact hu) hc).mono (fun _ _ h=>h) hE.cell
         by_cases hkj:k / sz=j
         ·have hf:(flat (xs.set j y'))[k]?=y'.cells[k % sz]?:=by
           have:=Q2c hxs' j (k % sz) y' (by rw[List.getElem?_set_self hlt]) hmod
           rw[←hkj,hkd]at this
           rw[hkj]at this
           exact this
          rw[hf,hyc]at hc
          have hkk:j * sz+k % sz=k:=by rw[←hkj];exact hkd
          by_cases hin:o≤k % sz∧k % sz<o+ti.size
          ·rw[if_pos hin]at hc
           rw[if_pos ⟨by omega,by omega⟩]at hu
           rw[←Array.getElem?_toList]at hu
           refine(qc3 _ u c ?_ hc).mono (fun _ _ h=>h) hE.cell
           rw[show k % sz-o=k-(j * sz+o) from by omega]
           exact hu
          rw[if_neg hin]at hc
          rw[if_neg (by omega)]at hu
          refine hold c ?_ hu
          rw[←hkk,Q2c hsz j _ y hy hmod]
          exact hc
         obtain⟨z,hz⟩:∃z,xs[k / sz]?=some z:=⟨_,List.getElem?_eq_getElem hq1⟩
         have hf:(flat (xs.set j y'))[k]?=z.cells[k % sz]?:=by
          have:=Q2c hxs' (k / sz) (k % sz) z (by rw[List.getElem?_set_ne (fun e=>hkj e.symm)];exact hz) hmod
          rw[hkd]at this
          exact this
         rw[hf]at hc
         have hout:¬ (j * sz+o≤k∧k<j * sz+o+ti.size):=by
          intro⟨a1,a2⟩
          apply hkj
          have b1:k<(j+1) * sz:=by rw[Nat.succ_mul];omega
          have b2:j * sz≤k:=by omega
          exact Nat.div_eq_of_lt_le b2 b1
         rw[if_neg hout]at hu
         refine hold c ?_ hu
         have:=Q2c hsz (k / sz) (k % sz) z hz hmod
         rw[hkd]at this
         rw[this]
         exact hc
        ·obtain⟨z,hz,hcz⟩:=List.mem_flatMap.1 hc
         rcases List.mem_or_eq_of_mem_set hz with hz|rfl
         ·exact h1 c (Q5c hz hcz)
         exact hy1 c hcz
        rw[hlen']
        exact hphi c hc k
       split at h
       ·rename_i cs
        split at h
        ·rename_i hfit
         simp only[Option.some.injEq]at h
         subst h
         have hcsl:cs.length=sz:=hys
         exact step (.agg (Q1e cs o q.cells)) (by omega) (by show(Q1e cs o q.cells).length=sz;rw[J9g _ _ _ (by omega)];exact hcsl) (fun c hc=>by
          obtain⟨k,hk,hkc⟩:=List.getElem_of_mem hc
          have hgk:(Q1e cs o q.cells)[k]?=some c:=by rw[←hkc];exact List.getElem?_eq_getElem hk
          rw[J3y _ _ _ _ (by omega)]at hgk
          split at hgk
          ·exact qc2 c (List.mem_of_getElem? hgk)
          ·exact h1 c (Q5c (List.mem_of_getElem? hy) (List.mem_of_getElem? hgk))) (fun k=>by
          show(Q1e cs o q.cells)[k]?=_
          rw[J3y _ _ _ _ (by omega),hqs]
          rfl)
        cases h
       rename_i hnotagg
       split at h
       ·rename_i hc
        obtain⟨rfl,hs1,hq1⟩:=hc
        simp only[Option.some.injEq]at h
        subst h
        have hyc:y.cells=[y]:=by
         cases y with
         | agg cs=>exact absurd rfl (hnotagg cs)
         | _=>rfl
        have hqc:q.cells=[q]:=by
         cases q with
         | agg cs=>simp[PV.one]at hq1
         | _=>rfl
        have hsz1:sz=1:=by rw[←hys,hyc];rfl
        refine step q (by omega) (by rw[hqc,hsz1];rfl) qc2 (fun k=>?_)
        rw[hqc,hyc,hs1]
        by_cases hk:k=0
        ·subst hk
         rfl
        rw[if_neg (by omega)]
        cases k with
        | zero=>exact absurd rfl hk
        | succ k=>rfl
       cases h
    cases h
   cases h
  ·rename_i hH hq
   exact Z3i hI (E.hT _ _ hT) hH ha hx h
  ·rename_i hH hq
   exact Z3k hI (E.hT _ _ hT) hH ha (Q1n hI hx hq) h
  cases h
 cases h
end
end Go.Abs
namespace Go.Abs
open Go.RowKit
def Q4b(E:Env)(H:List AObj)(ty:TypeId)(n c:AV):Option (AV×List AObj):=
 match E.T ty,n,c with
 | some ⟨.slice e,_,_,_⟩,.pv (.int _ n),.pv (.int _ c)=>match E.T e with
   | some te=>match J3m te with
     | some z=>if 0≤n∧n≤c∧c.toNat * te.bytes≤140737488355328∧te.bytes≠0∧te.size≠0∧z.cells.length=te.size then
        some (.vec H.length n.toNat,H++[.row e te.size (List.replicate n.toNat z) false])else none
     | none=>none
   | none=>none
 | _,_,_=>none
section
variable {E:Env}{γ:List Gh}{H:List AObj}{Φ:Nat→Nat→Prop}{w:World}
theorem X3y(z:Array Value)(n k:Nat)(hz:z.size≠0)(hk:k<n * z.size):(madeCells z (n * z.size))[k]?=z[k % z.size]?:=by
 unfold madeCells
 have:k % z.size<z.size:=Nat.mod_lt _ (by omega)
 simp[hk,this]
theorem Z2u(hI:OInv E γ H Φ w){ty:TypeId}{a b:Value}{x y r:AV}{H':List AObj}(ha:ARel γ H Φ w a x)(hb:ARel γ H Φ w b y)(h:Q4b E H ty x y=some (r,H')):
 ∃u w',(Instr.makeSlice ty a b).run E.P w=.ok u w'∧Q6w E γ H Φ w r H' u w':=by
 unfold Q4b at h
 split at h
 ·rename_i e _ _ _ kn n kc c hT
  split at h
  ·rename_i te hTe
   split at h
   ·rename_i z hzp
    split at h
    ·rename_i hc
     obtain⟨h0,hnc,hby,hb0,hs0,hzl⟩:=hc
     simp only[Option.some.injEq,Prod.mk.injEq]at h
     obtain⟨rfl,rfl⟩:=h
     have hav:=Q2j (Q0k ha)
     have hbv:=Q2j (Q0k hb)
     subst hav;subst hbv
     obtain⟨d,hd,hk⟩:=(E.hT _ _ hT).und
     rw[Q3g hk]at hd
     obtain⟨i,d',hi,his,hib,hd',hk',hz⟩:=(E.hT _ _ hTe).info
     obtain⟨zv,hzr,hzrep⟩:=J5t (w:=w) (E.hT _ _ hTe) hzp
     have hzi:i.zero=some zv:=by
      cases hzz:i.zero with
      | none=>simp[zeroValue,typeInfo,hi,hzz]at hzr
      | some z'=>simp[zeroValue,typeInfo,hi,hzz]at hzr;rw[hzr]
     obtain⟨c1,c2,c3⟩:=Q4g (hzrep Φ w)
     have hzs:zv.cells.size=i.size:=by rw[his,←hzl,←c1];simp
     have hcm:c.toNat≤140737488355328:=by
      have:c.toNat≤c.toNat * te.bytes:=Nat.le_mul_of_pos_right _ (by omega)
      omega
     have hrun:=run_make (P:=E.P) w ty e i zv hd hi hzi kn kc n c h0 hnc (by
      have hh:((c.toNat * te.bytes:Nat):Int)≤140737488355328:=by omega
      rw[Int.natCast_mul,Int.toNat_of_nonneg (by omega)]at hh
      rw[hib,Int.mul_comm]
      omega) (by omega)
     have hnl:(List.replicate n.toNat z).length=n.toNat:=by simp
     have hsz:∀q∈List.replicate n.toNat z,q.cells.length=te.size:=fun q hq=>by rw[(List.mem_replicate.1 hq).2];exact hzl
     have hmsz:(madeCells zv.cells (c.toNat * i.size)).size=c.toNat * i.size:=size_madeCells _ _
     have hmul:n.toNat * i.size≤c.toNat * i.size:=Nat.mul_le_mul_right _ (by omega)
     refine⟨_,_,hrun,?_⟩
     have hown:(w.alloc (.cells (madeCells zv.cells (c.toNat * i.size)) e)).ownsRow 0 e i.size (.slice (some ⟨w.heap.size,0,none⟩) n.toNat c.toNat) (List.replicate n.toNat z).length ((madeCells zv.cells (c.toNat * i.size)).toList.take (n.toNat * i.size)):=by
      refine⟨?_,.inr ⟨w.heap.size,c.toNat,_,by rw[hnl],Nat.zero_le _,heap_alloc_new w _,by rw[hnl];omega,by unfold maxLen;omega,hmsz,by rw[hnl]⟩⟩
      rw[List.length_take,Array.length_toList,hmsz,hnl]
      omega
     have hfl:=Q0h hsz
     rw[hnl]at hfl
     have:=Z0z (v:=.slice none 0 0) hI hown ⟨rfl,rfl,rfl,by simp,.inl ⟨rfl,by simp,fun b hb=>heap_alloc_old w _ b hb⟩⟩ rfl ⟨?_,fun q hq=>?_,fun k u q hu hq=>?_⟩ (by rw[his];exact hsz) (by omega) false
     ·rw[←his]
      rw[hnl]at this
      exact this
     ·rw[List.length_take,Array.length_toList,hmsz,hfl,←his]
      omega
     ·obtain⟨p,hp,hqp⟩:=List.mem_flatMap.1 hq
      rw[(List.mem_replicate.1 hp).2]at hqp
      exact c2 q hqp
     have hk:k<n.toNat * te.size:=by
      have:=(List.getElem?_eq_some_iff.1 hq).1
      omega
     have hpos:0<te.size:=by omega
     have hq1:k / te.size<n.toNat:=Nat.div_lt_of_lt_mul (by rw[Nat.mul_comm];exact hk)
     have hmod:k % te.size<te.size:=Nat.mod_lt _ hpos
     have hkd:k / te.size * te.size+k % te.size=k:=by rw[Nat.mul_comm];exact Nat.div_add_mod k te.size
     have hf:=Q2c hsz (k / te.size) (k % te.size) z (by rw[List.getElem?_replicate,if_pos hq1]) hmod
     rw[hkd,hq]at hf
     rw[List.getElem?_take,if_pos (by rw[his];exact hk),Array.getElem?_toList]at hu
     have hms:zv.cells.size=te.size:=by rw[hzs,his]
     rw[his,←hms,X3y _ _ _ (by omega) (by rw[hms];exact Nat.lt_of_lt_of_le hk (Nat.mul_le_mul_right _ (by omega))),hms]at hu
     exact c3 (k % te.size) u q (by rw[Array.getElem?_toList];exact hu) hf.symm
    cases h
   cases h
  cases h
 cases h
end
end Go.Abs
namespace Go.Abs
open Go.RowKit
def erange(E:Env)(H:List AObj)(ty:TypeId)(x:AV):Option (AV×List AObj):=
 match E.T ty,x with
 | some ⟨.str,_,_,_⟩,.pv (.str s)=>some (.ref H.length 0,H++[.iter s 0])
 | _,_=>none
def imin(x y:Int):Int:=if y<x then y else x
def imax(x y:Int):Int:=if y>x then y else x
def mm2(mx:Bool):AV→AV→Option AV
 | .pv (.int k x),.pv (.int _ y)=>some (.pv (.int k (bif mx then imax x y else imin x y)))
 | _,_=>none
def mmL(mx:Bool):AV→List AV→Option AV
 | a,[]=>some a
 | a,b::r=>match mm2 mx a b with
   | some c=>mmL mx c r
   | none=>none
def qmm(mx:Bool):List AV→Option AV
 | a::b::r=>mmL mx a (b::r)
 | _=>none
def Q2d:AV→Option (List AV)
 | .pv p=>some (p.cells.map .pv)
 | .nils=>some [.nils]
 | .vec l n=>some [.vec l n]
 | .ref l o=>some [.ref l o]
 | .mref l=>some [.mref l]
 | .full xs=>some [.full xs]
 | _=>none
def Z3r(fs:List (Nat×Nat)):List AV→List (Nat×AV)→Option (List AV)
 | cs,[]=>some cs
 | cs,(f,v)::r=>match fs[f]?,Q2d v with
   | some (off,sz),some us=>if us.length=sz∧off+sz≤cs.length then Z3r fs (cs.take off++us++cs.drop (off+us.length)) r else none
   | _,_=>none
def Z3t(T:Nat→Option TI)(t:TypeId)(parts:List (Nat×AV)):Option AV:=
 match T t with
 | some ⟨.strct fs,_,_,some z⟩=>(Z3r fs (z.map zAV) parts).map .agg
 | _=>none
def Q7q(E:Env)(H:List AObj)(ty:TypeId)(len:Nat)(parts:List (Nat×AV)):Option (AV×List AObj):=
 match E.T ty with
 | some ⟨.slice e,_,_,_⟩=>match E.T e with
   | some te=>if parts.length=len∧len * te.size≤16777216∧te.zero.isSome=true∧te.size≠0 then match Q7p H te.size 0 parts with
      | some xs=>some (.vec H.length xs.length,H++[.row e te.size xs false])
      | none=>none
     else none
   | none=>none
 | _=>none
section
variable {E:Env}{γ:List Gh}{H:List AObj}{Φ:Nat→Nat→Prop}{w:World}
theorem Z8o{v:Value}{a:AV}{us:List AV}(ha:ARel γ H Φ w v a)(h:Q2d a=some us):v.cells.toList.length=us.length∧∀ (k:Nat) x c,v.cells.toList[k]?=some x→us[k]?=some c→x.oneCell'=true∧ARel γ H Φ w x c:=by
 have single:v.cells=#[v]→(∀p,a≠.pv p)→(∀vs,a≠.tup vs)→a≠.any→(∀vs,a≠.agg vs)→some [a]=some us→v.cells.toList.length=us.length∧∀ (k:Nat) x c,v.cells.toList[k]?=some x→us[k]?=some c→x.oneCell'=true∧ARel γ H Φ w x c:=by
  intro hc h1 h2 h3 h4 h5
  simp only[Option.some.injEq]at h5
  subst h5
  rw[hc]
  refine⟨rfl,fun k x c hx hcc=>?_⟩
  match k,hx,hcc with
  | 0,hx,hcc=>
    simp at hx hcc
    subst hx hcc
    exact⟨J4o ha h1 h2 h3 h4,ha⟩
  | k+1,hx,hcc=>simp at hx
 cases ha with
 | @pv v p hp=>
   simp only[Q2d,Option.some.injEq]at h
   subst h
   obtain⟨hl,h1,hr⟩:=Q4g hp
   refine⟨by simpa using hl,fun k x c hx hc=>?_⟩
   rw[List.getElem?_map]at hc
   obtain⟨q,hq,rfl⟩:=Option.map_eq_some_iff.1 hc
   have hrep:=hr k x q hx hq
   exact⟨hrep.one (h1 q (List.mem_of_getElem? hq)),.pv hrep⟩
 | vec=>exact single rfl (by simp) (by simp) (by simp) (by simp) h
 | ref=>exact single rfl (by simp) (by simp) (by simp) (by simp) h
 | mref=>exact single rfl (by simp) (by simp) (by simp) (by simp) h
 | selfp=>simp[Q2d]at h
 | nils=>exact single rfl (by simp) (by simp) (by simp) (by simp) h
 | full=>exact single rfl (by simp) (by simp) (by simp) (by simp) h
 | any=>simp[Q2d]at h
 | ifc=>simp[Q2d]at h
 | pptr=>simp[Q2d]at h
 | vptr=>simp[Q2d]at h
 | tup=>simp[Q2d]at h
 | fn=>simp[Q2d]at h
 | agg=>simp[Q2d]at h
theorem Z4h(fs:List (Nat×Nat))(place:Nat→Option (Nat×Nat))(hp:∀ (i:Nat) p,fs[i]?=some p→place i=some p):
 ∀ (parts:List (Nat×AV)) (vparts:List (Nat×Value)) (cs:List AV) (vs:Array Value) (r:List AV),vparts.length=parts.length→
  (∀ (j:Nat) (p:Nat×AV) (q:Nat×Value),parts[j]?=some p→vparts[j]?=some q→q.1=p.1∧ARel γ H Φ w q.2 p.2)→
  (vs.toList.length=cs.length∧∀ (k:Nat) x c,vs.toList[k]?=some x→cs[k]?=some c→x.oneCell'=true∧ARel γ H Φ w x c)→
  Z3r fs cs parts=some r→∃us,Instr.fill place vs vparts=some us∧us.toList.length=r.length∧∀ (k:Nat) x c,us.toList[k]?=some x→r[k]?=some c→x.oneCell'=true∧ARel γ H Φ w x c
 | [],vparts,cs,vs,r,hl,_,hcr,h=>by
   simp only[Z3r,Option.some.injEq]at h
   subst h
   cases vparts with
   | nil=>exact⟨vs,rfl,hcr⟩
   | cons a b=>simp at hl
 | (i,v)::parts,[],cs,vs,r,hl,_,_,_=>by simp at hl
 | (i,v)::parts,(i',v')::vparts,cs,vs,r,hl,hrel,hcr,h=>by
   simp only[Z3r]at h
   split at h
   ·rename_i off sz us hf hus
    split at h
    ·rename_i hsz
     obtain⟨hsz,hoff⟩:=hsz
     obtain⟨he,hr⟩:=hrel 0 (i,v) (i',v') rfl rfl
     simp only at he
     subst he
     obtain⟨hcl,hcc⟩:=Z8o hr hus
     have hvl:v'.cells.size=sz:=by rw[←hsz,←hcl];simp
     obtain⟨hl1,hl3⟩:=hcr
     have hsize:vs.size=cs.length:=by rw[←hl1];simp
     obtain⟨f1,f2⟩:=Z3d off v'.cells.toList 0 vs (by simp;omega)
     have hfold:v'.cells.zipIdx.foldl (fun cs (c,j)=>cs.setIfInBounds (off+j) c) vs=(v'.cells.toList.zipIdx 0).foldl (fun cs (c,j)=>cs.setIfInBounds (off+j) c) vs:=by
      rw[←Array.foldl_toList,Array.toList_zipIdx]
     have hstep:Instr.fill place vs ((i',v')::vparts)=Instr.fill place ((v'.cells.toList.zipIdx 0).foldl (fun cs (c,j)=>cs.setIfInBounds (off+j) c) vs) vparts:=by
      rw[←hfold]
      simp only[Instr.fill,hp _ _ hf]
      rw[if_neg]
      simp only[hvl,ne_eq,not_true_eq_false,decide_false,Bool.false_or,decide_eq_true_eq]
      omega
     rw[hstep]
     have hpc:off+us.length≤cs.length:=by omega
     have hto:(cs.take off).length=off:=by rw[List.length_take];omega
     refine Z4h fs place hp parts vparts _ _ r (by simpa using hl) (fun j a b ha hb=>hrel (j+1) a b (by simpa using ha) (by simpa using hb)) ⟨?_,fun k x c hx hc=>?_⟩ h
     ·rw[Array.length_toList,f1,hsize]
      simp only[List.length_append,List.length_drop,hto]
      omega
     rw[Array.getElem?_toList,f2 k]at hx
     have hlen:v'.cells.toList.length=us.length:=hcl
     by_cases hin:off≤k∧k<off+us.length
     ·rw[if_pos ⟨by omega,by omega⟩]at hx
      rw[List.append_assoc,List.getElem?_append_right (by omega),hto,List.getElem?_append_left (by omega)]at hc
      exact hcc (k-off) x c (by simpa using hx) hc
     rw[if_neg (by omega)]at hx
     refine hl3 k x c (by rw[Array.getElem?_toList];exact hx) ?_
     by_cases hk:k<off
     ·rw[List.append_assoc,List.getElem?_append_left (by omega),List.getElem?_take,if_pos hk]at hc
      exact hc
     rw[List.append_assoc,List.getElem?_append_right (by omega),hto,List.getElem?_append_right (by omega),List.getElem?_drop]at hc
     rw[←hc]
     congr 1
     omega
    cases h
   cases h
theorem Z7w{t:TypeId}{parts:List (Nat×AV)}{vparts:Array (Nat×Value)}(hl:vparts.size=parts.length)
 (hrel:∀ (j:Nat) (p:Nat×AV) (q:Nat×Value),parts[j]?=some p→vparts[j]?=some q→q.1=p.1∧ARel γ H Φ w q.2 p.2) {r:AV} (h:Z3t E.T t parts=some r):
 ∃u,(Instr.build t vparts).run E.P w=.ok u w∧ARel γ H Φ w u r:=by
 unfold Z3t at h
 split at h
 ·rename_i fs _ _ z hT
  obtain⟨cs,hcs,rfl⟩:=Option.map_eq_some_iff.1 h
  obtain⟨i,d,hi,hs,_,hd,hk,hz⟩:=(E.hT _ _ hT).info
  obtain⟨fields,rfl,hsize,hfs⟩:=Q6e hk
  obtain⟨zv,hzv,hzl,_,hzr,_⟩:=hz z rfl
  have hplaces:∀ (l:List Field) (k:Nat),(∀ (j:Nat) f,l[j]?=some f→fields[k+j]?=some f)→
   (l.mapM (fun f=>do pure (f.offset,←sizeOf f.type):Field→Sem (Nat×Nat))).run E.P w=.ok ((fs.drop k).take l.length) w:=by
   intro l
   induction l with
   | nil=>intro k _;simp
   | cons f l ih=>
     intro k hf
     have h0:=hf 0 f rfl
     rw[Nat.add_zero]at h0
     have hkl:k<fs.length:=by
      have:=(Array.getElem?_eq_some_iff.1 h0).1
      omega
     obtain⟨hoff,fi,hfi,hfsz⟩:=hfs k f fs[k] h0 (List.getElem?_eq_getElem hkl)
     have hrest:=ih (k+1) (fun j g hg=>by
      have:=hf (j+1) g (by simpa using hg)
      rw[show k+1+j=k+(j+1) from by omega]
      exact this)
     have hone:(do pure (f.offset,←sizeOf f.type):Sem (Nat×Nat)).run E.P w=.ok fs[k] w:=by
      simp[Q1d hfi,hoff,hfsz]
     simp only[bind]at hrest
     simp only[List.mapM_cons,bind,Sem.run_bind']at hone ⊢
     rw[hone]
     simp only[Result.andThen_ok,hrest]
     rw[List.drop_eq_getElem_cons hkl,List.length_cons,List.take_succ_cons]
     rfl
  have hmap:(fields.mapM (fun f=>do pure (f.offset,←sizeOf f.type):Field→Sem (Nat×Nat))).run E.P w=.ok fs.toArray w:=by
   have:=hplaces fields.toList 0 (fun j f hf=>by simpa using hf)
   rw[Array.mapM_eq_mapM_toList,Sem.run_map,this]
   simp[hsize]
  obtain⟨us,hus,hul,hur⟩:=Z4h (γ:=γ) (H:=H) (Φ:=Φ) (w:=w) fs (fs.toArray[·]?) (fun i p hp=>by simpa using hp) parts vparts.toList (z.map zAV) zv.cells cs (by simpa using hl)
   (fun j p q hp hq=>hrel j p q hp (by simpa using hq)) ⟨by simpa using hzl,fun k v c hv hc=>by
     rw[List.getElem?_map]at hc
     obtain⟨p,hp,rfl⟩:=Option.map_eq_some_iff.1 hc
     have h1:=hzr k v p hv hp
     exact⟨(h1.2.1 Φ w).one h1.1,J1l h1⟩⟩ hcs
  refine⟨.agg us,?_,.agg us.toList cs hul (fun v hv=>?_) (fun k v c hv hc=>(hur k v c hv hc).2)⟩
  ·unfold Instr.build
   simp only[bind]at hmap
   simp only[bind,Sem.run_bind']
   have hzrun:(zeroValue t).run E.P w=.ok zv w:=by simp[zeroValue,typeInfo,hi,hzv]
   simp only[hzrun,Result.andThen_ok,run_underlying hd,Sem.run_bind',hmap]
   rw[hus]
   rfl
  obtain⟨k,hk,hkv⟩:=List.getElem_of_mem hv
  exact(hur k v (cs[k]'(by omega)) (by rw[List.getElem?_eq_getElem hk,hkv]) (List.getElem?_eq_getElem (by omega))).1
 cases h
theorem Z4l(hI:OInv E γ H Φ w){ty:TypeId}{len:Nat}{parts:List (Nat×AV)}{vparts:Array (Nat×Value)}(hl:vparts.size=parts.length)
 (hrel:∀ (j:Nat) (p:Nat×AV) (q:Nat×Value),parts[j]?=some p→vparts[j]?=some q→q.1=p.1∧ARel γ H Φ w q.2 p.2) {r:AV} {H':List AObj} (h:Q7q E H ty len parts=some (r,H')):
 ∃u w',(Instr.buildSlice ty len vparts).run E.P w=.ok u w'∧Q6w E γ H Φ w r H' u w':=by
 unfold Q7q at h
 split at h
 ·rename_i e _ _ _ hT
  split at h
  ·rename_i te hTe
   split at h
   ·rename_i hc
    obtain⟨hpl,hbig,hzs,hs0⟩:=hc
    split at h
    ·rename_i xs hxs
     simp only[Option.some.injEq,Prod.mk.injEq]at h
     obtain⟨rfl,rfl⟩:=h
     obtain⟨d,hd,hk⟩:=(E.hT _ _ hT).und
     rw[Q3g hk]at hd
     obtain⟨i,d',hi,his,_,hd',hk',hz⟩:=(E.hT _ _ hTe).info
     obtain⟨z,hzz⟩:=Option.isSome_iff_exists.1 hzs
     obtain⟨zv,hzv,hzl,hzn,_⟩:=hz z hzz
     obtain⟨e1,e2,e3,e4⟩:=Q7o hI te.size parts vparts.toList 0 xs (by simpa using hl) (fun j p q hp hq=>hrel j p q hp (by simpa using hq)) hxs
     have hvl:vparts.toList.length=len:=by rw[Array.length_toList];omega
     generalize hbase:(Array.range (len * te.size)).map ((if len * te.size=0 then #[]else zv.cells)[· % (if len * te.size=0 then #[]else zv.cells).size]!)=base
     have hbs:base.size=len * te.size:=by rw[←hbase];simp
     obtain⟨us,hus,husz,hut⟩:=J2p te.size vparts.toList 0 base e3 (by rw[hvl,hbs];simp)
     have hul:us.toList=vparts.toList.flatMap fun p=>p.2.cells.toList:=by
      rw[Nat.zero_add,hvl,Nat.zero_mul,List.take_zero,List.nil_append,List.take_of_length_le (by simp[husz,hbs])]at hut
      exact hut
     have hfl:=Q0h e2
     have hmax:len≤maxLen:=by
      have:len≤len * te.size:=Nat.le_mul_of_pos_right _ (by omega)
      unfold maxLen
      omega
     have hxl:xs.length=len:=by omega
     have hus2:us.size=len * te.size:=by rw[husz,hbs]
     have hown:(w.alloc (.cells us e)).ownsRow 0 e te.size (.slice (some ⟨w.heap.size,0,none⟩) len len) xs.length us.toList:=by
      refine⟨by rw[Array.length_toList,hus2,hxl],.inr ⟨w.heap.size,len,us,by rw[hxl],Nat.zero_le _,heap_alloc_new w _,by omega,hmax,hus2,?_⟩⟩
      rw[hxl]
      exact List.take_of_length_le (by rw[Array.length_toList,hus2];exact Nat.le_refl _)
     refine⟨.slice (some ⟨w.heap.size,0,none⟩) len len,w.alloc (.cells us e),?_,Z0z (v:=.slice none 0 0) hI hown ⟨rfl,rfl,rfl,by simp,.inl ⟨rfl,by simp,fun b hb=>heap_alloc_old w _ b hb⟩⟩ rfl ?_ e2 (by omega) false⟩
     ·have hbig':¬ len * i.size>2 ^ 24:=by rw[his];omega
      unfold Instr.buildSlice
      simp only[bind,Sem.run_bind',run_underlying hd,Result.andThen_ok,Q1d hi,hbig',if_false]
      rw[his]
      have hz1:(zeroValue e).run E.P w=.ok zv w:=by simp[zeroValue,typeInfo,hi,hzv]
      by_cases hz0:len * te.size=0
      ·rw[if_pos hz0]at hbase ⊢
       simp only[Sem.run_bind',Sem.run_pure,Result.andThen_ok]
       rw[hbase,hus]
       simp only[Sem.run_bind',Q8b,Result.andThen_ok,Sem.run_pure]
      rw[if_neg hz0]at hbase ⊢
      simp only[Sem.run_bind',Sem.run_pure,Result.andThen_ok,hz1]
      rw[hbase,hus]
      simp only[Sem.run_bind',Q8b,Result.andThen_ok,Sem.run_pure]
     rw[hul]
     exact e4
    cases h
   cases h
  cases h
 cases h
theorem J0i(mx:Bool):∀ (l:List AV) (vs:List Value) (a:AV) (v:Value) (r:AV),ARel γ H Φ w v a→vs.length=l.length→(∀ (i:Nat) u b,vs[i]?=some u→l[i]?=some b→ARel γ H Φ w u b)→mmL mx a l=some r→
 ∃u,(vs.foldlM (if mx then Builtin.max2 else Builtin.min2) v:Sem Value).run E.P w=.ok u w∧ARel γ H Φ w u r
 | [],vs,a,v,r,ha,hl,_,h=>by
   simp only[mmL,Option.some.injEq]at h
   subst h
   have:vs=[]:=List.eq_nil_of_length_eq_zero hl
   subst this
   exact⟨v,rfl,ha⟩
 | b::l,[],a,v,r,ha,hl,_,h=>by simp at hl
 | b::l,u::vs,a,v,r,ha,hl,hr,h=>by
   simp only[mmL]at h
   split at h
   ·rename_i c hc
    unfold mm2 at hc
    split at hc
    ·rename_i k x k' y
     simp only[Option.some.injEq]at hc
     subst hc
     have h1:=Q2j (Q0k ha)
     have h2:=Q2j (Q0k (hr 0 u _ rfl rfl))
     subst h1 h2
     obtain⟨u',hu',hr'⟩:=J0i mx l vs _ (.int k (bif mx then imax x y else imin x y)) r (.pv (.int _ _)) (by simpa using hl) (fun i u b hu hb=>hr (i+1) u b (by simpa using hu) (by simpa using hb)) h
     refine⟨u',?_,hr'⟩
     rw[List.foldlM_cons]
     have e:((if mx then Builtin.max2 else Builtin.min2) (.int k x) (.int k' y):Sem Value).run E.P w=.ok (.int k (bif mx then imax x y else imin x y)) w:=by
      cases mx<;>rfl
     simp only[bind,Sem.run_bind',e,Result.andThen_ok]
     exact hu'
    cases hc
   cases h
theorem Z9v(mx:Bool){l:List AV}{vs:List Value}{r:AV}(hl:vs.length=l.length)(hr:∀ (i:Nat) u b,vs[i]?=some u→l[i]?=some b→ARel γ H Φ w u b)(h:qmm mx l=some r)(ats:Array TypeId)(t:TypeId):
 ∃u,((if mx then Builtin.max_ ats t ⟨vs⟩else Builtin.min_ ats t ⟨vs⟩):Sem Value).run E.P w=.ok u w∧ARel γ H Φ w u r:=by
 unfold qmm at h
 split at h
 ·rename_i a b l
  match vs,hl with
  | v::u::vs,hl=>
    obtain⟨u',hu',hr'⟩:=J0i mx (b::l) (u::vs) a v r (hr 0 v a rfl rfl) (by simpa using hl) (fun i u b hu hb=>hr (i+1) u b (by simpa using hu) (by simpa using hb)) h
    refine⟨u',?_,hr'⟩
    cases mx<;>exact hu'
 cases h
end
end Go.Abs
