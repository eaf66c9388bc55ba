import Derived.Test.YtkfcehagblhjaaaGreatDoorA3
set_option linter.unusedVariables false
set_option linter.unusedSimpArgs false
set_option linter.defProp false
namespace Go.Abs
open Go.RowKit
section
variable {E:Env}{γ:List Gh}{H:List AObj}{Φ:Nat→Nat→Prop}{w:World}
theorem arel_pv{v:Value}{p:PV}(h:ARel γ H Φ w v (.pv p)):Rep Φ w v p:=by
 cases h with
 | pv h=>exact h
theorem Rep.oneOf{v:Value}{p:PV}(h:Rep Φ w v p)(h1:v.oneCell'=true):p.one=true:=by
 cases h<;>first|rfl|(simp[Value.oneCell']at h1)
theorem TOne.und{P:Program}{t:TypeId}{ti:TI}(h:TOne P t ti):∃d,P.underlying t=some d∧TKok P d ti.k:=by
 obtain⟨i,d,_,_,_,hd,hk,_⟩:=h.info
 exact⟨d,hd,hk⟩
theorem TOne.size{P:Program}{t:TypeId}{ti:TI}(h:TOne P t ti):∃i,P.info? t=some i∧i.size=ti.size:=by
 obtain⟨i,d,hi,hs,_⟩:=h.info
 exact⟨i,hi,hs⟩
theorem tk_str{P:Program}{d:TypeDesc}(h:TKok P d .str):d=.string:=by cases d<;>simp_all [TKok]
theorem tk_bool{P:Program}{d:TypeDesc}(h:TKok P d .bool):d=.bool:=by cases d<;>simp_all [TKok]
theorem tk_int{P:Program}{d:TypeDesc}{k:IntKind}(h:TKok P d (.int k)):d=.int k:=by cases d<;>simp_all [TKok]
theorem tk_slice{P:Program}{d:TypeDesc}{e:TypeId}(h:TKok P d (.slice e)):d=.slice e:=by cases d<;>simp_all [TKok]
theorem tk_map{P:Program}{d:TypeDesc}{k e:TypeId}(h:TKok P d (.map k e)):d=.map k e:=by cases d<;>simp_all [TKok]
theorem tk_iface{P:Program}{d:TypeDesc}(h:TKok P d .iface):∃ms,d=.interface ms:=by cases d<;>simp_all [TKok]
theorem tk_ptr{P:Program}{d:TypeDesc}{e:TypeId}(h:TKok P d (.ptr e)):d=.pointer e:=by cases d<;>simp_all [TKok]
theorem tk_strct{P:Program}{d:TypeDesc}{fs:List (Nat×Nat)}(h:TKok P d (.strct fs))(hne:fs≠[]):∃fields,d=.struct fields∧fields.size=fs.length∧
 ∀ (j:Nat) (f:Field) (p:Nat×Nat),fields[j]?=some f→fs[j]?=some p→f.offset=p.1∧∃fi,P.info? f.type=some fi∧fi.size=p.2:=by
 cases d with
 | struct fields=>exact⟨fields,rfl,h⟩
 | array _ _=>exact(hne h).elim
 | _=>exact h.elim
theorem run_sizeOf{P:Program}{t:TypeId}{i:TypeInfo}(h:P.info? t=some i)(w:World):(sizeOf t).run P w=.ok i.size w:=by simp[sizeOf,typeInfo,h]
def isAggD:TypeDesc→Bool
 | .struct _|.array _ _=>true
 | _=>false
theorem run_isAgg{P:Program}{t:TypeId}{d:TypeDesc}(h:P.underlying t=some d)(w:World):(isAgg t).run P w=.ok (isAggD d) w:=by
 unfold isAgg
 simp only[bind,Sem.run_bind',run_underlying h,Result.andThen_ok]
 cases d<;>rfl
theorem run_loadVar_agg{P:Program}{t:TypeId}{d:TypeDesc}{i:TypeInfo}(hd:P.underlying t=some d)(ha:isAggD d=true)(hi:P.info? t=some i)(b o:Nat)(vs:List Value)
 (hs:i.size=vs.length) (hc:∀ (k:Nat) v,vs[k]?=some v→w.cell? ⟨b,o+k,none⟩=some v):
 (loadVar t ⟨b,o,none⟩).run P w=.ok (.agg ⟨vs⟩) w:=by
 have hl:=run_loadCells_list (P:=P) (w:=w) ⟨b,o,none⟩ vs (fun j v hj=>by rw[Addr.add_lit];exact hc j v hj)
 unfold loadVar
 simp only[bind,Sem.run_bind',run_isAgg hd,ha,Result.andThen_ok,if_true,run_sizeOf hi,hs,hl]
 rfl
theorem run_loadVar_one{P:Program}{t:TypeId}{d:TypeDesc}(hd:P.underlying t=some d)(ha:isAggD d=false)(a:Addr)(v:Value)
 (hc:w.cell? a=some v):(loadVar t a).run P w=.ok v w:=by
 unfold loadVar
 simp only[bind,Sem.run_bind',run_isAgg hd,ha,Result.andThen_ok,Bool.false_eq_true,if_false,run_load,hc]
theorem tk_agg{P:Program}{d:TypeDesc}{fs:List (Nat×Nat)}(h:TKok P d (.strct fs)):isAggD d=true:=by
 cases d<;>first|rfl|exact False.elim h
theorem tk_notAgg{P:Program}{d:TypeDesc}{k:TK}(h:TKok P d k)(h1:∀fs,k≠.strct fs)(h2:k≠.other):isAggD d=false:=by
 cases d<;>cases k<;>simp_all [TKok,isAggD]
theorem rdCells_sound{t:TypeId}{ti:TI}(hT:TOne E.P t ti)(b o:Nat)(cs:List PV)(vs:Nat→Value)(h1:∀c∈cs,c.one=true)
 (hcell:∀k,k<cs.length→w.cell? ⟨b,o+k,none⟩=some (vs k)) (hrep:∀ (k:Nat) c,cs[k]?=some c→Rep Φ w (vs k) c) {p:PV} (h:rdCells ti cs=some p):
 ∃v,(loadVar t ⟨b,o,none⟩).run E.P w=.ok v w∧Rep Φ w v p:=by
 obtain⟨i,d,hi,hs,_,hd,hk,_⟩:=hT.info
 have one:(∀fs,ti.k≠.strct fs)→ti.k≠.other→cs[0]?=some p→∃v,(loadVar t ⟨b,o,none⟩).run E.P w=.ok v w∧Rep Φ w v p:=by
  intro k1 k2 h0
  have hl:0<cs.length:=(List.getElem?_eq_some_iff.1 h0).1
  exact⟨vs 0,run_loadVar_one hd (tk_notAgg hk k1 k2) _ _ (hcell 0 hl),hrep 0 p h0⟩
 unfold rdCells at h
 split at h
 ·rename_i fs hfs
  split at h
  ·rename_i hn
   simp only[Option.some.injEq]at h
   subst h
   rw[hfs]at hk
   have hdd:=tk_agg hk
   have hl:((List.range ti.size).map vs).length=ti.size:=by simp
   refine⟨.agg ⟨(List.range ti.size).map vs⟩,run_loadVar_agg hd hdd hi b o _ (by rw[hl,hs]) (fun k v hv=>?_),.agg _ _ (by simp[Nat.min_eq_left hn]) (fun c hc=>h1 c (List.mem_of_mem_take hc)) (fun k v c hv hc=>?_)⟩
   ·have hk:k<ti.size:=by
     have:=(List.getElem?_eq_some_iff.1 hv).1
     omega
    rw[List.getElem?_map,List.getElem?_range hk]at hv
    simp only[Option.map_some,Option.some.injEq]at hv
    rw[←hv]
    exact hcell k (by omega)
   have hk:k<ti.size:=by
    have:=(List.getElem?_eq_some_iff.1 hv).1
    omega
   rw[List.getElem?_map,List.getElem?_range hk]at hv
   simp only[Option.map_some,Option.some.injEq]at hv
   rw[List.getElem?_take,if_pos hk]at hc
   rw[←hv]
   exact hrep k c hc
  cases h
 ·cases h
 rename_i k1 k2
 exact one (fun fs e=>k1 fs e) (fun e=>k2 e) h
theorem allPV_spec:∀ {l:List AV} {ps:List PV},allPV l=some ps→l=ps.map AV.pv
 | [],ps,h=>by
   simp only[allPV,Option.some.injEq]at h
   subst h
   rfl
 | a::l,ps,h=>by
   cases a<;>simp only[allPV]at h<;>try cases h
   rename_i p
   obtain⟨qs,hq,hp⟩:=Option.map_eq_some_iff.1 h
   rw[←hp,List.map_cons,←allPV_spec hq]
theorem row_load{t:TypeId}{ti:TI}(hT:TOne E.P t ti){e:TypeId}{sz:Nat}{xs:List PV}{cells:List Value}{v:Value}{b n cap:Nat}(hown:w.ownsRow 0 e sz v xs.length cells)(hg:v=.slice (some ⟨b,0,none⟩) n cap)
 (hcl:cells.length=(flat xs).length) (hsz:∀x∈xs,x.cells.length=sz) (h1:∀c∈flat xs,c.one=true) {i off:Nat} {y:PV} (hy:xs[i]?=some y)
 (hrep:∀ (k:Nat) v c,cells[k]?=some v→(flat xs)[k]?=some c→i * sz≤k→Rep Φ w v c) {p:PV} (hp:rdCells ti (y.cells.drop off)=some p):
 ∃u,(loadVar t ⟨b,i * sz+off,none⟩).run E.P w=.ok u w∧Rep Φ w u p:=by
 have hfl:=flat_length hsz
 have hys:=hsz y (List.mem_of_getElem? hy)
 have hfa:=flat_at hsz i
 have hlt:i<xs.length:=(List.getElem?_eq_some_iff.1 hy).1
 have hmul:i * sz+sz≤xs.length * sz:=by
  have:=Nat.mul_le_mul_right sz (show i+1≤xs.length from hlt)
  rw[Nat.succ_mul]at this
  exact this
 exact rdCells_sound (E:=E) (Φ:=Φ) hT b (i * sz+off) (y.cells.drop off) (fun k=>cells.getD (i * sz+off+k) undef)
  (fun c hc=>h1 c (flat_mem (List.mem_of_getElem? hy) (List.mem_of_mem_drop hc)))
  (fun k hk=>by
    rw[List.length_drop]at hk
    have hkc:i * sz+off+k<cells.length:=by omega
    have hc:=hown.cells (g:=b) (by rw[hg];rfl) (i * sz+off+k) cells[i * sz+off+k] (List.getElem?_eq_getElem hkc)
    rw[Addr.add_lit,Nat.zero_add]at hc
    rw[hc,List.getD_eq_getElem?_getD,List.getElem?_eq_getElem hkc]
    rfl)
  (fun k c hc=>by
    rw[List.getElem?_drop]at hc
    have hk:off+k<y.cells.length:=(List.getElem?_eq_some_iff.1 hc).1
    have hkc:i * sz+off+k<cells.length:=by omega
    rw[List.getD_eq_getElem?_getD,List.getElem?_eq_getElem hkc]
    refine hrep _ _ _ (List.getElem?_eq_getElem hkc) ?_ (by omega)
    rw[show i * sz+off+k=i * sz+(off+k) from by omega,hfa (off+k) y hy (by omega)]
    exact hc)
  hp
theorem load_sound(hI:OInv E γ H Φ w){t:TypeId}{v:Value}{x:AV}(hx:ARel γ H Φ w v x){r:AV}(h:qload E.T H t x=some r):
 ∃u,(Instr.loadAt t v).run E.P w=.ok u w∧ARel γ H Φ w u r:=by
 unfold qload at h
 split at h
 ·cases h
 rename_i ti hti
 have hT:=E.hT t ti hti
 have run:∀a:Addr,(Instr.loadAt t (.pointer (some a))).run E.P w=(loadVar t a).run E.P w:=fun a=>by
  simp[Instr.loadAt,Instr.sureAddr]
 cases hx with
 | pptr b o cs vs h1 hcell hrep=>
   simp only at h
   obtain⟨p,hp,rfl⟩:=Option.map_eq_some_iff.1 h
   obtain⟨u,hu,hr⟩:=rdCells_sound (E:=E) hT b o cs vs h1 (fun k hk=>(hcell k hk).2) hrep hp
   exact⟨u,by rw[run,hu],.pv hr⟩
 | ref b l off hg=>
   simp only at h
   split at h
   ·rename_i cs hH
    obtain⟨g,hgl,hO⟩:=hI.gh hH
    obtain⟨b',T,vs,hv,_,hb,hlen,hrel,_⟩:=hO
    have hbb:b=b':=by
     simp only[gv,hgl,Option.map_some,Option.some.injEq]at hg
     rw[hv]at hg
     injection hg with hg
     injection hg with hg
     injection hg with hg
     exact hg.symm
    subst hbb
    have hcell:∀ (k:Nat) u,vs[k]?=some u→w.cell? ⟨b,k,none⟩=some u:=fun k u hu=>by
     rw[cell_of_row w b k _ _ _ hb]
     simpa using hu
    obtain⟨i,d,hi,hs,_,hd,hk,_⟩:=hT.info
    split at h
    ·rename_i fs hfs
     split at h
     ·rename_i hn
      simp only[Option.some.injEq]at h
      rw[hfs]at hk
      have hdd:=tk_agg hk
      have hl:((vs.drop off).take ti.size).length=ti.size:=by
       rw[List.length_take,List.length_drop]
       omega
      split at h
      ·rename_i ps hps
       subst h
       have hsp:=allPV_spec hps
       have hpl:ps.length=ti.size:=by
        have:=congrArg List.length hsp
        rw[List.length_take,List.length_drop,List.length_map]at this
        omega
       refine⟨.agg ⟨(vs.drop off).take ti.size⟩,?_,.pv (.agg _ _ (by omega) (fun c hc=>?_) (fun k u c hu hc=>?_))⟩
       ·rw[run]
        refine run_loadVar_agg hd hdd hi b off _ (by omega) (fun k u hu=>hcell _ _ ?_)
        rw[List.getElem?_take]at hu
        split at hu
        ·rwa [List.getElem?_drop]at hu
        cases hu
       ·obtain⟨k,hk,hkc⟩:=List.getElem_of_mem hc
        have e1:((cs.drop off).take ti.size)[k]?=some (.pv c):=by
         rw[hsp,List.getElem?_map,List.getElem?_eq_getElem hk,hkc]
         rfl
        rw[List.getElem?_take,if_pos (by omega),List.getElem?_drop]at e1
        have hvk:(off+k)<vs.length:=by omega
        obtain⟨h1c,hr⟩:=hrel (off+k) vs[off+k] _ (List.getElem?_eq_getElem hvk) e1
        exact(arel_pv hr).oneOf h1c
       have e1:((cs.drop off).take ti.size)[k]?=some (.pv c):=by
        rw[hsp,List.getElem?_map,hc]
        rfl
       have hkk:k<ti.size:=by
        have:=(List.getElem?_eq_some_iff.1 hc).1
        omega
       rw[List.getElem?_take,if_pos hkk,List.getElem?_drop]at e1
       rw[List.getElem?_take,if_pos hkk,List.getElem?_drop]at hu
       exact arel_pv (hrel (off+k) u _ hu e1).2
      subst h
      refine⟨.agg ⟨(vs.drop off).take ti.size⟩,?_,.agg _ _ ?_ (fun u hu=>?_) (fun k u c hu hc=>?_)⟩
      ·rw[run]
       refine run_loadVar_agg hd hdd hi b off _ (by omega) (fun k u hu=>hcell _ _ ?_)
       rw[List.getElem?_take]at hu
       split at hu
       ·rwa [List.getElem?_drop]at hu
       cases hu
      ·rw[hl,List.length_take,List.length_drop]
       omega
      ·have hu':=List.mem_of_mem_drop (List.mem_of_mem_take hu)
       obtain⟨k,hk,hku⟩:=List.getElem_of_mem hu'
       rw[←hku]
       exact(hrel k vs[k] (cs[k]'(by omega)) (List.getElem?_eq_getElem hk) (List.getElem?_eq_getElem (by omega))).1
      have hkk:k<ti.size:=by
       have:=(List.getElem?_eq_some_iff.1 hu).1
       omega
      rw[List.getElem?_take,if_pos hkk,List.getElem?_drop]at hu hc
      exact(hrel (off+k) u c hu hc).2
     cases h
    ·cases h
    rename_i k1 k2
    have hk0:off<vs.length:=by
     have:=(List.getElem?_eq_some_iff.1 h).1
     omega
    refine⟨vs[off],?_,(hrel off vs[off] r (List.getElem?_eq_getElem hk0) h).2⟩
    rw[run]
    exact run_loadVar_one hd (tk_notAgg hk (fun fs e=>k1 fs e) (fun e=>k2 e)) _ _ (hcell off _ (List.getElem?_eq_getElem hk0))
   cases h
 | vptr b o l n i off e sz len hrow hn hcur=>
   simp only at h
   split at h
   ·rename_i e' sz' xs fz hH
    have hre:=rowAt_row hH
    rw[hrow]at hre
    injection hre with hre
    injection hre with he hre
    injection hre with hs hlen
    subst he hs hlen
    split at h
    ·rename_i hx
     obtain⟨cap,hg,rfl⟩:=hcur hx
     split at h
     ·rename_i y hy
      obtain⟨p,hp,rfl⟩:=Option.map_eq_some_iff.1 h
      obtain⟨g,hgl,hO⟩:=hI.gh hH
      obtain⟨cells,hown,hcl,hrep,hsz,h1,_,_,_⟩:=hO
      simp only[gv,hgl,Option.map_some,Option.some.injEq]at hg
      obtain⟨u,hu,hr⟩:=row_load (E:=E) (Φ:=Φ) hT hown hg hcl hsz h1 hy (fun k v c hv hc _=>hrep k v c hv hc) hp
      exact⟨u,by rw[run,hu],.pv hr⟩
     cases h
    cases h
   ·rename_i e' sz' off' e2 sz2 m xs hH
    have hre:=rowAt_tree hH
    rw[hrow]at hre
    injection hre with hre
    injection hre with he hre
    injection hre with hs hlen
    subst he hs hlen
    split at h
    ·rename_i hx
     obtain⟨hx,hm⟩:=hx
     obtain⟨cap,hg,rfl⟩:=hcur hx
     split at h
     ·rename_i y hy
      obtain⟨p,hp,rfl⟩:=Option.map_eq_some_iff.1 h
      obtain⟨g,hgl,hO⟩:=hI.gh hH
      obtain⟨cells,gs,hown,hcl,hsz,h1,_,_,_,_,_,_,_,hrep,_⟩:=hO
      simp only[gv,hgl,Option.map_some,Option.some.injEq]at hg
      obtain⟨u,hu,hr⟩:=row_load (E:=E) (Φ:=Φ) hT hown hg hcl hsz h1 hy (fun k v c hv hc hk=>hrep k v c hv hc (.inr (Nat.le_trans (Nat.mul_le_mul_right _ hm) hk))) hp
      exact⟨u,by rw[run,hu],.pv hr⟩
     cases h
    cases h
   ·rename_i e' sz' xs j off' l2 n2 hH
    have hre:=rowAt_hrow hH
    rw[hrow]at hre
    injection hre with hre
    injection hre with he hre
    injection hre with hs hlen
    subst he hs hlen
    split at h
    ·rename_i hx
     obtain⟨hx,rfl⟩:=hx
     obtain⟨cap,hg,rfl⟩:=hcur hx
     split at h
     ·rename_i y hy
      obtain⟨g,hgl,hO⟩:=hI.gh hH
      obtain⟨cells,hown,hcl,hsz,h1,_,h0,hoff,hj,_,hrep,hhole⟩:=hO
      simp only[gv,hgl,Option.map_some,Option.some.injEq]at hg
      have hfl:=flat_length hsz
      have hys:=hsz y (List.mem_of_getElem? hy)
      have hfa:=flat_at hsz i
      have hmul:i * sz+sz≤xs.length * sz:=by
       have:=Nat.mul_le_mul_right sz (show i+1≤xs.length from hj)
       rw[Nat.succ_mul]at this
       exact this
      have hcell:∀k,k<sz→w.cell? ⟨b,i * sz+k,none⟩=some (cells.getD (i * sz+k) undef):=fun k hk=>by
       have hkc:i * sz+k<cells.length:=by omega
       have hc:=hown.cells (g:=b) (by rw[hg];rfl) (i * sz+k) cells[i * sz+k] (List.getElem?_eq_getElem hkc)
       rw[Addr.add_lit,Nat.zero_add]at hc
       rw[hc,List.getD_eq_getElem?_getD,List.getElem?_eq_getElem hkc]
       rfl
      have hat:∀k,k<sz→cells[i * sz+k]?=some (cells.getD (i * sz+k) undef):=fun k hk=>by
       have hkc:i * sz+k<cells.length:=by omega
       rw[List.getD_eq_getElem?_getD,List.getElem?_eq_getElem hkc]
       rfl
      have hone:∀k c,k<sz→k≠off'→y.cells[k]?=some c→Rep Φ w (cells.getD (i * sz+k) undef) c:=fun k c hk hne hc=>hrep _ _ c (hat k hk) (by rw[hfa k y hy hk];exact hc) (by omega)
      obtain⟨i',d,hi,his,_,hd,hk,_⟩:=hT.info
      split at h
      ·rename_i fs hfs
       split at h
       ·rename_i hc
        obtain⟨rfl,hts⟩:=hc
        simp only[Option.some.injEq]at h
        subst h
        rw[hfs]at hk
        have hdd:=tk_agg hk
        have hl:((List.range sz).map fun k=>cells.getD (i * sz+k) undef).length=sz:=by simp
        have hrel:∀ (k:Nat) v c,((List.range sz).map fun k=>cells.getD (i * sz+k) undef)[k]?=some v→((y.cells.map AV.pv).set off' (.vec l2 n2))[k]?=some c→ARel γ H Φ w v c:=fun k v c hv hc=>by
         have hk:k<sz:=by
          have:=(List.getElem?_eq_some_iff.1 hv).1
          omega
         rw[List.getElem?_map,List.getElem?_range hk]at hv
         simp only[Option.map_some,Option.some.injEq]at hv
         subst hv
         by_cases hko:k=off'
         ·subst hko
          rw[List.getElem?_set_self (by simp;omega)]at hc
          injection hc with hc
          subst hc
          exact hhole _ (hat k hk)
         rw[List.getElem?_set_ne (Ne.symm hko),List.getElem?_map]at hc
         obtain⟨q,hq,rfl⟩:=Option.map_eq_some_iff.1 hc
         exact .pv (hone k q hk hko hq)
        refine⟨.agg ⟨(List.range sz).map fun k=>cells.getD (i * sz+k) undef⟩,?_,.agg _ _ (by simp;omega) (fun v hv=>?_) hrel⟩
        ·rw[run,Nat.add_zero]
         refine run_loadVar_agg hd hdd hi b (i * sz) _ (by rw[hl,his,hts]) (fun k v hv=>?_)
         have hk:k<sz:=by
          have:=(List.getElem?_eq_some_iff.1 hv).1
          omega
         rw[List.getElem?_map,List.getElem?_range hk]at hv
         simp only[Option.map_some,Option.some.injEq]at hv
         rw[←hv]
         exact hcell k hk
        obtain⟨k,hk,hkv⟩:=List.getElem_of_mem hv
        have hk':k<sz:=by omega
        have hv':=hkv
        rw[List.getElem_map,List.getElem_range]at hv'
        by_cases hko:k=off'
        ·subst hko
         rw[←hv']
         have:=hhole _ (hat k hk')
         generalize cells.getD (i * sz+k) undef=z at this ⊢
         cases this
         rfl
        rw[←hv']
        have hkl:k<y.cells.length:=by omega
        exact(hone k _ hk' hko (List.getElem?_eq_getElem hkl)).one (h1 _ (flat_mem (List.mem_of_getElem? hy) (List.getElem_mem hkl)))
       cases h
      ·cases h
      rename_i k1 k2
      split at h
      ·rename_i ho
       subst ho
       simp only[Option.some.injEq]at h
       subst h
       refine⟨cells.getD (i * sz+off) undef,?_,hhole _ (hat off hoff)⟩
       rw[run]
       exact run_loadVar_one hd (tk_notAgg hk (fun fs e=>k1 fs e) (fun e=>k2 e)) _ _ (hcell off hoff)
      rename_i ho
      obtain⟨c,hc,rfl⟩:=Option.map_eq_some_iff.1 h
      have hol:off<sz:=by
       have:=(List.getElem?_eq_some_iff.1 hc).1
       omega
      refine⟨cells.getD (i * sz+off) undef,?_,.pv (hone off c hol ho hc)⟩
      rw[run]
      exact run_loadVar_one hd (tk_notAgg hk (fun fs e=>k1 fs e) (fun e=>k2 e)) _ _ (hcell off hol)
     cases h
    cases h
   cases h
 | any=>simp at h
 | pv=>simp at h
 | vec=>simp at h
 | mref=>simp at h
 | selfp=>simp at h
 | nils=>simp at h
 | ifc=>simp at h
 | full=>simp at h
 | tup=>simp at h
 | agg=>simp at h
 | fn=>simp at h
end
end Go.Abs
namespace Go.Abs
open Go.RowKit
section
variable {E:Env}{γ:List Gh}{H:List AObj}{Φ:Nat→Nat→Prop}{w:World}
theorem guard_int(op:BinOp)(t:TypeId)(x y:Operand)(k k':IntKind)(m n:Int):(do eqGuard op t x y (.int k m) (.int k' n);binOp op t (.int k m) (.int k' n):Sem Value).run E.P w=(binOp op t (.int k m) (.int k' n)).run E.P w:=by
 simp[eqGuard_at_int]
theorem guard_str(op:BinOp)(t:TypeId)(x y:Operand)(a b:ByteArray):(do eqGuard op t x y (.string a) (.string b);binOp op t (.string a) (.string b):Sem Value).run E.P w=(Op.stringOp op a b).run E.P w:=by
 simp only[eqGuard_at_string,bind,Sem.run_bind']
 cases op<;>rfl
theorem pbin_sound(op:BinOp)(t:TypeId)(x y:Operand){a b:Value}{p q r:PV}(ha:Rep Φ w a p)(hb:Rep Φ w b q)(h:pbin op p q=some r):
 ∃u,(do eqGuard op t x y a b;binOp op t a b:Sem Value).run E.P w=.ok u w∧Rep Φ w u r:=by
 cases ha with
 | int k m=>
   cases hb with
   | int k' n=>
     rw[guard_int]
     simp only[pbin]at h
     split at h
     ·rename_i hk
      subst hk
      cases op with
      | quo=>
        simp only[Option.ite_none_left_eq_some,Option.some.injEq]at h
        obtain⟨hz,rfl⟩:=h
        exact⟨_,by simp[binOp,Op.intDiv,hz],.int _ _⟩
      | rem=>
        simp only[Option.ite_none_left_eq_some,Option.some.injEq]at h
        obtain⟨hz,rfl⟩:=h
        exact⟨_,by simp[binOp,Op.intDiv,hz],.int _ _⟩
      | shl=>
        simp only[Option.ite_none_left_eq_some,Option.some.injEq]at h
        obtain⟨hz,rfl⟩:=h
        exact⟨.int k (k.wrap (m * 2 ^ (min n.toNat k.bits))),by simp only[binOp,Op.shift,hz,if_false];rfl,.int _ _⟩
      | shr=>
        simp only[Option.ite_none_left_eq_some,Option.some.injEq]at h
        obtain⟨hz,rfl⟩:=h
        exact⟨.int k (m.fdiv (2 ^ (min n.toNat k.bits))),by simp only[binOp,Op.shift,hz,if_false];rfl,.int _ _⟩
      | _=>
        simp only[Option.some.injEq]at h
        subst h
        first
         | exact⟨_,by simp only[binOp,ne_eq,not_true,if_false];rfl,.int _ _⟩
         | exact⟨_,by simp only[binOp,ne_eq,not_true,if_false];rfl,.bool _⟩
     cases op with
     | shl=>
       simp only[Option.ite_none_left_eq_some,Option.some.injEq]at h
       obtain⟨hz,rfl⟩:=h
       exact⟨.int k (k.wrap (m * 2 ^ (min n.toNat k.bits))),by simp only[binOp,Op.shift,hz,if_false];rfl,.int _ _⟩
     | shr=>
       simp only[Option.ite_none_left_eq_some,Option.some.injEq]at h
       obtain⟨hz,rfl⟩:=h
       exact⟨.int k (m.fdiv (2 ^ (min n.toNat k.bits))),by simp only[binOp,Op.shift,hz,if_false];rfl,.int _ _⟩
     | _=>simp only[reduceCtorEq]at h
   | _=>simp[pbin]at h
 | str s=>
   cases hb with
   | str s'=>
     rw[guard_str]
     cases op with
     | add=>
       simp only[pbin,Option.ite_none_right_eq_some,Option.some.injEq]at h
       obtain⟨hz,rfl⟩:=h
       exact⟨_,run_string_add_sum w ⟨⟨s⟩⟩ ⟨⟨s'⟩⟩ hz,by rw[ByteArray.mk_append_mk];exact .str _⟩
     | eql=>simp only[pbin,Option.some.injEq]at h;subst h;exact⟨.bool (s==s'),by simp only[Op.stringOp,ByteArray.toList_mk];rfl,.bool _⟩
     | neq=>simp only[pbin,Option.some.injEq]at h;subst h;exact⟨.bool (!(s==s')),by simp only[Op.stringOp,ByteArray.toList_mk];rfl,.bool _⟩
     | lss=>simp only[pbin,Option.some.injEq]at h;subst h;exact⟨.bool (Op.bytesLess s s'),by simp only[Op.stringOp,ByteArray.toList_mk];rfl,.bool _⟩
     | leq=>simp only[pbin,Option.some.injEq]at h;subst h;exact⟨.bool (Op.bytesLess s s'||s==s'),by simp only[Op.stringOp,ByteArray.toList_mk];rfl,.bool _⟩
     | gtr=>simp only[pbin,Option.some.injEq]at h;subst h;exact⟨.bool (!(Op.bytesLess s s'||s==s')),by simp only[Op.stringOp,ByteArray.toList_mk];rfl,.bool _⟩
     | geq=>simp only[pbin,Option.some.injEq]at h;subst h;exact⟨.bool (!(Op.bytesLess s s')),by simp only[Op.stringOp,ByteArray.toList_mk];rfl,.bool _⟩
     | _=>simp only[pbin,reduceCtorEq]at h
   | _=>simp[pbin]at h
 | _=>simp[pbin]at h
theorem run_eq_bool{t:TypeId}(hd:E.P.underlying t=some .bool)(x y:Operand)(a b:Bool):
 (do eqGuard .eql t x y (.bool a) (.bool b);binOp .eql t (.bool a) (.bool b):Sem Value).run E.P w=.ok (.bool (a==b)) w:=by
 have h:∀d:Nat,(Op.equalIn (d+1) t (.bool a) (.bool b)).run E.P w=.ok (a==b) w:=fun d=>by
  simp[Op.equalIn,run_underlying hd]
 simp only[eqGuard_at_bool,bind,Sem.run_bind',binOp]
 simp[Op.equal,Op.maxDepth,h 9999]
theorem run_ne_bool{t:TypeId}(hd:E.P.underlying t=some .bool)(x y:Operand)(a b:Bool):
 (do eqGuard .neq t x y (.bool a) (.bool b);binOp .neq t (.bool a) (.bool b):Sem Value).run E.P w=.ok (.bool (!(a==b))) w:=by
 have h:∀d:Nat,(Op.equalIn (d+1) t (.bool a) (.bool b)).run E.P w=.ok (a==b) w:=fun d=>by
  simp[Op.equalIn,run_underlying hd]
 simp only[eqGuard_at_bool,bind,Sem.run_bind',binOp]
 simp[Op.equal,Op.maxDepth,h 9999]
theorem qbin_sound(op:BinOp)(t:TypeId)(x y:Operand){a b:Value}{p q r:AV}(ha:ARel γ H Φ w a p)(hb:ARel γ H Φ w b q)(h:qbin E.T op t p q=some r):
 ∃u,(do eqGuard op t x y a b;binOp op t a b:Sem Value).run E.P w=.ok u w∧ARel γ H Φ w u r:=by
 have gen:∀p' q',p=.pv p'→q=.pv q'→(pbin op p' q').map AV.pv=some r→∃u,(do eqGuard op t x y a b;binOp op t a b:Sem Value).run E.P w=.ok u w∧ARel γ H Φ w u r:=by
  intro p' q' hp hq hr
  subst hp;subst hq
  obtain⟨r',hr',rfl⟩:=Option.map_eq_some_iff.1 hr
  obtain⟨u,hu,hrep⟩:=pbin_sound (E:=E) op t x y (arel_pv ha) (arel_pv hb) hr'
  exact⟨u,hu,.pv hrep⟩
 unfold qbin at h
 split at h
 ·rename_i a' b'
  have hra:=arel_pv ha
  have hrb:=arel_pv hb
  cases hra
  cases hrb
  split at h
  ·rename_i hT
   unfold isBoolT at hT
   split at hT
   ·rename_i hTt
    obtain⟨d,hd,hk⟩:=(E.hT _ _ hTt).und
    have hdd:=tk_bool hk
    rw[hdd]at hd
    cases op with
    | eql=>
      simp only[Option.some.injEq]at h
      subst h
      exact⟨_,run_eq_bool hd x y a' b',.pv (.bool _)⟩
    | neq=>
      simp only[Option.some.injEq]at h
      subst h
      exact⟨_,run_ne_bool hd x y a' b',.pv (.bool _)⟩
    | _=>simp at h
   cases hT
  cases h
 ·exact gen _ _ rfl rfl h
 cases h
theorem run_eq_nil{t:TypeId}{ms:Array (String×TypeId)}(hd:E.P.underlying t=some (.interface ms))(x:Operand):
 (do eqGuard .eql t x (.const .nilIface) .nilIface .nilIface;binOp .eql t .nilIface .nilIface:Sem Value).run E.P w=.ok (.bool true) w:=by
 have h:∀d:Nat,(Op.equalIn (d+1) t .nilIface .nilIface).run E.P w=.ok true w:=fun d=>by
  simp[Op.equalIn,run_underlying hd]
 simp only[eqGuard,bind,Sem.run_bind',binOp]
 simp[Op.equal,Op.maxDepth,h 9999]
theorem run_ne_nil{t:TypeId}{ms:Array (String×TypeId)}(hd:E.P.underlying t=some (.interface ms))(x:Operand):
 (do eqGuard .neq t x (.const .nilIface) .nilIface .nilIface;binOp .neq t .nilIface .nilIface:Sem Value).run E.P w=.ok (.bool false) w:=by
 have h:∀d:Nat,(Op.equalIn (d+1) t .nilIface .nilIface).run E.P w=.ok true w:=fun d=>by
  simp[Op.equalIn,run_underlying hd]
 simp only[eqGuard,bind,Sem.run_bind',binOp]
 simp[Op.equal,Op.maxDepth,h 9999]
theorem run_eq_ifc{t:TypeId}{ms:Array (String×TypeId)}(hd:E.P.underlying t=some (.interface ms))(x:Operand)(tx:TypeId)(v:Value):
 (do eqGuard .eql t x (.const .nilIface) (.iface tx v) .nilIface;binOp .eql t (.iface tx v) .nilIface:Sem Value).run E.P w=.ok (.bool false) w:=by
 have h:∀d:Nat,(Op.equalIn (d+1) t (.iface tx v) .nilIface).run E.P w=.ok false w:=fun d=>by
  simp[Op.equalIn,run_underlying hd]
 simp only[eqGuard,bind,Sem.run_bind',binOp]
 simp[Op.equal,Op.maxDepth,h 9999]
theorem run_ne_ifc{t:TypeId}{ms:Array (String×TypeId)}(hd:E.P.underlying t=some (.interface ms))(x:Operand)(tx:TypeId)(v:Value):
 (do eqGuard .neq t x (.const .nilIface) (.iface tx v) .nilIface;binOp .neq t (.iface tx v) .nilIface:Sem Value).run E.P w=.ok (.bool true) w:=by
 have h:∀d:Nat,(Op.equalIn (d+1) t (.iface tx v) .nilIface).run E.P w=.ok false w:=fun d=>by
  simp[Op.equalIn,run_underlying hd]
 simp only[eqGuard,bind,Sem.run_bind',binOp]
 simp[Op.equal,Op.maxDepth,h 9999]
theorem qnil2_sound(op:BinOp)(t:TypeId)(x:Operand){a:Value}{p r:AV}(ha:ARel γ H Φ w a p)(h:qnil2 E.T op t p=some r):
 ∃u,(do eqGuard op t x (.const .nilIface) a .nilIface;binOp op t a .nilIface:Sem Value).run E.P w=.ok u w∧ARel γ H Φ w u r:=by
 unfold qnil2 at h
 split at h
 ·have hra:=arel_pv ha
  cases hra
  split at h
  ·rename_i hT
   obtain⟨d,hd,hk⟩:=(E.hT _ _ hT).und
   obtain⟨ms,rfl⟩:=tk_iface hk
   simp only[Option.some.injEq]at h
   subst h
   exact⟨_,run_eq_nil hd x,.pv (.bool _)⟩
  ·rename_i hT
   obtain⟨d,hd,hk⟩:=(E.hT _ _ hT).und
   obtain⟨ms,rfl⟩:=tk_iface hk
   simp only[Option.some.injEq]at h
   subst h
   exact⟨_,run_ne_nil hd x,.pv (.bool _)⟩
  cases h
 ·have hra:=arel_pv ha
  cases hra
  split at h
  ·rename_i hT
   obtain⟨d,hd,hk⟩:=(E.hT _ _ hT).und
   obtain⟨ms,rfl⟩:=tk_iface hk
   simp only[Option.some.injEq]at h
   subst h
   exact⟨_,run_eq_ifc hd x _ _,.pv (.bool _)⟩
  ·rename_i hT
   obtain⟨d,hd,hk⟩:=(E.hT _ _ hT).und
   obtain⟨ms,rfl⟩:=tk_iface hk
   simp only[Option.some.injEq]at h
   subst h
   exact⟨_,run_ne_ifc hd x _ _,.pv (.bool _)⟩
  cases h
 cases h
theorem isNil_eq{y:Operand}(h:isNil y=true):y=.const .nilIface:=by
 unfold isNil at h
 split at h
 ·rfl
 cases h
theorem qun_sound(op:UnOp){a:Value}{p r:AV}(ha:ARel γ H Φ w a p)(h:qun op p=some r):
 ∃u,(Op.unary op a).run E.P w=.ok u w∧ARel γ H Φ w u r:=by
 unfold qun at h
 split at h
 ·have hra:=arel_pv ha
  cases hra
  cases op<;>simp at h
  subst h
  exact⟨_,rfl,.pv (.bool _)⟩
 ·have hra:=arel_pv ha
  cases hra
  cases op<;>simp only[reduceCtorEq,Option.some.injEq]at h
  subst h
  exact⟨_,rfl,.pv (.int _ _)⟩
 cases h
theorem qfieldAddr_sound{t:TypeId}{f:Nat}{a:Value}{x r:AV}(ha:ARel γ H Φ w a x)(h:qfieldAddr E.T t f x=some r):
 ∃u,(Instr.fieldAt t a f).run E.P w=.ok u w∧ARel γ H Φ w u r:=by
 unfold qfieldAddr at h
 split at h
 ·rename_i fs _ _ _ hT
  split at h
  ·rename_i off sz hf
   split at h
   ·cases h
   rename_i hz
   obtain⟨d,hd,hk⟩:=(E.hT _ _ hT).und
   obtain⟨fields,rfl,hsize,hfs⟩:=tk_strct hk (by rintro rfl;simp at hf)
   have hfl:f<fields.size:=by
    have:=(List.getElem?_eq_some_iff.1 hf).1
    omega
   obtain⟨hoff,fi,hfi,hfsz⟩:=hfs f fields[f] (off,sz) (Array.getElem?_eq_getElem hfl) hf
   have run:∀b o:Nat,(Instr.fieldAt t (.pointer (some ⟨b,o,none⟩)) f).run E.P w=.ok (.pointer (some ⟨b,o+off,none⟩)) w:=by
    intro b o
    have h0:fi.size≠0:=by
     simp only at hfsz
     omega
    have hof:fields[f].offset=off:=hoff
    simp[Instr.fieldAt,run_underlying hd,Array.getElem?_eq_getElem hfl,Instr.sureAddr,fieldPlace,run_sizeOf hfi,h0,hof,Addr.add_lit]
   cases ha with
   | ref b l o hg=>
     simp only[Option.some.injEq]at h
     subst h
     exact⟨_,run _ _,.ref b l _ hg⟩
   | pptr b o cs vs h1 hcell hrep=>
     simp only[Option.some.injEq]at h
     subst h
     refine⟨_,run _ _,.pptr b (o+off) _ (fun k=>vs (off+k)) (fun c hc=>h1 c (List.mem_of_mem_drop hc)) (fun k hk=>?_) (fun k c hc=>?_)⟩
     ·rw[List.length_drop]at hk
      rw[Nat.add_assoc]
      exact hcell (off+k) (by omega)
     rw[List.getElem?_drop]at hc
     exact hrep (off+k) c hc
   | vptr b o' l n i o e sz' len hrow hn hcur=>
     simp only[Option.some.injEq]at h
     subst h
     exact⟨_,run _ _,.vptr b _ l n i _ e sz' len hrow hn (fun hx=>by
      obtain⟨cap,hg,ho⟩:=hcur hx
      exact⟨cap,hg,by omega⟩)⟩
   | any=>simp at h
   | pv=>simp at h
   | vec=>simp at h
   | mref=>simp at h
   | selfp=>simp at h
   | nils=>simp at h
   | ifc=>simp at h
   | full=>simp at h
   | tup=>simp at h
   | agg=>simp at h
   | fn=>simp at h
  cases h
 cases h
end
end Go.Abs
