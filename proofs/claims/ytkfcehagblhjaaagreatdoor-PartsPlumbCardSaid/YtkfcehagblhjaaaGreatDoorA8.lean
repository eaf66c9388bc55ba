import Derived.Test.YtkfcehagblhjaaaGreatDoorA5
import Derived.Laws.StructEq
set_option linter.unusedVariables false
set_option linter.unusedSimpArgs false
set_option linter.defProp false
namespace Go.Abs
open Go.RowKit
section
variable {E:Env}{γ:List Gh}{H:List AObj}{Φ:Nat→Nat→Prop}{w:World}
theorem rep_int{v:Value}{k:IntKind}{n:Int}(h:Rep Φ w v (.int k n)):v=.int k n:=by cases h;rfl
theorem rep_bool{v:Value}{b:Bool}(h:Rep Φ w v (.bool b)):v=.bool b:=by cases h;rfl
theorem rep_str{v:Value}{s:List UInt8}(h:Rep Φ w v (.str s)):v=.string ⟨⟨s⟩⟩:=by cases h;rfl
theorem run_indexAt{t e:TypeId}{te:TypeInfo}(hd:E.P.underlying t=some (.slice e))(he:E.P.info? e=some te)(b o len cap:Nat)(k:IntKind)(i:Int)(h0:0≤i)(h1:i.toNat<len):
 (Instr.indexAt t (.slice (some ⟨b,o,none⟩) len cap) (.int k i)).run E.P w=.ok (.pointer (some ⟨b,o+i.toNat * te.size,none⟩)) w:=by
 have hi:0≤i∧i<(len:Int):=⟨h0,by omega⟩
 simp[Instr.indexAt,asIntOf,run_underlying hd,hi,run_sizeOf he,Addr.add_lit]
theorem qindexAddr_sound{t:TypeId}{a c:Value}{x y r:AV}(ha:ARel γ H Φ w a x)(hc:ARel γ H Φ w c y)(h:qindexAddr E.T H t x y=some r):
 ∃u,(Instr.indexAt t a c).run E.P w=.ok u w∧ARel γ H Φ w u r:=by
 unfold qindexAddr at h
 split at h
 ·rename_i e _ _ _ hT
  split at h
  ·rename_i te k i hTe
   obtain⟨d,hd,hk⟩:=(E.hT _ _ hT).und
   have hdd:=tk_slice hk
   rw[hdd]at hd
   obtain⟨ti,hti,htis⟩:=(E.hT _ _ hTe).size
   have hcv:=rep_int (arel_pv hc)
   subst hcv
   split at h
   ·rename_i h0
    cases ha with
    | @pv v p hp=>
      cases hp with
      | slice b o len cap sz xs vs hl hcc hm hsz h1 hcell hrep=>
        simp only at h
        split at h
        ·rename_i z hz
         split at h
         ·rename_i hzs
          simp only[Option.some.injEq]at h
          subst h
          have hlt:=(List.getElem?_eq_some_iff.1 hz).1
          have hsz':sz=te.size:=by rw[←hzs];exact(hsz z (List.mem_of_getElem? hz)).symm
          have hzl:z.cells.length=sz:=by rw[hzs,hsz']
          have hmul:i.toNat * sz+sz≤xs.length * sz:=by
           have:=Nat.mul_le_mul_right sz (show i.toNat+1≤xs.length from hlt)
           rw[Nat.succ_mul]at this
           exact this
          have hfl:=flat_length hsz
          refine⟨_,run_indexAt hd hti b o len cap k i h0 (by omega),.pptr b _ _ (fun j=>vs (i.toNat * sz+j)) (fun q hq=>h1 q (flat_mem (List.mem_of_getElem? hz) hq)) (fun j hj=>?_) (fun j q hq=>?_)⟩
          ·have:=hcell (i.toNat * sz+j) (by omega)
           rw[htis,←hsz',Nat.add_assoc]
           exact this
          have hj:j<z.cells.length:=(List.getElem?_eq_some_iff.1 hq).1
          refine hrep _ q ?_
          rw[flat_at hsz i.toNat j z hz (by omega)]
          exact hq
         cases h
        cases h
      | sliceNil=>simp at h
      | sliceAny A cap hm=>simp at h
      | bool=>simp at h
      | int=>simp at h
      | str=>simp at h
      | nil=>simp at h
      | ifc t v=>simp at h
      | nilp=>simp at h
      | snil=>simp at h
      | agg=>simp at h
    | vec A l n cap e' sz len hrow hn hA hcur=>
      simp only[hrow]at h
      split at h
      ·rename_i hlt
       obtain⟨hlt,hsz⟩:=hlt
       simp only[Option.some.injEq]at h
       subst h
       obtain⟨b,rfl⟩:=hA (by omega)
       exact⟨_,run_indexAt hd hti b 0 n cap k i h0 hlt,.vptr b _ l n i.toNat 0 e' sz len hrow hn (fun hx=>⟨cap,hcur hx,by rw[htis,hsz];omega⟩)⟩
      cases h
    | any=>simp at h
    | ref=>simp at h
    | pptr=>simp at h
    | vptr=>simp at h
    | mref=>simp at h
    | selfp=>simp at h
    | nils=>simp at h
    | ifc=>simp at h
    | full=>simp at h
    | tup=>simp at h
    | agg=>simp at h
    | fn=>simp at h
   cases h
  cases h
 cases h
theorem qindex_sound{t:TypeId}{a c:Value}{x y r:AV}(ha:ARel γ H Φ w a x)(hc:ARel γ H Φ w c y)(h:qindex E.T t x y=some r):
 ∃u,(Instr.index t a c).run E.P w=.ok u w∧ARel γ H Φ w u r:=by
 unfold qindex at h
 split at h
 ·rename_i s k i hT
  obtain⟨d,hd,hk⟩:=(E.hT _ _ hT).und
  have hdd:=tk_str hk
  rw[hdd]at hd
  have hcv:=rep_int (arel_pv hc)
  have hav:=rep_str (arel_pv ha)
  subst hcv;subst hav
  split at h
  ·rename_i h0
   split at h
   ·rename_i b hb
    simp only[Option.some.injEq]at h
    subst h
    have hlt:=(List.getElem?_eq_some_iff.1 hb)
    obtain⟨hlt,hbe⟩:=hlt
    have hget:(⟨⟨s⟩⟩:ByteArray)[i.toNat]?=some b:=by
     rw[ByteArray.getElem?_lt' _ _ hlt]
     exact congrArg some hbe
    refine⟨_,?_,.pv (.int .u8 _)⟩
    simp[Instr.index,asIntOf,run_underlying hd,h0,hget]
   cases h
  cases h
 cases h
theorem boundOr_sound{d n:Nat}{o:Option AV}{v:Option Value}(h:boundOr d o=some n)(hr:∀a x,o=some a→v=some x→ARel γ H Φ w x a)(hn:o=none↔v=none):
 (o=none∧v=none∧n=d)∨∃k,v=some (.int k (n:Int)):=by
 unfold boundOr at h
 split at h
 ·simp only[Option.some.injEq]at h
  exact .inl ⟨rfl,hn.1 rfl,h.symm⟩
 ·rename_i k i
  split at h
  ·rename_i h0
   simp only[Option.some.injEq]at h
   subst h
   cases v with
   | none=>exact absurd (hn.2 rfl) (by simp)
   | some x=>
     have hx:=rep_int (arel_pv (hr _ x rfl rfl))
     subst hx
     exact .inr ⟨k,by rw[Int.toNat_of_nonneg h0]⟩
  cases h
 cases h
theorem run_bounds(isSlice:Bool)(len cap l hh:Nat)(lo hi:Option Value)(hlo:(lo=none∧l=0)∨∃k,lo=some (.int k (l:Int)))(hhi:(hi=none∧hh=len)∨∃k,hi=some (.int k (hh:Int)))
 (h1:l≤hh) (h2:hh≤cap):(Instr.sliceBounds isSlice len cap lo hi none).run E.P w=.ok (l,hh,cap) w:=by
 have hb:∀ (k:IntKind) (i y:Nat) (code:BoundsCode),i≤y→(Instr.sliceBound (.int k (i:Int)) y code).run E.P w=.ok i w:=fun k i y code hi=>by
  have:0≤(i:Int)∧(i:Int)≤(y:Int):=⟨by omega,by omega⟩
  simp[Instr.sliceBound,asIntOf,this]
 unfold Instr.sliceBounds
 rcases hlo with⟨rfl,rfl⟩|⟨k,rfl⟩<;>rcases hhi with⟨rfl,rfl⟩|⟨k',rfl⟩<;>simp[hb,h1,h2]
theorem qslice_sound(hI:OInv E γ H Φ w){t:TypeId}{a:Value}{x r:AV}{lo hi:Option AV}{vlo vhi:Option Value}(ha:ARel γ H Φ w a x)
 (hlr:∀a x,lo=some a→vlo=some x→ARel γ H Φ w x a) (hln:lo=none↔vlo=none) (hhr:∀a x,hi=some a→vhi=some x→ARel γ H Φ w x a) (hhn:hi=none↔vhi=none)
 (h:qslice E.T H t x lo hi=some r):∃u,(Instr.sliceAt t a vlo vhi none).run E.P w=.ok u w∧ARel γ H Φ w u r:=by
 unfold qslice at h
 split at h
 ·rename_i hT
  obtain⟨d,hd,hk⟩:=(E.hT _ _ hT).und
  have hdd:=tk_str hk
  rw[hdd]at hd
  split at h
  ·rename_i s
   have hav:=rep_str (arel_pv ha)
   subst hav
   split at h
   ·rename_i l hh hl hhh
    split at h
    ·rename_i hb
     obtain⟨hb1,hb2⟩:=hb
     simp only[Option.some.injEq]at h
     subst h
     have hlo:(vlo=none∧l=0)∨∃k,vlo=some (.int k (l:Int)):=by
      rcases boundOr_sound hl hlr hln with⟨_,h1,h2⟩|h1
      ·exact .inl ⟨h1,h2⟩
      exact .inr h1
     have hhi:(vhi=none∧hh=s.length)∨∃k,vhi=some (.int k (hh:Int)):=by
      rcases boundOr_sound hhh hhr hhn with⟨_,h1,h2⟩|h1
      ·exact .inl ⟨h1,h2⟩
      exact .inr h1
     have hrb:=run_bounds (E:=E) (w:=w) false s.length s.length l hh vlo vhi hlo hhi hb1 hb2
     have hsz:(⟨⟨s⟩⟩:ByteArray).size=s.length:=rfl
     refine⟨.string ((⟨⟨s⟩⟩:ByteArray).extract l hh),?_,?_⟩
     ·simp[Instr.sliceAt,Instr.slice,run_underlying hd,hsz,hrb]
     rw[ByteArray.extract_mk]
     exact .pv (.str _)
    cases h
   cases h
  cases h
 ·rename_i e _ _ _ hT
  obtain⟨d,hd,hk⟩:=(E.hT _ _ hT).und
  have hdd:=tk_slice hk
  rw[hdd]at hd
  split at h
  ·rename_i te xs hTe hpv
   obtain⟨ti,hti,htis⟩:=(E.hT _ _ hTe).size
   have hrep:=toPV_rep hI ha hpv
   split at h
   ·rename_i l hh hl hhh
    split at h
    ·rename_i hb
     obtain⟨hb1,hb2,hb3⟩:=hb
     simp only[Option.some.injEq]at h
     subst h
     have hsize:∀y∈xs,y.cells.length=te.size:=fun y hy=>by
      have:=List.all_eq_true.1 hb3 y hy
      simpa using this
     have hlo:(vlo=none∧l=0)∨∃k,vlo=some (.int k (l:Int)):=by
      rcases boundOr_sound hl hlr hln with⟨_,h1,h2⟩|h1
      ·exact .inl ⟨h1,h2⟩
      exact .inr h1
     have hhi:(vhi=none∧hh=xs.length)∨∃k,vhi=some (.int k (hh:Int)):=by
      rcases boundOr_sound hhh hhr hhn with⟨_,h1,h2⟩|h1
      ·exact .inl ⟨h1,h2⟩
      exact .inr h1
     cases hrep with
     | sliceNil=>
       simp only[List.length_nil]at hb2
       have hh0:hh=0:=by omega
       have hl0:l=0:=by omega
       subst hh0;subst hl0
       have hrb:=run_bounds (E:=E) (w:=w) true 0 0 0 0 vlo vhi hlo hhi (by omega) (by omega)
       refine⟨.slice none 0 0,?_,.pv .sliceNil⟩
       simp[Instr.sliceAt,Instr.slice,run_underlying hd,hrb,run_sizeOf hti]
     | sliceAny A cap hm=>
       simp only[List.length_nil]at hb2
       have hh0:hh=0:=by omega
       have hl0:l=0:=by omega
       subst hh0;subst hl0
       have hrb:=run_bounds (E:=E) (w:=w) true 0 cap 0 0 vlo vhi hlo hhi (by omega) (by omega)
       refine⟨.slice (some A) 0 cap,?_,.pv (.sliceAny A cap hm)⟩
       simp only[Instr.sliceAt,Instr.slice,bind,Sem.run_bind',run_underlying hd,Result.andThen_ok,hrb,run_sizeOf hti]
       by_cases hcl:cap=0
       ·simp[hcl]
       simp[hcl,Addr.add]
     | slice b o len cap sz xs vs hlen hcc hm hsz h1 hcell hrp=>
       have hrb:=run_bounds (E:=E) (w:=w) true len cap l hh vlo vhi hlo (by rw[←hlen];exact hhi) hb1 (by omega)
       refine⟨.slice (some (if cap=l then⟨b,o,none⟩else⟨b,o+l * ti.size,none⟩)) (hh-l) (cap-l),?_,?_⟩
       ·simp only[Instr.sliceAt,Instr.slice,bind,Sem.run_bind',run_underlying hd,Result.andThen_ok,hrb,run_sizeOf hti]
        by_cases hcl:cap=l
        ·simp[hcl]
        simp[hcl,Addr.add_lit]
       have hszz:xs=[]∨sz=ti.size:=by
        cases xs with
        | nil=>exact .inl rfl
        | cons y ys=>exact .inr (by rw[htis,←hsize y (by simp),hsz y (by simp)])
       have hln':((xs.drop l).take (hh-l)).length=hh-l:=by
        rw[List.length_take,List.length_drop]
        omega
       have hfl:flat ((xs.drop l).take (hh-l))=((flat xs).drop (l * sz)).take ((hh-l) * sz):=by
        rw[flat_take (sz:=sz) (fun y hy=>hsz y (List.mem_of_mem_drop hy)) _ (by rw[List.length_drop];omega),flat_drop hsz _ (by omega)]
       have hsub:∀y∈(xs.drop l).take (hh-l),y∈xs:=fun y hy=>List.mem_of_mem_drop (List.mem_of_mem_take hy)
       have hflx:=flat_length hsz
       by_cases hcl:cap=l
       ·rw[if_pos hcl]
        have hnil:(xs.drop l).take (hh-l)=[]:=List.eq_nil_of_length_eq_zero (by omega)
        rw[hnil,show hh-l=0 from by omega]
        exact .pv (.slice b o 0 (cap-l) sz [] vs rfl (by omega) (by omega) (fun x hx=>by cases hx) (fun x hx=>by cases hx) (fun k hk=>absurd hk (by simp[flat_nil])) (fun k c hc=>by simp[flat_nil]at hc))
       rw[if_neg hcl]
       refine .pv (.slice b _ _ _ sz _ (fun k=>vs (l * sz+k)) hln' (by omega) (by omega) (fun y hy=>hsz y (hsub y hy)) (fun c hc=>h1 c ?_) (fun k hk=>?_) (fun k c hc=>?_))
       ·obtain⟨y,hy,hc'⟩:=List.mem_flatMap.1 hc
        exact flat_mem (hsub y hy) hc'
       ·rw[hfl,List.length_take,List.length_drop]at hk
        rcases hszz with rfl|hszz
        ·simp[flat_nil]at hk
        have:=hcell (l * sz+k) (by omega)
        rw[←hszz,Nat.add_assoc]
        exact this
       rw[hfl,List.getElem?_take]at hc
       split at hc
       ·rw[List.getElem?_drop]at hc
        exact hrp _ c hc
       cases hc
    cases h
   cases h
  cases h
 cases h
end
end Go.Abs
namespace Go.Abs
open Go.RowKit
section
variable {E:Env}{γ:List Gh}{H:List AObj}{Φ:Nat→Nat→Prop}{w:World}
def CellsRel(Φ:Nat→Nat→Prop)(w:World)(vs:List Value)(cs:List PV):Prop:=
 vs.length=cs.length∧(∀c∈cs,c.one=true)∧∀ (k:Nat) v c,vs[k]?=some v→cs[k]?=some c→Rep Φ w v c
theorem rep_cells{v:Value}{p:PV}(h:Rep Φ w v p):CellsRel Φ w v.cells.toList p.cells:=by
 cases h with
 | agg vs cs hl h1 hrep=>exact⟨hl,h1,hrep⟩
 | bool b=>exact⟨rfl,by simp[PV.cells,PV.one],fun k v c hv hc=>by cases k<;>simp[Value.cells,PV.cells]at hv hc;subst hv hc;exact .bool b⟩
 | int k' n=>exact⟨rfl,by simp[PV.cells,PV.one],fun k v c hv hc=>by cases k<;>simp[Value.cells,PV.cells]at hv hc;subst hv hc;exact .int k' n⟩
 | str s=>exact⟨rfl,by simp[PV.cells,PV.one],fun k v c hv hc=>by cases k<;>simp[Value.cells,PV.cells]at hv hc;subst hv hc;exact .str s⟩
 | nil=>exact⟨rfl,by simp[PV.cells,PV.one],fun k v c hv hc=>by cases k<;>simp[Value.cells,PV.cells]at hv hc;subst hv hc;exact .nil⟩
 | ifc t' v'=>exact⟨rfl,by simp[PV.cells,PV.one],fun k v c hv hc=>by cases k<;>simp[Value.cells,PV.cells]at hv hc;subst hv hc;exact .ifc t' v'⟩
 | nilp=>exact⟨rfl,by simp[PV.cells,PV.one],fun k v c hv hc=>by cases k<;>simp[Value.cells,PV.cells]at hv hc;subst hv hc;exact .nilp⟩
 | snil=>exact⟨rfl,by simp[PV.cells,PV.one],fun k v c hv hc=>by cases k<;>simp[Value.cells,PV.cells]at hv hc;subst hv hc;exact .snil⟩
 | sliceNil=>exact⟨rfl,by simp[PV.cells,PV.one],fun k v c hv hc=>by cases k<;>simp[Value.cells,PV.cells]at hv hc;subst hv hc;exact .sliceNil⟩
 | sliceAny A cap hm=>exact⟨rfl,by simp[PV.cells,PV.one],fun k v c hv hcc=>by
    cases k<;>simp[Value.cells,PV.cells]at hv hcc;subst hv hcc;exact .sliceAny A cap hm⟩
 | slice b o len cap sz xs vs hl hc hm hsz h1 hcell hrep=>exact⟨rfl,by simp[PV.cells,PV.one],fun k v c hv hcc=>by
    cases k<;>simp[Value.cells,PV.cells]at hv hcc;subst hv hcc;exact .slice b o len cap sz xs vs hl hc hm hsz h1 hcell hrep⟩
theorem fill_put(off:Nat):∀ (ps:List Value) (j:Nat) (cs:Array Value),off+j+ps.length≤cs.size→
 ((ps.zipIdx j).foldl (fun cs (c,j)=>cs.setIfInBounds (off+j) c) cs).size=cs.size∧
 ∀k:Nat,((ps.zipIdx j).foldl (fun cs (c,j)=>cs.setIfInBounds (off+j) c) cs)[k]?=if off+j≤k∧k<off+j+ps.length then ps[k-(off+j)]? else cs[k]?
 | [],j,cs,_=>⟨rfl,fun k=>by
    rw[if_neg (by simp)]
    rfl⟩
 | p::ps,j,cs,h=>by
   simp only[List.length_cons]at h
   obtain⟨h1,h2⟩:=fill_put off ps (j+1) (cs.setIfInBounds (off+j) p) (by simp;omega)
   rw[List.zipIdx_cons,List.foldl_cons]
   refine⟨by rw[h1];simp,fun k=>?_⟩
   rw[h2 k]
   by_cases hk:k=off+j
   ·subst hk
    rw[if_neg (by omega),if_pos ⟨by omega,by simp⟩,Array.getElem?_setIfInBounds,if_pos rfl,if_pos (by omega)]
    simp
   by_cases hin:off+(j+1)≤k∧k<off+(j+1)+ps.length
   ·rw[if_pos hin,if_pos ⟨by omega,by simp only[List.length_cons];omega⟩]
    rw[show k-(off+j)=k-(off+(j+1))+1 from by omega,List.getElem?_cons_succ]
   rw[if_neg hin,if_neg (by simp only[List.length_cons];omega),Array.getElem?_setIfInBounds,if_neg (by omega)]
theorem put_at(cs ps:List PV)(off k:Nat)(h:off+ps.length≤cs.length):(putCells cs off ps)[k]?=if off≤k∧k<off+ps.length then ps[k-off]? else cs[k]?:=by
 unfold putCells
 have hl:(cs.take off).length=off:=by rw[List.length_take];omega
 by_cases h1:k<off
 ·rw[if_neg (by omega),List.append_assoc,List.getElem?_append_left (by omega),List.getElem?_take,if_pos h1]
 rw[List.append_assoc,List.getElem?_append_right (by omega),hl]
 by_cases h2:k<off+ps.length
 ·rw[if_pos ⟨by omega,h2⟩,List.getElem?_append_left (by omega)]
 rw[if_neg (by omega),List.getElem?_append_right (by omega),List.getElem?_drop]
 congr 1
 omega
theorem put_len(cs ps:List PV)(off:Nat)(h:off+ps.length≤cs.length):(putCells cs off ps).length=cs.length:=by
 unfold putCells
 simp only[List.length_append,List.length_take,List.length_drop]
 omega
theorem fill_sound(hI:OInv E γ H Φ w)(fs:List (Nat×Nat))(place:Nat→Option (Nat×Nat))(hp:∀ (i:Nat) p,fs[i]?=some p→place i=some p):
 ∀ (parts:List (Nat×AV)) (vparts:List (Nat×Value)) (cs:List PV) (vs:Array Value) (r:List PV),vparts.length=parts.length→
  (∀ (j:Nat) (p:Nat×AV) (q:Nat×Value),parts[j]?=some p→vparts[j]?=some q→q.1=p.1∧ARel γ H Φ w q.2 p.2)→CellsRel Φ w vs.toList cs→
  qfill H fs cs parts=some r→∃us,Instr.fill place vs vparts=some us∧CellsRel Φ w us.toList r
 | [],vparts,cs,vs,r,hl,_,hcr,h=>by
   simp only[qfill,Option.some.injEq]at h
   subst h
   cases vparts with
   | nil=>exact⟨vs,rfl,hcr⟩
   | cons a b=>simp at hl
 | (i,v)::parts,[],cs,vs,r,hl,_,_,_=>by simp at hl
 | (i,v)::parts,(i',v')::vparts,cs,vs,r,hl,hrel,hcr,h=>by
   simp only[qfill]at h
   split at h
   ·rename_i off sz p hf hpv
    split at h
    ·rename_i hsz
     obtain⟨hsz,hoff⟩:=hsz
     obtain⟨he,hr⟩:=hrel 0 (i,v) (i',v') rfl rfl
     simp only at he
     subst he
     have hrep:=toPV_rep hI hr hpv
     obtain⟨hcl,hc1,hcc⟩:=rep_cells hrep
     have hvl:v'.cells.size=sz:=by rw[←hsz,←hcl];simp
     obtain⟨hl1,hl2,hl3⟩:=hcr
     have hsize:vs.size=cs.length:=by rw[←hl1];simp
     obtain⟨f1,f2⟩:=fill_put off v'.cells.toList 0 vs (by simp;omega)
     have hfold:v'.cells.zipIdx.foldl (fun cs (c,j)=>cs.setIfInBounds (off+j) c) vs=(v'.cells.toList.zipIdx 0).foldl (fun cs (c,j)=>cs.setIfInBounds (off+j) c) vs:=by
      rw[←Array.foldl_toList,Array.toList_zipIdx]
     have hstep:Instr.fill place vs ((i',v')::vparts)=Instr.fill place ((v'.cells.toList.zipIdx 0).foldl (fun cs (c,j)=>cs.setIfInBounds (off+j) c) vs) vparts:=by
      rw[←hfold]
      simp only[Instr.fill,hp _ _ hf]
      rw[if_neg]
      simp only[hvl,ne_eq,not_true_eq_false,decide_false,Bool.false_or,decide_eq_true_eq]
      omega
     rw[hstep]
     have hpc:off+p.cells.length≤cs.length:=by omega
     refine fill_sound hI fs place hp parts vparts _ _ r (by simpa using hl) (fun j a b ha hb=>hrel (j+1) a b (by simpa using ha) (by simpa using hb)) ⟨?_,fun c hc=>?_,fun k x c hx hc=>?_⟩ h
     ·rw[Array.length_toList,f1,put_len _ _ _ hpc,hsize]
     ·obtain⟨k,hk,hkc⟩:=List.getElem_of_mem hc
      have hg:(putCells cs off p.cells)[k]?=some c:=by rw[List.getElem?_eq_getElem hk,hkc]
      rw[put_at _ _ _ _ hpc]at hg
      split at hg
      ·exact hc1 c (List.mem_of_getElem? hg)
      exact hl2 c (List.mem_of_getElem? hg)
     rw[Array.getElem?_toList,f2 k]at hx
     rw[put_at _ _ _ _ hpc]at hc
     have hlen:v'.cells.toList.length=p.cells.length:=hcl
     by_cases hin:off≤k∧k<off+p.cells.length
     ·rw[if_pos ⟨by omega,by omega⟩]at hx
      rw[if_pos hin]at hc
      exact hcc _ x c hx hc
     rw[if_neg (by omega)]at hx
     rw[if_neg hin]at hc
     exact hl3 k x c (by rw[Array.getElem?_toList];exact hx) hc
    cases h
   cases h
theorem qbuild_sound(hI:OInv E γ H Φ w){t:TypeId}{parts:List (Nat×AV)}{vparts:Array (Nat×Value)}(hl:vparts.size=parts.length)
 (hrel:∀ (j:Nat) (p:Nat×AV) (q:Nat×Value),parts[j]?=some p→vparts[j]?=some q→q.1=p.1∧ARel γ H Φ w q.2 p.2) {r:AV} (h:qbuild E.T H t parts=some r):
 ∃u,(Instr.build t vparts).run E.P w=.ok u w∧ARel γ H Φ w u r:=by
 unfold qbuild at h
 split at h
 ·rename_i f0 fs1 _ _ z hT
  have hne:f0::fs1≠[]:=fun h=>by cases h
  generalize f0::fs1=fs at h hT hne
  obtain⟨cs,hcs,rfl⟩:=Option.map_eq_some_iff.1 h
  obtain⟨i,d,hi,hs,_,hd,hk,hz⟩:=(E.hT _ _ hT).info
  obtain⟨fields,rfl,hsize,hfs⟩:=tk_strct hk hne
  obtain⟨zv,hzv,hzl,_,hzr,_⟩:=hz z rfl
  have hplaces:∀ (l:List Field) (k:Nat),(∀ (j:Nat) f,l[j]?=some f→fields[k+j]?=some f)→
   (l.mapM (fun f=>do pure (f.offset,←sizeOf f.type):Field→Sem (Nat×Nat))).run E.P w=.ok ((fs.drop k).take l.length) w:=by
   intro l
   induction l with
   | nil=>intro k _;simp
   | cons f l ih=>
     intro k hf
     have h0:=hf 0 f rfl
     rw[Nat.add_zero]at h0
     have hkl:k<fs.length:=by
      have:=(Array.getElem?_eq_some_iff.1 h0).1
      omega
     obtain⟨hoff,fi,hfi,hfsz⟩:=hfs k f fs[k] h0 (List.getElem?_eq_getElem hkl)
     have hrest:=ih (k+1) (fun j g hg=>by
      have:=hf (j+1) g (by simpa using hg)
      rw[show k+1+j=k+(j+1) from by omega]
      exact this)
     have hone:(do pure (f.offset,←sizeOf f.type):Sem (Nat×Nat)).run E.P w=.ok fs[k] w:=by
      simp[run_sizeOf hfi,hoff,hfsz]
     simp only[bind]at hrest
     simp only[List.mapM_cons,bind,Sem.run_bind']at hone ⊢
     rw[hone]
     simp only[Result.andThen_ok,hrest]
     rw[List.drop_eq_getElem_cons hkl,List.length_cons,List.take_succ_cons]
     rfl
  have hmap:(fields.mapM (fun f=>do pure (f.offset,←sizeOf f.type):Field→Sem (Nat×Nat))).run E.P w=.ok fs.toArray w:=by
   have:=hplaces fields.toList 0 (fun j f hf=>by simpa using hf)
   rw[Array.mapM_eq_mapM_toList,Sem.run_map,this]
   simp[hsize]
  have hz1:∀c∈z,c.one=true:=fun c hc=>by
   obtain⟨k,hkk,hkc⟩:=List.getElem_of_mem hc
   have hkv:k<zv.cells.toList.length:=by omega
   exact(hzr k zv.cells.toList[k] c (List.getElem?_eq_getElem hkv) (by rw[List.getElem?_eq_getElem hkk,hkc])).1
  obtain⟨us,hus,hur⟩:=fill_sound hI fs (fs.toArray[·]?) (fun i p hp=>by simpa using hp) parts vparts.toList z zv.cells cs (by simpa using hl)
   (fun j p q hp hq=>hrel j p q hp (by simpa using hq)) ⟨hzl,hz1,fun k v c hv hc=>(hzr k v c hv hc).2.1 Φ w⟩ hcs
  refine⟨.agg us,?_,.pv (.agg us.toList cs hur.1 hur.2.1 hur.2.2)⟩
  unfold Instr.build
  simp only[bind]at hmap
  simp only[bind,Sem.run_bind']
  have hzrun:(zeroValue t).run E.P w=.ok zv w:=by simp[zeroValue,typeInfo,hi,hzv]
  simp only[hzrun,Result.andThen_ok,run_underlying hd,Sem.run_bind',hmap]
  rw[hus]
  rfl
 cases h
end
end Go.Abs
namespace Go.Abs
open Go.RowKit
section
variable {E:Env}{γ:List Gh}{H:List AObj}{Φ:Nat→Nat→Prop}{w:World}
theorem zero_sound{t:TypeId}{ti:TI}(hT:TOne E.P t ti){z:PV}(h:zeroPV ti=some z):∃v,(zeroValue t).run E.P w=.ok v w∧∀ (Φ:Nat→Nat→Prop) (w:World),Rep Φ w v z:=by
 obtain⟨i,d,hi,hs,_,hd,hk,hz⟩:=hT.info
 unfold zeroPV at h
 split at h
 ·rename_i fs z' hfs hz'
  simp only[Option.some.injEq]at h
  subst h
  obtain⟨zv,hzv,hzl,_,hzr,ha,_⟩:=hz z' hz'
  obtain⟨cs,rfl⟩:=ha fs hfs
  refine⟨_,by simp[zeroValue,typeInfo,hi,hzv],fun Φ w=>.agg cs.toList z' hzl (fun c hc=>?_) (fun k v c hv hc=>(hzr k v c hv hc).2.1 Φ w)⟩
  obtain⟨k,hkk,hkc⟩:=List.getElem_of_mem hc
  have hkv:k<(Value.agg cs).cells.toList.length:=by omega
  exact(hzr k _ c (List.getElem?_eq_getElem hkv) (by rw[List.getElem?_eq_getElem hkk,hkc])).1
 ·cases h
 ·rename_i z' hz' k1 k2
  simp only[Option.some.injEq]at h
  subst h
  obtain⟨zv,hzv,hzl,_,hzr,_,ha⟩:=hz [z'] hz'
  refine⟨zv,by simp[zeroValue,typeInfo,hi,hzv],fun Φ w=>?_⟩
  have hc:=ha (fun fs e=>k1 fs e)
  exact(hzr 0 zv z' (by rw[hc];rfl) rfl).2.1 Φ w
 cases h
theorem find_sound{d:TypeDesc}{kv:Value}{kp:PV}(hkey:(d=.string∧∃s,kp=.str s∧kv=.string ⟨⟨s⟩⟩)∨(∃j n,d=.int j∧kp=.int j n∧kv=.int j n)):
 ∀ (es:List (PV×PV)) (ents:List MapEntry) (i:Nat) (r:Option (Nat×PV)),ents.length=es.length→
  (∀ (k:Nat) x p,ents[k]?=some x→es[k]?=some p→Rep Φ w x.key p.1∧Rep Φ w x.val p.2)→findIn kp es i=some r→
  (r=none∧Instr.findNow d kv ents i=some none)∨∃j p v x,r=some (j,p)∧Instr.findNow d kv ents i=some (some (j,v))∧Rep Φ w v p∧i≤j∧j<i+es.length∧ents[j-i]?=some x∧x.val=v∧
    (∀e,es[j-i]?=some e→keyEq kp e.1=some true)
 | [],ents,i,r,hl,_,h=>by
   simp only[findIn,Option.some.injEq]at h
   cases ents with
   | nil=>exact .inl ⟨h.symm,rfl⟩
   | cons a b=>simp at hl
 | e::es,[],i,r,hl,_,_=>by simp at hl
 | e::es,x::ents,i,r,hl,hrel,h=>by
   obtain⟨hk,hv⟩:=hrel 0 x e rfl rfl
   have hsame:∀b,keyEq kp e.1=some b→Instr.sameNow d kv x.key=some b:=by
    intro b hb
    rcases hkey with⟨rfl,s,rfl,rfl⟩|⟨j,n,rfl,rfl,rfl⟩
    ·cases he:e.1 with
     | str s'=>
       rw[he]at hk hb
       rw[rep_str hk]
       simp only[keyEq,Option.some.injEq]at hb
       subst hb
       simp only[Instr.sameNow,Option.some.injEq]
       rw[beq_toListBytes]
       simp
     | _=>rw[he]at hb;simp[keyEq]at hb
    cases he:e.1 with
    | int j' n'=>
      rw[he]at hk hb
      rw[rep_int hk]
      simpa[keyEq,Instr.sameNow]using hb
    | _=>rw[he]at hb;simp[keyEq]at hb
   simp only[findIn]at h
   split at h
   ·rename_i hb
    simp only[Option.some.injEq]at h
    subst h
    refine .inr ⟨i,e.2,x.val,x,rfl,by simp[Instr.findNow,hsame _ hb],hv,Nat.le_refl _,by simp,by simp,rfl,fun e' he'=>?_⟩
    simp only[Nat.sub_self,List.getElem?_cons_zero,Option.some.injEq]at he'
    rw[←he']
    exact hb
   ·rename_i hb
    rcases find_sound hkey es ents (i+1) r (by simpa using hl) (fun k x p hx hp=>hrel (k+1) x p (by simpa using hx) (by simpa using hp)) h with⟨h1,h2⟩|⟨j,p,v,y,h1,h2,h3,h4,h5,h6,h7,h8⟩
    ·exact .inl ⟨h1,by simp[Instr.findNow,hsame _ hb,h2]⟩
    refine .inr ⟨j,p,v,y,h1,by simp[Instr.findNow,hsame _ hb,h2],h3,by omega,by simp only[List.length_cons];omega,?_,h7,fun e' he'=>h8 e' ?_⟩
    ·rw[show j-i=j-(i+1)+1 from by omega,List.getElem?_cons_succ]
     exact h6
    rw[show j-i=j-(i+1)+1 from by omega,List.getElem?_cons_succ]at he'
    exact he'
   cases h
theorem simpleKey_sound{kt:TypeId}{kp:PV}{kv:Value}(h:simpleKey E.T kt kp=true)(hr:Rep Φ w kv kp):
 ∃d,E.P.underlying kt=some d∧((d=.string∧∃s,kp=.str s∧kv=.string ⟨⟨s⟩⟩)∨(∃j n,d=.int j∧kp=.int j n∧kv=.int j n)):=by
 unfold simpleKey at h
 split at h
 ·rename_i s hT
  obtain⟨d,hd,hk⟩:=(E.hT _ _ hT).und
  exact⟨d,hd,.inl ⟨tk_str hk,s,rfl,rep_str hr⟩⟩
 ·rename_i j _ _ _ j' n hT
  obtain⟨d,hd,hk⟩:=(E.hT _ _ hT).und
  have:j=j':=by simpa using h
  subst this
  exact⟨d,hd,.inr ⟨j,n,tk_int hk,rfl,rep_int hr⟩⟩
 cases h
theorem run_checkKey{kt:TypeId}{d:TypeDesc}{kv:Value}(hd:E.P.underlying kt=some d)(h:d=.string∨∃j,d=.int j)(b:Bool):(Instr.checkKey b 10000 kt kv).run E.P w=.ok () w:=by
 have key:∀n,(Instr.checkKey b (n+1) kt kv).run E.P w=.ok () w:=fun n=>by
  rcases h with rfl|⟨j,rfl⟩<;>simp[Instr.checkKey,run_underlying hd]
 exact key 9999
theorem qlookup_sound(hI:OInv E γ H Φ w){t:TypeId}{m k:Value}{x y r:AV}(hm:ARel γ H Φ w m x)(hk:ARel γ H Φ w k y){ok:Bool}(h:qlookup E.T H t x y ok=some r):
 ∃u,(Instr.lookup t m k ok).run E.P w=.ok u w∧ARel γ H Φ w u r:=by
 unfold qlookup at h
 split at h
 ·rename_i kt et _ _ _ l kp hT
  split at h
  ·rename_i es te hH hTe
   split at h
   ·rename_i hsk
    obtain⟨d,hd,hkk⟩:=(E.hT _ _ hT).und
    have hdd:=tk_map hkk
    rw[hdd]at hd
    obtain⟨dk,hdk,hkey⟩:=simpleKey_sound hsk (arel_pv hk)
    obtain⟨g,hgl,b,ents,clock,hv,_,hb,hsz,hrel,_⟩:=hI.gh hH
    cases hm with
    | mref b' l hg=>
      have hbb:b'=b:=by
       simp only[gv,hgl,Option.map_some,Option.some.injEq]at hg
       rw[hv]at hg
       injection hg with hg
       injection hg with hg
       exact hg.symm
      subst hbb
      have hget:(getObj b').run E.P w=.ok (.map ents clock) w:=by simp[getObj,Sem.run,hb]
      have hck:(Instr.checkKey ents.isEmpty 10000 kt k).run E.P w=.ok () w:=run_checkKey hdk (hkey.elim (fun h=>.inl h.1) (fun⟨j,_,h,_⟩=>.inr ⟨j,h⟩)) _
      have hfind:=find_sound (Φ:=Φ) (w:=w) hkey es ents.toList 0
      split at h
      ·rename_i j p hf
       simp only[Option.some.injEq]at h
       subst h
       rcases hfind _ (by simpa using hsz) (fun k x p hx hp=>hrel k x p (by simpa using hx) hp) hf with⟨h1,_⟩|⟨j',p',v,y',h1,h2,h3,_⟩
       ·cases h1
       simp only[Option.some.injEq,Prod.mk.injEq]at h1
       obtain⟨rfl,rfl⟩:=h1
       have hfk:(Instr.findKey kt k ents.toList).run E.P w=.ok (some (j,v)) w:=by simp[Instr.findKey,run_underlying hdk,h2]
       cases ok with
       | true=>
         refine⟨.tuple #[v,.bool true],?_,.tup [v,.bool true] _ rfl (fun k x c hx hc=>?_)⟩
         ·simp[Instr.lookup,run_underlying hd,hget,hck,hfk]
         match k,hx,hc with
         | 0,hx,hc=>simp at hx hc;subst hx hc;exact .pv h3
         | 1,hx,hc=>simp at hx hc;subst hx hc;exact .pv (.bool _)
         | k+2,hx,hc=>simp at hx
       | false=>
         refine⟨v,?_,.pv h3⟩
         simp[Instr.lookup,run_underlying hd,hget,hck,hfk]
      ·rename_i z hz hf
       simp only[Option.some.injEq]at h
       subst h
       obtain⟨zv,hzr,hzz⟩:=zero_sound (w:=w) (E.hT _ _ hTe) hf
       rcases hfind _ (by simpa using hsz) (fun k x p hx hp=>hrel k x p (by simpa using hx) hp) hz with⟨_,h2⟩|⟨j',p',v,y',h1,_⟩
       ·have hfk:(Instr.findKey kt k ents.toList).run E.P w=.ok none w:=by simp[Instr.findKey,run_underlying hdk,h2]
        cases ok with
        | true=>
          refine⟨.tuple #[zv,.bool false],?_,.tup [zv,.bool false] _ rfl (fun k x c hx hc=>?_)⟩
          ·simp[Instr.lookup,run_underlying hd,hget,hck,hfk,hzr]
          match k,hx,hc with
          | 0,hx,hc=>simp at hx hc;subst hx hc;exact .pv (hzz _ _)
          | 1,hx,hc=>simp at hx hc;subst hx hc;exact .pv (.bool _)
          | k+2,hx,hc=>simp at hx
        | false=>
          refine⟨zv,?_,.pv (hzz _ _)⟩
          simp[Instr.lookup,run_underlying hd,hget,hck,hfk,hzr]
       cases h1
      cases h
   cases h
  cases h
 cases h
end
end Go.Abs
